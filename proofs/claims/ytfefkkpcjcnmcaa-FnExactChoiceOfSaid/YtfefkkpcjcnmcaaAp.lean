/- append to a slice of the walk's own. Plain theorems; no condition but that the lengths are not beyond all bounds. -/
import Derived.Test.YtfefkkpcjcnmcaaW
import Derived.Laws.AppendOwn
namespace Go.Proofs.Ytfefkkpcjcnmcaa.Wk
set_option linter.unusedVariables false
set_option linter.unusedSimpArgs false
open Go Go.RowKit Mem
variable {P : Program} {n : Nat} {O : List Nat} {w0 : World} {l : List (Nat × Value)} {L pre post : List (Nat × TypeId × Array Value)} {Q : Exit → Act → World → Prop} {ops : Array Oper} {o : Oper} {rest : List Oper} {d : Nat} {x y : Operand}
theorem Kn.perm {w : World} {L' : List (Nat × TypeId × Array Value)} (h : Kn O w0 w L) (hp : L.Perm L') : Kn O w0 w L' :=
  ⟨h.os, h.tape, h.output, h.size, h.base, fun k hk hx => h.keep k hk fun b hb => hx b (hp.mem_iff.1 hb), fun b hb => h.low b (hp.mem_iff.2 hb), fun b hb => h.has b (hp.mem_iff.2 hb), (hp.map _).nodup_iff.1 h.nodup⟩
theorem SlA.at_ {O : List Nat} {w0 w : World} {sz : Nat} {A : Option Addr} {xs : List (List Value)} {L : List (Nat × TypeId × Array Value)} (hS : SlA O w0 sz A xs) (hL : Kn O w0 w L) : SlA O w sz A xs := fun i c h => by
  obtain ⟨a, b, d, e, g, h'⟩ := hS i c h
  exact ⟨a, b, d, e, g, fun j u hu => Kn.oldc hL (h' j u hu) g⟩
theorem Kn.rid {w : World} {b : Nat × TypeId × Array Value} (h : Kn O w0 w (b :: L)) (hb : b.1 ∉ O) : Kn O w0 w L :=
  Own.drop h 1 fun a ha => by
    have e : a = b := by simpa using ha
    subst e
    exact (h.low a List.mem_cons_self).resolve_right hb
theorem Kn.swapIn {w : World} {a b : Nat × TypeId × Array Value} (h : Kn O w0 w (b :: (pre ++ a :: post))) (ha : a.1 ∉ O) : Kn O w0 w (pre ++ b :: post) := by
  have h1 : Kn O w0 w (a :: b :: (pre ++ post)) := h.perm (((List.perm_middle (l₁ := pre) (a := a) (l₂ := post)).cons b).trans (List.Perm.swap a b _))
  exact (h1.rid ha).perm List.perm_middle.symm
/-- A slice of the walk's own: n elements of sz cells in a block cur that has room for cap. -/
structure Ap (sz n cap : Nat) (cur : Array Value) (xs : List Value) : Prop where
  len : xs.length = n * sz
  le : n ≤ cap
  max : cap ≤ maxLen
  size : cur.size = cap * sz
  take : cur.toList.take (n * sz) = xs
theorem Ap.nil (sz : Nat) : Ap sz 0 0 #[] [] := ⟨by simp, Nat.le_refl _, by unfold maxLen; omega, by simp, by simp⟩
/-- What append gives; and what stands then. -/
theorem run_app {t ty e : TypeId} {z : Value} {sz bytes : Nat} (ht : P.underlying t = some (.slice e)) (hi : (P.info? e).map (fun i => (i.zero, i.size, i.bytes)) = some (some z, sz, bytes)) (hzs : z.cells.size = sz) (hsz : 0 < sz)
    {w : World} {g k cap : Nat} {cur : Array Value} {xs : List Value} (hA : Ap sz k cap cur xs) (hL : Kn O w0 w (pre ++ (g, e, cur) :: post)) (hO : g ∉ O) {g2 m c : Nat} {T2 : TypeId} {c2 : Array Value} (h2 : w.heap[g2]? = some (.cells c2 T2 (0, 0))) {news : List Value} (hl : news.length = m * sz) (hn : c2.toList.take (m * sz) = news) (h1 : ∀ u ∈ news, u.oneCell' = true)
    (h63 : k + m ≤ maxLen) (hbytes : (k + m) * bytes ≤ 140737488355328) :
    ∃ g' cap' cur' w', (Builtin.append_ #[t, t] ty #[.slice (some ⟨g, 0, none⟩) k cap, .slice (some ⟨g2, 0, none⟩) m c]).run P w = .ok (.slice (some ⟨g', 0, none⟩) (k + m) cap') w' ∧ Ap sz (k + m) cap' cur' (xs ++ news) ∧ Kn O w0 w' (pre ++ (g', e, cur') :: post) := by
  obtain ⟨i, q1, q2, q3, q4⟩ := info_parts hi
  subst q3; subst q4
  have hg := hL.has (g, e, cur) (by simp)
  have hnews : ∀ j u, news[j]? = some u → w.cell? ((⟨g2, 0, none⟩ : Addr).add j) = some u := fun j u hu => by
    rw [add_lit0, Nat.zero_add, cell_of_row w g2 j c2 T2 (0, 0) h2]
    subst hn
    rw [List.getElem?_take] at hu
    split at hu
    · simpa using hu
    · cases hu
  have hlen : (xs ++ news).length = (k + m) * i.size := by rw [List.length_append, hA.len, hl, Nat.add_mul]
  by_cases hroom : k + m ≤ cap
  · have hfit : k * i.size + news.length ≤ cur.size := by rw [hl, hA.size, ← Nat.add_mul]; exact Nat.mul_le_mul_right _ hroom
    have hr := run_append_room (P := P) w t ty e i ht q1 g k cap cur hg ⟨g2, 0, none⟩ m c news hl hnews h1 hroom hfit
    refine ⟨g, cap, (cur.toList.take (k * i.size) ++ news ++ cur.toList.drop (k * i.size + news.length)).toArray, _, hr, ⟨hlen, hroom, hA.max, ?_, ?_⟩, ?_⟩
    · have := hA.size
      simp only [List.size_toArray, List.length_append, List.length_take, List.length_drop, Array.length_toList]
      omega
    · rw [hA.take, ← hlen]
      exact List.take_left
    · have hp : Kn O w0 w ((g, e, cur) :: (pre ++ post)) := hL.perm List.perm_middle
      exact Kn.perm (L := (g, e, _) :: (pre ++ post)) (Own.put hp (i := 0) rfl _) List.perm_middle.symm
  · have holds : ∀ j u, xs[j]? = some u → w.cell? ((⟨g, 0, none⟩ : Addr).add j) = some u := fun j u hu => by
      rw [add_lit0, Nat.zero_add, cell_of_row w g j cur e (0, 0) hg]
      rw [← hA.take, List.getElem?_take] at hu
      split at hu
      · simpa using hu
      · cases hu
    have hsmall : k + m ≤ 9223372036854775807 := by simp only [maxLen] at h63; omega
    have hle := hA.le
    have hr := run_append_grow (P := P) w t ty e i z ht q1 q2 ⟨g, 0, none⟩ k cap xs hA.len holds ⟨g2, 0, none⟩ m c news hl hnews (by omega) (by omega) (growslice_fits (by omega) hbytes)
    have hge := grownCap_ge w (k + m) cap e
    refine ⟨w.heap.size, grownCap w (k + m) cap e, xs.toArray ++ news.toArray ++ Builtin.zeroCells z.cells (grownCap w (k + m) cap e - (k + m)), _, hr, ⟨hlen, hge, grownCap_le_maxLen w (k + m) cap e h63, ?_, ?_⟩, ?_⟩
    · simp only [Array.size_append, List.size_toArray, size_zeroCells, hzs, hA.len, hl, ← Nat.add_mul]
      congr 1
      omega
    · simp only [Array.toList_append, List.append_assoc]
      rw [← List.append_assoc, ← hlen]
      exact List.take_left
    · exact Kn.swapIn (b := (w.heap.size, e, _)) (a := (g, e, cur)) (Own.new (Own.drew hL) e _) hO
theorem s_app {t e : TypeId} {z : Value} {sz bytes : Nat} (ho : o.op = .call { callee := .builtin .append, args := #[x, y], argTypes := #[t, t] }) (ht : P.underlying t = some (.slice e)) (hi : (P.info? e).map (fun i => (i.zero, i.size, i.bytes)) = some (some z, sz, bytes)) (hzs : z.cells.size = sz) (hsz : 0 < sz)
    {g k cap : Nat} {cur : Array Value} {xs : List Value} (hA : Ap sz k cap cur xs) (hO : g ∉ O) {g2 m c : Nat} {T2 : TypeId} {c2 : Array Value} {news : List Value} (hx : ev l x = some (.slice (some ⟨g, 0, none⟩) k cap)) (hy : ev l y = some (.slice (some ⟨g2, 0, none⟩) m c)) (hm : (g2, T2, c2) ∈ pre ++ (g, e, cur) :: post) (hl : news.length = m * sz) (hn : c2.toList.take (m * sz) = news) (h1 : ∀ u ∈ news, u.oneCell' = true)
    (h63 : k + m ≤ maxLen) (hbytes : (k + m) * bytes ≤ 140737488355328) (hg : o.guard = none) (hd : o.dst = some d) (hdn : Nat.blt d n = true)
    (h : ∀ g' cap' cur', Ap sz (k + m) cap' cur' (xs ++ news) → S P ops Q n O w0 rest ((d, .slice (some ⟨g', 0, none⟩) (k + m) cap') :: l) (pre ++ (g', e, cur') :: post)) : S P ops Q n O w0 (o :: rest) l (pre ++ (g, e, cur) :: post) := fun a w hF hL =>
  wpList_plain hg fun K hK => by
    obtain ⟨g', cap', cur', w', hr, hA', hL'⟩ := run_app (P := P) (ty := o.type) (c := c) ht hi hzs hsz hA hL hO (hL.has _ hm) hl hn h1 h63 hbytes
    unfold Oper.wp execOp
    simp only [ho, resolve, invoke, builtin, Sem.run_bind, Sem.run_pure, Result.andThen_ok, List.map_toArray, List.map_cons, List.map_nil, hF.eval hx, hF.eval hy, hr]
    show K (a.put o.dst _) w'
    rw [hd]
    exact hK _ _ (h g' cap' cur' hA' _ _ (hF.put hdn _) hL')
theorem s_app0 {t e : TypeId} {z : Value} {sz bytes : Nat} {g k cap : Nat} {cur : Array Value} {xs : List Value} {g2 m c : Nat} {T2 : TypeId} {c2 : List Value} (hA : Ap sz k cap cur xs) (ho : o.op = .call { callee := .builtin .append, args := #[x, y], argTypes := #[t, t] }) (hx : ev l x = some (.slice (some ⟨g, 0, none⟩) k cap)) (hy : ev l y = some (.slice (some ⟨g2, 0, none⟩) m c)) (ht : P.underlying t = some (.slice e)) (hi : (P.info? e).map (fun i => (i.zero, i.size, i.bytes)) = some (some z, sz, bytes)) (hzs : z.cells.size = sz) (hsz : 0 < sz) (hO : g ∉ O) (hO2 : g2 ∉ O) (hl : c2.length = m * sz) (h1 : ∀ u ∈ c2, u.oneCell' = true)
    (h63 : k + m ≤ maxLen) (hbytes : (k + m) * bytes ≤ 140737488355328) (hg : o.guard = none) (hd : o.dst = some d) (hdn : Nat.blt d n = true)
    (h : ∀ g' cap' cur', Ap sz (k + m) cap' cur' (xs ++ c2) → S P ops Q n O w0 rest ((d, .slice (some ⟨g', 0, none⟩) (k + m) cap') :: l) ((g', e, cur') :: L)) : S P ops Q n O w0 (o :: rest) l ((g2, T2, c2.toArray) :: (g, e, cur) :: L) :=
  s_app (pre := [(g2, T2, c2.toArray)]) (post := L) ho ht hi hzs hsz hA hO hx hy List.mem_cons_self hl (by rw [← hl]; simp) h1 h63 hbytes hg hd hdn (fun g' cap' cur' hA' a w hF hL => h g' cap' cur' hA' a w hF (Kn.rid hL hO2))
theorem s_app1 {b0 : Nat × TypeId × Array Value} {t e : TypeId} {z : Value} {sz bytes : Nat} {g k cap : Nat} {cur : Array Value} {xs : List Value} {g2 m c : Nat} {T2 : TypeId} {c2 : List Value} (hA : Ap sz k cap cur xs) (ho : o.op = .call { callee := .builtin .append, args := #[x, y], argTypes := #[t, t] }) (hx : ev l x = some (.slice (some ⟨g, 0, none⟩) k cap)) (hy : ev l y = some (.slice (some ⟨g2, 0, none⟩) m c)) (ht : P.underlying t = some (.slice e)) (hi : (P.info? e).map (fun i => (i.zero, i.size, i.bytes)) = some (some z, sz, bytes)) (hzs : z.cells.size = sz) (hsz : 0 < sz) (hO : g ∉ O) (hO2 : g2 ∉ O) (hl : c2.length = m * sz) (h1 : ∀ u ∈ c2, u.oneCell' = true)
    (h63 : k + m ≤ maxLen) (hbytes : (k + m) * bytes ≤ 140737488355328) (hg : o.guard = none) (hd : o.dst = some d) (hdn : Nat.blt d n = true)
    (h : ∀ g' cap' cur', Ap sz (k + m) cap' cur' (xs ++ c2) → S P ops Q n O w0 rest ((d, .slice (some ⟨g', 0, none⟩) (k + m) cap') :: l) (b0 :: (g', e, cur') :: L)) : S P ops Q n O w0 (o :: rest) l ((g2, T2, c2.toArray) :: b0 :: (g, e, cur) :: L) :=
  s_app (pre := [(g2, T2, c2.toArray), b0]) (post := L) ho ht hi hzs hsz hA hO hx hy List.mem_cons_self hl (by rw [← hl]; simp) h1 h63 hbytes hg hd hdn (fun g' cap' cur' hA' a w hF hL => h g' cap' cur' hA' a w hF (Kn.rid hL hO2))
theorem s_app2 {b0 b1 : Nat × TypeId × Array Value} {t e : TypeId} {z : Value} {sz bytes : Nat} {g k cap : Nat} {cur : Array Value} {xs : List Value} {g2 m c : Nat} {T2 : TypeId} {c2 : List Value} (hA : Ap sz k cap cur xs) (ho : o.op = .call { callee := .builtin .append, args := #[x, y], argTypes := #[t, t] }) (hx : ev l x = some (.slice (some ⟨g, 0, none⟩) k cap)) (hy : ev l y = some (.slice (some ⟨g2, 0, none⟩) m c)) (ht : P.underlying t = some (.slice e)) (hi : (P.info? e).map (fun i => (i.zero, i.size, i.bytes)) = some (some z, sz, bytes)) (hzs : z.cells.size = sz) (hsz : 0 < sz) (hO : g ∉ O) (hO2 : g2 ∉ O) (hl : c2.length = m * sz) (h1 : ∀ u ∈ c2, u.oneCell' = true)
    (h63 : k + m ≤ maxLen) (hbytes : (k + m) * bytes ≤ 140737488355328) (hg : o.guard = none) (hd : o.dst = some d) (hdn : Nat.blt d n = true)
    (h : ∀ g' cap' cur', Ap sz (k + m) cap' cur' (xs ++ c2) → S P ops Q n O w0 rest ((d, .slice (some ⟨g', 0, none⟩) (k + m) cap') :: l) (b0 :: b1 :: (g', e, cur') :: L)) : S P ops Q n O w0 (o :: rest) l ((g2, T2, c2.toArray) :: b0 :: b1 :: (g, e, cur) :: L) :=
  s_app (pre := [(g2, T2, c2.toArray), b0, b1]) (post := L) ho ht hi hzs hsz hA hO hx hy List.mem_cons_self hl (by rw [← hl]; simp) h1 h63 hbytes hg hd hdn (fun g' cap' cur' hA' a w hF hL => h g' cap' cur' hA' a w hF (Kn.rid hL hO2))
theorem s_app3 {b0 b1 b2 : Nat × TypeId × Array Value} {t e : TypeId} {z : Value} {sz bytes : Nat} {g k cap : Nat} {cur : Array Value} {xs : List Value} {g2 m c : Nat} {T2 : TypeId} {c2 : List Value} (hA : Ap sz k cap cur xs) (ho : o.op = .call { callee := .builtin .append, args := #[x, y], argTypes := #[t, t] }) (hx : ev l x = some (.slice (some ⟨g, 0, none⟩) k cap)) (hy : ev l y = some (.slice (some ⟨g2, 0, none⟩) m c)) (ht : P.underlying t = some (.slice e)) (hi : (P.info? e).map (fun i => (i.zero, i.size, i.bytes)) = some (some z, sz, bytes)) (hzs : z.cells.size = sz) (hsz : 0 < sz) (hO : g ∉ O) (hO2 : g2 ∉ O) (hl : c2.length = m * sz) (h1 : ∀ u ∈ c2, u.oneCell' = true)
    (h63 : k + m ≤ maxLen) (hbytes : (k + m) * bytes ≤ 140737488355328) (hg : o.guard = none) (hd : o.dst = some d) (hdn : Nat.blt d n = true)
    (h : ∀ g' cap' cur', Ap sz (k + m) cap' cur' (xs ++ c2) → S P ops Q n O w0 rest ((d, .slice (some ⟨g', 0, none⟩) (k + m) cap') :: l) (b0 :: b1 :: b2 :: (g', e, cur') :: L)) : S P ops Q n O w0 (o :: rest) l ((g2, T2, c2.toArray) :: b0 :: b1 :: b2 :: (g, e, cur) :: L) :=
  s_app (pre := [(g2, T2, c2.toArray), b0, b1, b2]) (post := L) ho ht hi hzs hsz hA hO hx hy List.mem_cons_self hl (by rw [← hl]; simp) h1 h63 hbytes hg hd hdn (fun g' cap' cur' hA' a w hF hL => h g' cap' cur' hA' a w hF (Kn.rid hL hO2))
theorem s_app4 {b0 b1 b2 b3 : Nat × TypeId × Array Value} {t e : TypeId} {z : Value} {sz bytes : Nat} {g k cap : Nat} {cur : Array Value} {xs : List Value} {g2 m c : Nat} {T2 : TypeId} {c2 : List Value} (hA : Ap sz k cap cur xs) (ho : o.op = .call { callee := .builtin .append, args := #[x, y], argTypes := #[t, t] }) (hx : ev l x = some (.slice (some ⟨g, 0, none⟩) k cap)) (hy : ev l y = some (.slice (some ⟨g2, 0, none⟩) m c)) (ht : P.underlying t = some (.slice e)) (hi : (P.info? e).map (fun i => (i.zero, i.size, i.bytes)) = some (some z, sz, bytes)) (hzs : z.cells.size = sz) (hsz : 0 < sz) (hO : g ∉ O) (hO2 : g2 ∉ O) (hl : c2.length = m * sz) (h1 : ∀ u ∈ c2, u.oneCell' = true)
    (h63 : k + m ≤ maxLen) (hbytes : (k + m) * bytes ≤ 140737488355328) (hg : o.guard = none) (hd : o.dst = some d) (hdn : Nat.blt d n = true)
    (h : ∀ g' cap' cur', Ap sz (k + m) cap' cur' (xs ++ c2) → S P ops Q n O w0 rest ((d, .slice (some ⟨g', 0, none⟩) (k + m) cap') :: l) (b0 :: b1 :: b2 :: b3 :: (g', e, cur') :: L)) : S P ops Q n O w0 (o :: rest) l ((g2, T2, c2.toArray) :: b0 :: b1 :: b2 :: b3 :: (g, e, cur) :: L) :=
  s_app (pre := [(g2, T2, c2.toArray), b0, b1, b2, b3]) (post := L) ho ht hi hzs hsz hA hO hx hy List.mem_cons_self hl (by rw [← hl]; simp) h1 h63 hbytes hg hd hdn (fun g' cap' cur' hA' a w hF hL => h g' cap' cur' hA' a w hF (Kn.rid hL hO2))
theorem s_app5 {b0 b1 b2 b3 b4 : Nat × TypeId × Array Value} {t e : TypeId} {z : Value} {sz bytes : Nat} {g k cap : Nat} {cur : Array Value} {xs : List Value} {g2 m c : Nat} {T2 : TypeId} {c2 : List Value} (hA : Ap sz k cap cur xs) (ho : o.op = .call { callee := .builtin .append, args := #[x, y], argTypes := #[t, t] }) (hx : ev l x = some (.slice (some ⟨g, 0, none⟩) k cap)) (hy : ev l y = some (.slice (some ⟨g2, 0, none⟩) m c)) (ht : P.underlying t = some (.slice e)) (hi : (P.info? e).map (fun i => (i.zero, i.size, i.bytes)) = some (some z, sz, bytes)) (hzs : z.cells.size = sz) (hsz : 0 < sz) (hO : g ∉ O) (hO2 : g2 ∉ O) (hl : c2.length = m * sz) (h1 : ∀ u ∈ c2, u.oneCell' = true)
    (h63 : k + m ≤ maxLen) (hbytes : (k + m) * bytes ≤ 140737488355328) (hg : o.guard = none) (hd : o.dst = some d) (hdn : Nat.blt d n = true)
    (h : ∀ g' cap' cur', Ap sz (k + m) cap' cur' (xs ++ c2) → S P ops Q n O w0 rest ((d, .slice (some ⟨g', 0, none⟩) (k + m) cap') :: l) (b0 :: b1 :: b2 :: b3 :: b4 :: (g', e, cur') :: L)) : S P ops Q n O w0 (o :: rest) l ((g2, T2, c2.toArray) :: b0 :: b1 :: b2 :: b3 :: b4 :: (g, e, cur) :: L) :=
  s_app (pre := [(g2, T2, c2.toArray), b0, b1, b2, b3, b4]) (post := L) ho ht hi hzs hsz hA hO hx hy List.mem_cons_self hl (by rw [← hl]; simp) h1 h63 hbytes hg hd hdn (fun g' cap' cur' hA' a w hF hL => h g' cap' cur' hA' a w hF (Kn.rid hL hO2))
end Go.Proofs.Ytfefkkpcjcnmcaa.Wk
