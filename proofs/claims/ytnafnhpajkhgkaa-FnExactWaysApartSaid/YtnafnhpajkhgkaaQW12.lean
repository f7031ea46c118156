import Derived.Laws.AppendOwn
import Derived.Test.YtnafnhpajkhgkaaQW02
import Derived.Test.YtnafnhpajkhgkaaQW07
import Derived.Test.YtnafnhpajkhgkaaQW08
import Derived.Test.YtnafnhpajkhgkaaQW11
/- append to a slice of the walk's own. Plain theorems; no condition but that the lengths are not beyond all bounds. -/
namespace Go.Proofs.Ytnafnhpajkhgkaa.Wk
set_option linter.unusedVariables false
set_option linter.unusedSimpArgs false
open Go Go.RowKit Mem
variable {P : Program} {n : Nat} {O : List Nat} {w0 : World} {l : List (Nat × Value)} {L pre post : List (Nat × TypeId × Array Value)} {Q : Exit → Act → World → Prop} {ops : Array Oper} {o : Oper} {rest : List Oper} {d : Nat} {x y : Operand}
theorem Kn.perm {w : World} {L' : List (Nat × TypeId × Array Value)} (h : Kn O w0 w L) (hp : L.Perm L') : Kn O w0 w L' :=
  ⟨h.os, h.tape, h.output, h.size, h.base, fun k hk hx => h.keep k hk fun b hb => hx b (hp.mem_iff.1 hb), fun b hb => h.low b (hp.mem_iff.2 hb), fun b hb => h.has b (hp.mem_iff.2 hb), (hp.map _).nodup_iff.1 h.nodup⟩
theorem SlA.at_ {O : List Nat} {w0 w : World} {sz : Nat} {A : Option Addr} {xs : List (List Value)} {L : List (Nat × TypeId × Array Value)} (hS : SlA O w0 sz A xs) (hL : Kn O w0 w L) : SlA O w sz A xs := fun i c h => by
  obtain ⟨a, b, d, e, g, h'⟩ := hS i c h
  exact ⟨a, b, d, e, g, fun j u hu => Kn.oldc hL (h' j u hu) g⟩
theorem Kn.rid {w : World} {b : Nat × TypeId × Array Value} (h : Kn O w0 w (b :: L)) (hb : b.1 ∉ O) : Kn O w0 w L :=
  Own.drop h 1 fun a ha => by
    have e : a = b := by simpa using ha
    subst e
    exact (h.low a List.mem_cons_self).resolve_right hb
theorem Kn.swapIn {w : World} {a b : Nat × TypeId × Array Value} (h : Kn O w0 w (b :: (pre ++ a :: post))) (ha : a.1 ∉ O) : Kn O w0 w (pre ++ b :: post) := by
  have h1 : Kn O w0 w (a :: b :: (pre ++ post)) := h.perm (((List.perm_middle (l₁ := pre) (a := a) (l₂ := post)).cons b).trans (List.Perm.swap a b _))
  exact (h1.rid ha).perm List.perm_middle.symm
/-- A slice of the walk's own: n elements of sz cells in a block cur that has room for cap. -/
structure Ap (sz n cap : Nat) (cur : Array Value) (xs : List Value) : Prop where
  len : xs.length = n * sz
  le : n ≤ cap
  max : cap ≤ maxLen
  size : cur.size = cap * sz
  take : cur.toList.take (n * sz) = xs
theorem Ap.nil (sz : Nat) : Ap sz 0 0 #[] [] := ⟨by simp, Nat.le_refl _, by unfold maxLen; omega, by simp, by simp⟩
/-- What append gives; and what stands then. -/
theorem run_app {t ty e : TypeId} {z : Value} {sz bytes : Nat} (ht : P.underlying t = some (.slice e)) (hi : (P.info? e).map (fun i => (i.zero, i.size, i.bytes)) = some (some z, sz, bytes)) (hzs : z.cells.size = sz) (hsz : 0 < sz)
    {w : World} {g k cap : Nat} {cur : Array Value} {xs : List Value} (hA : Ap sz k cap cur xs) (hL : Kn O w0 w (pre ++ (g, e, cur) :: post)) (hO : g ∉ O) {g2 m c : Nat} {T2 : TypeId} {c2 : Array Value} (h2 : w.heap[g2]? = some (.cells c2 T2 (0, 0))) {news : List Value} (hl : news.length = m * sz) (hn : c2.toList.take (m * sz) = news) (h1 : ∀ u ∈ news, u.oneCell' = true)
    (h63 : k + m ≤ maxLen) (hbytes : (k + m) * bytes ≤ 140737488355328) :
    ∃ g' cap' cur' w', (Builtin.append_ #[t, t] ty #[.slice (some ⟨g, 0, none⟩) k cap, .slice (some ⟨g2, 0, none⟩) m c]).run P w = .ok (.slice (some ⟨g', 0, none⟩) (k + m) cap') w' ∧ Ap sz (k + m) cap' cur' (xs ++ news) ∧ Kn O w0 w' (pre ++ (g', e, cur') :: post) := by
  obtain ⟨i, q1, q2, q3, q4⟩ := info_parts hi
  subst q3; subst q4
  have hg := hL.has (g, e, cur) (by simp)
  have hnews : ∀ j u, news[j]? = some u → w.cell? ((⟨g2, 0, none⟩ : Addr).add j) = some u := fun j u hu => by
    rw [add_lit0, Nat.zero_add, cell_of_row w g2 j c2 T2 (0, 0) h2]
    subst hn
    rw [List.getElem?_take] at hu
    split at hu
    · simpa using hu
    · cases hu
  have hlen : (xs ++ news).length = (k + m) * i.size := by rw [List.length_append, hA.len, hl, Nat.add_mul]
  by_cases hroom : k + m ≤ cap
  · have hfit : k * i.size + news.length ≤ cur.size := by rw [hl, hA.size, ← Nat.add_mul]; exact Nat.mul_le_mul_right _ hroom
    have hr := run_append_room (P := P) w t ty e i ht q1 g k cap cur hg ⟨g2, 0, none⟩ m c news hl hnews h1 hroom hfit
    refine ⟨g, cap, (cur.toList.take (k * i.size) ++ news ++ cur.toList.drop (k * i.size + news.length)).toArray, _, hr, ⟨hlen, hroom, hA.max, ?_, ?_⟩, ?_⟩
    · have := hA.size
      simp only [List.size_toArray, List.length_append, List.length_take, List.length_drop, Array.length_toList]
      omega
    · rw [hA.take, ← hlen]
      exact List.take_left
    · have hp : Kn O w0 w ((g, e, cur) :: (pre ++ post)) := hL.perm List.perm_middle
      exact Kn.perm (L := (g, e, _) :: (pre ++ post)) (Own.put hp (i := 0) rfl _) List.perm_middle.symm
  · have holds : ∀ j u, xs[j]? = some u → w.cell? ((⟨g, 0, none⟩ : Addr).add j) = some u := fun j u hu => by
      rw [add_lit0, Nat.zero_add, cell_of_row w g j cur e (0, 0) hg]
      rw [← hA.take, List.getElem?_take] at hu
      split at hu
      · simpa using hu
      · cases hu
    have hsmall : k + m ≤ 9223372036854775807 := by simp only [maxLen] at h63; omega
    have hle := hA.le
    have hr := run_append_grow (P := P) w t ty e i z ht q1 q2 ⟨g, 0, none⟩ k cap xs hA.len holds ⟨g2, 0, none⟩ m c news hl hnews (by omega) (by omega) (growslice_fits (by omega) hbytes)
    have hge := grownCap_ge w (k + m) cap e
    refine ⟨w.heap.size, grownCap w (k + m) cap e, xs.toArray ++ news.toArray ++ Builtin.zeroCells z.cells (grownCap w (k + m) cap e - (k + m)), _, hr, ⟨hlen, hge, grownCap_le_maxLen w (k + m) cap e h63, ?_, ?_⟩, ?_⟩
    · simp only [Array.size_append, List.size_toArray, size_zeroCells, hzs, hA.len, hl, ← Nat.add_mul]
      congr 1
      omega
    · simp only [Array.toList_append, List.append_assoc]
      rw [← List.append_assoc, ← hlen]
      exact List.take_left
    · exact Kn.swapIn (b := (w.heap.size, e, _)) (a := (g, e, cur)) (Own.new (Own.drew hL) e _) hO
theorem s_app {t e : TypeId} {z : Value} {sz bytes : Nat} (ho : o.op = .call { callee := .builtin .append, args := #[x, y], argTypes := #[t, t] }) (ht : P.underlying t = some (.slice e)) (hi : (P.info? e).map (fun i => (i.zero, i.size, i.bytes)) = some (some z, sz, bytes)) (hzs : z.cells.size = sz) (hsz : 0 < sz)
    {g k cap : Nat} {cur : Array Value} {xs : List Value} (hA : Ap sz k cap cur xs) (hO : g ∉ O) {g2 m c : Nat} {T2 : TypeId} {c2 : Array Value} {news : List Value} (hx : ev l x = some (.slice (some ⟨g, 0, none⟩) k cap)) (hy : ev l y = some (.slice (some ⟨g2, 0, none⟩) m c)) (hm : (g2, T2, c2) ∈ pre ++ (g, e, cur) :: post) (hl : news.length = m * sz) (hn : c2.toList.take (m * sz) = news) (h1 : ∀ u ∈ news, u.oneCell' = true)
    (h63 : k + m ≤ maxLen) (hbytes : (k + m) * bytes ≤ 140737488355328) (hg : o.guard = none) (hd : o.dst = some d) (hdn : Nat.blt d n = true)
    (h : ∀ g' cap' cur', Ap sz (k + m) cap' cur' (xs ++ news) → S P ops Q n O w0 rest ((d, .slice (some ⟨g', 0, none⟩) (k + m) cap') :: l) (pre ++ (g', e, cur') :: post)) : S P ops Q n O w0 (o :: rest) l (pre ++ (g, e, cur) :: post) := fun a w hF hL =>
  wpList_plain hg fun K hK => by
    obtain ⟨g', cap', cur', w', hr, hA', hL'⟩ := run_app (P := P) (ty := o.type) (c := c) ht hi hzs hsz hA hL hO (hL.has _ hm) hl hn h1 h63 hbytes
    unfold Oper.wp execOp
    simp only [ho, resolve, invoke, builtin, Sem.run_bind, Sem.run_pure, Result.andThen_ok, List.map_toArray, List.map_cons, List.map_nil, hF.eval hx, hF.eval hy, hr]
    show K (a.put o.dst _) w'
    rw [hd]
    exact hK _ _ (h g' cap' cur' hA' _ _ (hF.put hdn _) hL')
theorem s_app0 {t e : TypeId} {z : Value} {sz bytes : Nat} {g k cap : Nat} {cur : Array Value} {xs : List Value} {g2 m c : Nat} {T2 : TypeId} {c2 : List Value} (hA : Ap sz k cap cur xs) (ho : o.op = .call { callee := .builtin .append, args := #[x, y], argTypes := #[t, t] }) (hx : ev l x = some (.slice (some ⟨g, 0, none⟩) k cap)) (hy : ev l y = some (.slice (some ⟨g2, 0, none⟩) m c)) (ht : P.underlying t = some (.slice e)) (hi : (P.info? e).map (fun i => (i.zero, i.size, i.bytes)) = some (some z, sz, bytes)) (hzs : z.cells.size = sz) (hsz : 0 < sz) (hO : g ∉ O) (hO2 : g2 ∉ O) (hl : c2.length = m * sz) (h1 : ∀ u ∈ c2, u.oneCell' = true)
    (h63 : k + m ≤ maxLen) (hbytes : (k + m) * bytes ≤ 140737488355328) (hg : o.guard = none) (hd : o.dst = some d) (hdn : Nat.blt d n = true)
    (h : ∀ g' cap' cur', Ap sz (k + m) cap' cur' (xs ++ c2) → S P ops Q n O w0 rest ((d, .slice (some ⟨g', 0, none⟩) (k + m) cap') :: l) ((g', e, cur') :: L)) : S P ops Q n O w0 (o :: rest) l ((g2, T2, c2.toArray) :: (g, e, cur) :: L) :=
  s_app (pre := [(g2, T2, c2.toArray)]) (post := L) ho ht hi hzs hsz hA hO hx hy List.mem_cons_self hl (by rw [← hl]; simp) h1 h63 hbytes hg hd hdn (fun g' cap' cur' hA' a w hF hL => h g' cap' cur' hA' a w hF (Kn.rid hL hO2))
theorem s_app1 {b0 : Nat × TypeId × Array Value} {t e : TypeId} {z : Value} {sz bytes : Nat} {g k cap : Nat} {cur : Array Value} {xs : List Value} {g2 m c : Nat} {T2 : TypeId} {c2 : List Value} (hA : Ap sz k cap cur xs) (ho : o.op = .call { callee := .builtin .append, args := #[x, y], argTypes := #[t, t] }) (hx : ev l x = some (.slice (some ⟨g, 0, none⟩) k cap)) (hy : ev l y = some (.slice (some ⟨g2, 0, none⟩) m c)) (ht : P.underlying t = some (.slice e)) (hi : (P.info? e).map (fun i => (i.zero, i.size, i.bytes)) = some (some z, sz, bytes)) (hzs : z.cells.size = sz) (hsz : 0 < sz) (hO : g ∉ O) (hO2 : g2 ∉ O) (hl : c2.length = m * sz) (h1 : ∀ u ∈ c2, u.oneCell' = true)
    (h63 : k + m ≤ maxLen) (hbytes : (k + m) * bytes ≤ 140737488355328) (hg : o.guard = none) (hd : o.dst = some d) (hdn : Nat.blt d n = true)
    (h : ∀ g' cap' cur', Ap sz (k + m) cap' cur' (xs ++ c2) → S P ops Q n O w0 rest ((d, .slice (some ⟨g', 0, none⟩) (k + m) cap') :: l) (b0 :: (g', e, cur') :: L)) : S P ops Q n O w0 (o :: rest) l ((g2, T2, c2.toArray) :: b0 :: (g, e, cur) :: L) :=
  s_app (pre := [(g2, T2, c2.toArray), b0]) (post := L) ho ht hi hzs hsz hA hO hx hy List.mem_cons_self hl (by rw [← hl]; simp) h1 h63 hbytes hg hd hdn (fun g' cap' cur' hA' a w hF hL => h g' cap' cur' hA' a w hF (Kn.rid hL hO2))
theorem s_app2 {b0 b1 : Nat × TypeId × Array Value} {t e : TypeId} {z : Value} {sz bytes : Nat} {g k cap : Nat} {cur : Array Value} {xs : List Value} {g2 m c : Nat} {T2 : TypeId} {c2 : List Value} (hA : Ap sz k cap cur xs) (ho : o.op = .call { callee := .builtin .append, args := #[x, y], argTypes := #[t, t] }) (hx : ev l x = some (.slice (some ⟨g, 0, none⟩) k cap)) (hy : ev l y = some (.slice (some ⟨g2, 0, none⟩) m c)) (ht : P.underlying t = some (.slice e)) (hi : (P.info? e).map (fun i => (i.zero, i.size, i.bytes)) = some (some z, sz, bytes)) (hzs : z.cells.size = sz) (hsz : 0 < sz) (hO : g ∉ O) (hO2 : g2 ∉ O) (hl : c2.length = m * sz) (h1 : ∀ u ∈ c2, u.oneCell' = true)
    (h63 : k + m ≤ maxLen) (hbytes : (k + m) * bytes ≤ 140737488355328) (hg : o.guard = none) (hd : o.dst = some d) (hdn : Nat.blt d n = true)
    (h : ∀ g' cap' cur', Ap sz (k + m) cap' cur' (xs ++ c2) → S P ops Q n O w0 rest ((d, .slice (some ⟨g', 0, none⟩) (k + m) cap') :: l) (b0 :: b1 :: (g', e, cur') :: L)) : S P ops Q n O w0 (o :: rest) l ((g2, T2, c2.toArray) :: b0 :: b1 :: (g, e, cur) :: L) :=
  s_app (pre := [(g2, T2, c2.toArray), b0, b1]) (post := L) ho ht hi hzs hsz hA hO hx hy List.mem_cons_self hl (by rw [← hl]; simp) h1 h63 hbytes hg hd hdn (fun g' cap' cur' hA' a w hF hL => h g' cap' cur' hA' a w hF (Kn.rid hL hO2))
theorem s_app4 {b0 b1 b2 b3 : Nat × TypeId × Array Value} {t e : TypeId} {z : Value} {sz bytes : Nat} {g k cap : Nat} {cur : Array Value} {xs : List Value} {g2 m c : Nat} {T2 : TypeId} {c2 : List Value} (hA : Ap sz k cap cur xs) (ho : o.op = .call { callee := .builtin .append, args := #[x, y], argTypes := #[t, t] }) (hx : ev l x = some (.slice (some ⟨g, 0, none⟩) k cap)) (hy : ev l y = some (.slice (some ⟨g2, 0, none⟩) m c)) (ht : P.underlying t = some (.slice e)) (hi : (P.info? e).map (fun i => (i.zero, i.size, i.bytes)) = some (some z, sz, bytes)) (hzs : z.cells.size = sz) (hsz : 0 < sz) (hO : g ∉ O) (hO2 : g2 ∉ O) (hl : c2.length = m * sz) (h1 : ∀ u ∈ c2, u.oneCell' = true)
    (h63 : k + m ≤ maxLen) (hbytes : (k + m) * bytes ≤ 140737488355328) (hg : o.guard = none) (hd : o.dst = some d) (hdn : Nat.blt d n = true)
    (h : ∀ g' cap' cur', Ap sz (k + m) cap' cur' (xs ++ c2) → S P ops Q n O w0 rest ((d, .slice (some ⟨g', 0, none⟩) (k + m) cap') :: l) (b0 :: b1 :: b2 :: b3 :: (g', e, cur') :: L)) : S P ops Q n O w0 (o :: rest) l ((g2, T2, c2.toArray) :: b0 :: b1 :: b2 :: b3 :: (g, e, cur) :: L) :=
  s_app (pre := [(g2, T2, c2.toArray), b0, b1, b2, b3]) (post := L) ho ht hi hzs hsz hA hO hx hy List.mem_cons_self hl (by rw [← hl]; simp) h1 h63 hbytes hg hd hdn (fun g' cap' cur' hA' a w hF hL => h g' cap' cur' hA' a w hF (Kn.rid hL hO2))
end Go.Proofs.Ytnafnhpajkhgkaa.Wk
/- The closure of cellCode: a spot that is no cell. No condition. -/
namespace Go.Proofs.Ytnafnhpajkhgkaa
set_option linter.unusedVariables false
set_option linter.unusedSimpArgs false
open Go.RowKit Mem
attribute [local irreducible] Calm.wpLex
set_option maxRecDepth 100000 in
set_option maxHeartbeats 1000000 in
theorem cellClosure_any (p : Nat → Int) (cs : Array Value) (gp : Nat) (x y : Int) (w : World) (hp : Pv p cs) (hw : w.heap[gp]? = some (.cells cs 32 (0, 0))) (hx : -128 ≤ x ∧ x ≤ 127) (hy : -128 ≤ y ∧ y ≤ 127) :
    Calls Try.prog 62 #[.agg #[.int .i8 x, .int .i8 y], .pointer (some ⟨gp, 0, none⟩)] w fun e w' => e = .returned (.bool (!(isC (p 0) (p 1) x y))) ∧ Below w.heap.size w w' := by
  have hL := Own.startAt w hw
  have HW := Lib.hid hw
  have hsz := hp.size
  clear hw
  go_enter Try.func62, Try.ntmps62
  go_wp2_with (first
    | ((with_reducible refine gate_dst (N := 2) rfl ?_); refine wpl_box (cs := #[.int .i8 x, .int .i8 y]) hL rfl rfl rfl ?_; clear hL; intro g2 w2 hL)
    | ((with_reducible refine gate_load (ty := 32) rfl ?_); refine wpl_loadW_1 hL rfl rfl (by kernel_rfl) rfl hsz (by kernel_rfl) ?_)
    | ((with_reducible refine gate_load (ty := 52) rfl ?_); refine wpl_loadW_0 hL rfl rfl (by kernel_rfl) rfl rfl (by kernel_rfl) ?_)
    | (go_at_call 63; (with_reducible refine (isCell_any p cs x y _ hp hx hy).mono ?_); rintro e w4 ⟨rfl, hb⟩; replace hL := hL.ext hb; clear hb))
  go_ret
  exact ⟨rfl, hL.toBelow1 HW.out (hL.at_ (i := 1) rfl)⟩
end Go.Proofs.Ytnafnhpajkhgkaa
/- ContainsFunc over spots: is one of them no cell. No condition. -/
namespace Go.Proofs.Ytnafnhpajkhgkaa
set_option linter.unusedVariables false
set_option linter.unusedSimpArgs false
open Go.RowKit Mem
attribute [local irreducible] Calm.wpLex
theorem bb_below {w w' : World} {g : Nat} {o : Obj} (h : w.heap[g]? = some o) (hb : Below w.heap.size w w') : w'.heap[g]? = some o := by
  rw [hb.block g (Array.getElem?_eq_some_iff.1 h).1]; exact h
theorem cellClosure_s (p : Nat → Int) (cs : Array Value) (gp : Nat) (s : Sp) (w : World) (hp : Pv p cs) (hw : w.heap[gp]? = some (.cells cs 32 (0, 0))) (hs : s.ok) :
    Calls Try.prog 62 #[.agg s.cells.toArray, .pointer (some ⟨gp, 0, none⟩)] w fun e w' => e = .returned (.bool (!(isC (p 0) (p 1) s.x s.y))) ∧ Below w.heap.size w w' :=
  cellClosure_any p cs gp s.x s.y w hp hw ⟨hs.1, hs.2.1⟩ ⟨hs.2.2.1, hs.2.2.2⟩
set_option maxRecDepth 100000 in
set_option maxHeartbeats 1000000 in
theorem idxSp_any (v : Value) (l : List Sp) (p : Nat → Int) (cs : Array Value) (gp : Nat) (w : World) (hl : Sl w 2 v (l.map Sp.cells)) (hp : Pv p cs) (hg : w.heap[gp]? = some (.cells cs 32 (0, 0))) (hok : ∀ g ∈ l, g.ok) :
    Calls Try.prog 95 #[v, .func (.func 62) #[] #[.pointer (some ⟨gp, 0, none⟩)]] w fun e w' => ∃ r, e = .returned (.int .i64 r) ∧ (decide (0 ≤ r) = l.any fun g => !isC (p 0) (p 1) g.x g.y) ∧ Below w.heap.size w w' := by
  have hL := Own.start w
  have HS := Lib.hid hl
  have HW := Lib.hid hg
  have HOK := Lib.hid hok
  have HP := Lib.hid hp
  obtain ⟨A, cap, rfl, hc1, hm1, _⟩ := hl
  rw [List.length_map] at HS hc1 ⊢
  unfold maxLen at hm1
  obtain ⟨N, hN⟩ : ∃ N, l.length = N := ⟨_, rfl⟩
  have HN := Lib.hid hN
  rw [hN] at HS hc1 ⊢
  clear hN hg hok hp
  go_enter Try.func95, Try.ntmps95
  go_wp2
  go_loopg [8] N (fun n i wr => ∃ (k : Nat), k ≤ N ∧ n = N - k ∧ i = .int .i64 k ∧ Hid (∀ j g, j < k → l[j]? = some g → isC (p 0) (p 1) g.x g.y = true) ∧ Own w.heap.size [] w wr [])
  case atStart => exact ⟨0, by omega, rfl, rfl, (fun j g hj => by omega), hL⟩
  case round =>
    clear hL
    obtain ⟨k, hk, rfl, rfl, HA, hL⟩ := hrel
    by_cases hlt : k < N
    · have HS2 := HS.out.below hL.toBelow
      have HW2 := Lib.hid (bb_below HW.out hL.toBelow)
      obtain ⟨A2, cap2, hv2, _, _, hel⟩ := HS2
      injection hv2 with hA hn2 hc2
      obtain ⟨s, hs⟩ : ∃ s, l[k]? = some s := ⟨_, List.getElem?_eq_getElem (by have := HN.out; omega)⟩
      have HSK := Lib.hid hs
      have HSO := Lib.hid (HOK.out s (List.mem_of_getElem? hs))
      have hmap : (l.map Sp.cells)[k]? = some s.cells := by rw [List.getElem?_map, hs]; rfl
      obtain ⟨hcl, b, off, hA2, hcell⟩ := hel k _ hmap
      have HC := Lib.hid hcell
      obtain rfl : A = some ⟨b, off, none⟩ := hA.trans hA2
      clear hel hmap hs hA hn2 hc2 hA2 hcell
      have hi1 : (k : Int) < (N : Int) := by omega
      obtain ⟨bb, hbb⟩ : ∃ bb, isC (p 0) (p 1) s.x s.y = bb := ⟨_, rfl⟩
      have HB := Lib.hid hbb
      cases bb with
      | true =>
        go_wp2_with (first
          | ((with_reducible refine gate_load rfl ?_); refine wpl_loadA 2 rfl rfl (by kernel_rfl) rfl (c := s.cells) HC.out (by kernel_rfl) rfl ?_)
          | (go_at_call 62; (with_reducible refine (cellClosure_s p cs gp s _ HP.out HW2.out HSO.out).mono ?_); rintro e w4 ⟨rfl, hb⟩; rw [hbb]; replace hL := hL.ext hb; clear hb))
        go_roundg (N - (k + 1))
        case measure => omega
        case rel => exact ⟨k + 1, by omega, rfl, by go_num, (fun j g hj hg => by
          rcases Nat.lt_succ_iff_lt_or_eq.1 hj with e | e
          · exact HA.out j g e hg
          · subst e; have := HSK.out; rw [hg] at this; injection this with this; subst this; exact HB.out), hL⟩
      | false =>
        go_wp2_with (first
          | ((with_reducible refine gate_load rfl ?_); refine wpl_loadA 2 rfl rfl (by kernel_rfl) rfl (c := s.cells) HC.out (by kernel_rfl) rfl ?_)
          | (go_at_call 62; (with_reducible refine (cellClosure_s p cs gp s _ HP.out HW2.out HSO.out).mono ?_); rintro e w4 ⟨rfl, hb⟩; rw [hbb]; replace hL := hL.ext hb; clear hb))
        go_ret
        refine ⟨k, rfl, ?_, hL.toBelow⟩
        have : (l.any fun g => !isC (p 0) (p 1) g.x g.y) = true := List.any_eq_true.2 ⟨s, List.mem_of_getElem? HSK.out, by rw [HB.out]; rfl⟩
        rw [this]; simp
    · go_wp2
      go_ret
      refine ⟨-1, rfl, ?_, hL.toBelow⟩
      have : (l.any fun g => !isC (p 0) (p 1) g.x g.y) = false := by
        rw [List.any_eq_false]
        intro s hs
        obtain ⟨j, hj⟩ := List.mem_iff_getElem?.1 hs
        have hjl : j < l.length := (List.getElem?_eq_some_iff.1 hj).1
        rw [HA.out j s (by have := HN.out; omega) hj]; simp
      rw [this]; simp
set_option maxRecDepth 100000 in
theorem hasSp_any (v : Value) (l : List Sp) (p : Nat → Int) (cs : Array Value) (gp : Nat) (w : World) (hl : Sl w 2 v (l.map Sp.cells)) (hp : Pv p cs) (hg : w.heap[gp]? = some (.cells cs 32 (0, 0))) (hok : ∀ g ∈ l, g.ok) :
    Calls Try.prog 61 #[v, .func (.func 62) #[] #[.pointer (some ⟨gp, 0, none⟩)]] w fun e w' => e = .returned (.bool (l.any fun g => !isC (p 0) (p 1) g.x g.y)) ∧ Below w.heap.size w w' := by
  go_enter Try.func61, Try.ntmps61
  go_wp2_with (first
    | (go_at_call 95; (with_reducible refine (idxSp_any v l p cs gp _ hl hp hg hok).mono ?_); rintro e w4 ⟨r, rfl, hr, hb⟩))
  go_ret
  exact ⟨by rw [← hr]; rfl, hb⟩
end Go.Proofs.Ytnafnhpajkhgkaa
/- cellCode: the code of a pasture and cells. No condition. -/
namespace Go.Proofs.Ytnafnhpajkhgkaa
set_option linter.unusedVariables false
set_option linter.unusedSimpArgs false
open Go.RowKit Mem
attribute [local irreducible] Calm.wpLex
set_option maxRecDepth 100000 in
theorem unless0_any (b : Bool) (c : Int) (w : World) : Calls Try.prog 60 #[.bool b, .int .i64 c] w fun e w' => e = .returned (.int .i64 (if b then 0 else c)) ∧ w = w' := by
  cases b <;> (go_enter Try.func60, Try.ntmps60; go_wp2; go_ret; exact ⟨rfl, rfl⟩)
def cellC (p : Nat → Int) (l : List Sp) : Int := if validP p then (if l.any fun g => !isC (p 0) (p 1) g.x g.y then 2 else 0) else 1
set_option maxRecDepth 100000 in
set_option maxHeartbeats 1000000 in
theorem cellCode_any (p : Nat → Int) (cs : Array Value) (v : Value) (l : List Sp) (w : World) (hp : Pv p cs) (hl : Sl w 2 v (l.map Sp.cells)) (hok : ∀ s ∈ l, s.ok) :
    Calls Try.prog 27 #[.agg cs, v] w fun e w' => e = .returned (.int .i64 (cellC p l)) ∧ Below w.heap.size w w' := by
  have hL := Own.start w
  have HP := Lib.hid hp
  have HS := Lib.hid hl
  have HOK := Lib.hid hok
  have hsz := hp.size
  clear hp hl hok
  obtain ⟨c1, e1⟩ : ∃ c, validP p = c := ⟨_, rfl⟩
  obtain ⟨c2, e2⟩ : ∃ c, (l.any fun g => !isC (p 0) (p 1) g.x g.y) = c := ⟨_, rfl⟩
  have HV : Hid (cellC p l = if c1 then (if c2 then 2 else 0) else 1) := by show cellC p l = _; unfold cellC; rw [e1, e2]
  go_enter Try.func27, Try.ntmps27
  go_wp2_with (first
    | ((with_reducible refine gate_dst (N := 2) rfl ?_); refine wpl_box (cs := cs) hL rfl rfl rfl ?_; clear hL; intro g2 w2 hL)
    | ((with_reducible refine gate_load (ty := 32) rfl ?_); refine wpl_loadW_0 hL rfl rfl (by kernel_rfl) rfl hsz (by kernel_rfl) ?_)
    | (go_at_call 59; (with_reducible refine (implValidPasture_any p cs _ HP.out).mono ?_); rintro e w4 ⟨rfl, hb⟩; rw [e1]; replace hL := hL.ext hb; clear hb; cases c1)
    | (go_at_call 61; (with_reducible refine (hasSp_any _ l p cs _ _ (HS.out.below hL.toBelow) HP.out (hL.at_ (i := 0) rfl) HOK.out).mono ?_); rintro e w4 ⟨rfl, hb⟩; rw [e2]; replace hL := hL.ext hb; clear hb; cases c2)
    | (go_at_call 60; first
      | ((with_reducible refine (unless0_any true 2 _).mono ?_); rintro e w4 ⟨rfl, rfl⟩)
      | ((with_reducible refine (unless0_any false 2 _).mono ?_); rintro e w4 ⟨rfl, rfl⟩)))
  all_goals (go_ret; exact ⟨by rw [HV.out]; rfl, hL.toBelow⟩)
end Go.Proofs.Ytnafnhpajkhgkaa
/- SetHurdle: the code of a cell and a side; both functions. No condition. -/
namespace Go.Proofs.Ytnafnhpajkhgkaa
set_option linter.unusedVariables false
set_option linter.unusedSimpArgs false
open Go.RowKit Mem Wk
attribute [local irreducible] Calls Wk.S Wk.C Wk.E Wk.X Wk.T Wk.anV Wk.orV Wk.andV Wk.shlV Wk.shrV Calm.wpLex
theorem slSpot1 (u v : Value) (w : World) : (Instr.buildSlice 36 1 #[(0, .agg #[u, v])]).run Try.prog w = .ok (.slice (some ⟨w.heap.size, 0, none⟩) 1 1) (w.alloc (.cells #[u, v] 52 (0, 0))) := by kernel_rfl
theorem Pv.uniq {p : Nat → Int} {a b : Array Value} (h : Pv p a) (h' : Pv p b) : a = b := Pv.ext h h' (fun _ _ => rfl)
theorem putP_ex {p : Nat → Int} {cs : Array Value} {x y : Int} {s on : Bool} (hp : Pv p cs) (hy : 0 ≤ y ∧ y < 10) : ∃ c', Pv (putP p x y s on) c' := by
  unfold putP
  split
  · exact ⟨_, hp.setRow (by omega) (by omega) (rowV_range _ _ _)⟩
  · exact ⟨_, hp.setRow (by omega) (by omega) (rowV_range _ _ _)⟩
end Go.Proofs.Ytnafnhpajkhgkaa
