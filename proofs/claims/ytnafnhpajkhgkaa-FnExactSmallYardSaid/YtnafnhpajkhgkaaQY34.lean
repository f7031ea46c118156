import Derived.Test.YtnafnhpajkhgkaaQY10
import Derived.Test.YtnafnhpajkhgkaaQY12
import Derived.Test.YtnafnhpajkhgkaaQY14
import Derived.Test.YtnafnhpajkhgkaaQY16
import Derived.Test.YtnafnhpajkhgkaaQY17
import Derived.Test.YtnafnhpajkhgkaaQY18
import Derived.Test.YtnafnhpajkhgkaaQY22
import Derived.Test.YtnafnhpajkhgkaaQY29
import Derived.Test.YtnafnhpajkhgkaaQY32
import Derived.Test.YtnafnhpajkhgkaaQY33
/- Lists of lists of cells: their blocks. No condition. -/
namespace Go.Proofs.Ytnafnhpajkhgkaa
set_option linter.unusedVariables false
set_option linter.unusedSimpArgs false
open Go.RowKit Mem Wk
attribute [local irreducible] Calls Wk.S Wk.C Wk.E Wk.X Wk.T Wk.Y Wk.andV Wk.shrV Calm.wpLex CalmB.wpLex bfsN
/-- the lists' blocks, the newest first; the lists' values; what the blocks hold -/
def itR (items : List (Nat × Nat × Array Value)) : List (Nat × TypeId × Array Value) := items.reverse.map fun i => (i.1, 52, i.2.2)
def itV (S : List (List Sp)) (items : List (Nat × Nat × Array Value)) : List Value := List.zipWith (fun s i => Value.slice (some ⟨i.1, 0, none⟩) s.length i.2.1) S items
structure ItOk (S : List (List Sp)) (items : List (Nat × Nat × Array Value)) : Prop where
  len : items.length = S.length
  ap : ∀ (j : Nat) (s : List Sp) (i : Nat × Nat × Array Value), S[j]? = some s → items[j]? = some i → Ap 2 s.length i.2.1 i.2.2 (flS s)
theorem itR_snoc (items : List (Nat × Nat × Array Value)) (i : Nat × Nat × Array Value) : itR (items ++ [i]) = (i.1, 52, i.2.2) :: itR items := by simp [itR]
theorem itV_snoc {S : List (List Sp)} {items : List (Nat × Nat × Array Value)} (h : items.length = S.length) (s : List Sp) (i : Nat × Nat × Array Value) : itV (S ++ [s]) (items ++ [i]) = itV S items ++ [Value.slice (some ⟨i.1, 0, none⟩) s.length i.2.1] := by
  unfold itV; rw [List.zipWith_append h.symm]; rfl
theorem itV_len {S : List (List Sp)} {items : List (Nat × Nat × Array Value)} (h : items.length = S.length) : (itV S items).length = S.length := by simp [itV, h]
theorem ItOk.snoc {S : List (List Sp)} {items : List (Nat × Nat × Array Value)} (h : ItOk S items) {s : List Sp} {i : Nat × Nat × Array Value} (hA : Ap 2 s.length i.2.1 i.2.2 (flS s)) : ItOk (S ++ [s]) (items ++ [i]) := by
  refine ⟨by simp [h.len], fun j t it hs hi => ?_⟩
  by_cases hj : j < S.length
  · rw [List.getElem?_append_left hj] at hs
    rw [List.getElem?_append_left (by rw [h.len]; exact hj)] at hi
    exact h.ap j t it hs hi
  · rw [List.getElem?_append_right (by omega)] at hs
    rw [List.getElem?_append_right (by have := h.len; omega), h.len] at hi
    rcases Nat.eq_zero_or_pos (j - S.length) with e | e
    · rw [e] at hs hi
      simp at hs hi
      subst hs; subst hi; exact hA
    · rw [List.getElem?_eq_none (by simp; omega)] at hs; cases hs
theorem uSS : Try.prog.underlying 41 = some (.slice 36) := by kernel_rfl
theorem iSS : (Try.prog.info? 36).map (fun i => (i.zero, i.size, i.bytes)) = some (some (.slice none 0 0), 1, 24) := by kernel_rfl
theorem slSS0 (w : World) : (Instr.buildSlice 41 0 #[]).run Try.prog w = .ok (.slice (some ⟨w.heap.size, 0, none⟩) 0 0) (w.alloc (.cells #[] 36 (0, 0))) := by kernel_rfl
theorem slSS1 (a : Option Addr) (m c : Nat) (w : World) : (Instr.buildSlice 41 1 #[(0, .slice a m c)]).run Try.prog w = .ok (.slice (some ⟨w.heap.size, 0, none⟩) 1 1) (w.alloc (.cells #[.slice a m c] 36 (0, 0))) := by kernel_rfl
end Go.Proofs.Ytnafnhpajkhgkaa
/- slices.Concat of lists of cells; append of nothing. No condition but a length of at most 2^20. -/
namespace Go.Proofs.Ytnafnhpajkhgkaa.Wk
set_option linter.unusedVariables false
set_option linter.unusedSimpArgs false
open Go Go.RowKit Mem
variable {P : Program} {n : Nat} {O : List Nat} {w0 : World} {l : List (Nat × Value)} {L : List (Nat × TypeId × Array Value)} {Q : Exit → Act → World → Prop} {ops : Array Oper} {o : Oper} {rest : List Oper} {d : Nat} {x y : Operand}
end Go.Proofs.Ytnafnhpajkhgkaa.Wk
namespace Go.Proofs.Ytnafnhpajkhgkaa
set_option linter.unusedVariables false
set_option linter.unusedSimpArgs false
open Go.RowKit Mem Wk
attribute [local irreducible] Calls Wk.S Wk.C Wk.E Wk.X Wk.T Wk.Y Wk.andV Wk.shrV Calm.wpLex CalmB.wpLex bfsN
/-- values in the cells of a slice -/
theorem apV {V : List Value} {n cap : Nat} {cur : Array Value} (h : Ap 1 n cap cur V) : n = V.length ∧ ∀ (j : Nat) v, V[j]? = some v → cur[0 + j * 1]? = some v := by
  have h1 := h.len
  rw [Nat.mul_one] at h1
  refine ⟨h1.symm, fun j v hv => ?_⟩
  have h2 := h.take
  rw [Nat.mul_one] at h2
  have hj := (List.getElem?_eq_some_iff.1 hv).1
  rw [← h2, List.getElem?_take, if_pos (by omega), Array.getElem?_toList] at hv
  rw [Nat.zero_add, Nat.mul_one]; exact hv
/-- lists of cells whose slices lie in a block -/
structure SSs (w : World) (S : List (List Sp)) (V : List Value) (cur : Array Value) : Prop where
  len : V.length = S.length
  at_ : ∀ (j : Nat) v, V[j]? = some v → cur[0 + j * 1]? = some v
  sl : ∀ (j : Nat) s v, S[j]? = some s → V[j]? = some v → Sl w 2 v (s.map Sp.cells)
theorem SSs.get {w : World} {S : List (List Sp)} {V : List Value} {cur : Array Value} (h : SSs w S V cur) {j : Nat} {s : List Sp} (hs : S[j]? = some s) : ∃ A cap, cur[0 + j * 1]? = some (.slice A s.length cap) ∧ SlA [] w 2 A (s.map Sp.cells) := by
  have hj := (List.getElem?_eq_some_iff.1 hs).1
  have hv : V[j]? = some (V[j]'(by rw [h.len]; exact hj)) := List.getElem?_eq_getElem _
  obtain ⟨A, cap, e, _, _, hS⟩ := (h.sl j s _ hs hv).open
  rw [List.length_map] at e
  rw [e] at hv
  exact ⟨A, cap, h.at_ j _ hv, hS⟩
theorem SSs.below {w w' : World} {S : List (List Sp)} {V : List Value} {cur : Array Value} (h : SSs w S V cur) (hb : Below w.heap.size w w') : SSs w' S V cur := ⟨h.len, h.at_, fun j s v hs hv => (h.sl j s v hs hv).below hb⟩
theorem SSs.items {w : World} {S : List (List Sp)} {items : List (Nat × Nat × Array Value)} {cap : Nat} {cur : Array Value} (hA : Ap 1 S.length cap cur (itV S items)) (hI : ItOk S items) (hin : ∀ i ∈ items, w.heap[i.1]? = some (.cells i.2.2 52 (0, 0))) : SSs w S (itV S items) cur := by
  refine ⟨itV_len hI.len, (apV hA).2, fun j s v hs hv => ?_⟩
  have hj := (List.getElem?_eq_some_iff.1 hs).1
  have hi : items[j]? = some (items[j]'(by rw [hI.len]; exact hj)) := List.getElem?_eq_getElem _
  unfold itV at hv
  rw [List.getElem?_zipWith, hs, hi] at hv
  injection hv with hv
  subst hv
  exact (hI.ap j s _ hs hi).toSl (lenSp s) (by omega) (hin _ (List.mem_of_getElem? hi))
theorem itR_mem {items : List (Nat × Nat × Array Value)} {i : Nat × Nat × Array Value} (h : i ∈ items) : (i.1, 52, i.2.2) ∈ itR items := by
  unfold itR; exact List.mem_map.2 ⟨i, List.mem_reverse.2 h, rfl⟩
end Go.Proofs.Ytnafnhpajkhgkaa
/- A drawn region that makes a slice and appends foreign slices to it. Plain theorems; no condition but a length of at most 2^20. -/
namespace Go.Proofs.Ytnafnhpajkhgkaa.Wk
set_option linter.unusedVariables false
set_option linter.unusedSimpArgs false
open Go Go.RowKit Mem Calm
variable {P : Program} {n : Nat} {O : List Nat} {w0 : World} {l : List (Nat × Value)} {N L : List (Nat × TypeId × Array Value)} {Q : Exit → Act → World → Prop} {ops : Array Oper} {o : Oper} {rest : List Oper} {kk d : Nat} {v : Value} {x y : Operand} {Nok : List (Nat × TypeId × Array Value) → Prop} {pl : Nat → CalmE.Plan (List (Nat × TypeId × Array Value))}
theorem r_slcLx (tb : Tb P) {t el sz : Nat} {g off len cap i : Nat} {kd : IntKind} (ho : o.op = .slice t x (some y) none none) (hx : ev l x = some (.slice (some ⟨g, off, none⟩) len cap)) (hy : ev l y = some (.int kd (i : Int))) (ht : lkT tb.l t = some (el, sz)) (hle : i ≤ len) : Rn P n O w0 l L o (.slice (if cap = i then some ⟨g, off, none⟩ else some ⟨g, off + i * sz, none⟩) (len - i) (cap - i)) := fun a w hF hL => by
  have hu := (tb.slice ht).1
  have he : P.underlying t = some (.slice (P.elem t)) := by rw [hu]; simp [Program.elem, hu]
  have hel : P.elem t = el := by simp [Program.elem, hu]
  have hs := run_size (tb.slice ht).2 w
  simp only [execOp, ho, Option.map_none, Option.map_some, hF.eval hx, hF.eval hy, Sem.run_bind, run_sliceAt_slice w t _ _ _ _ he, run_slice_l w t (some ⟨g, off, none⟩) len cap he kd (i : Int) (by omega) (by omega), hel, hs, Result.andThen_ok, Int.toNat_natCast, Sem.run_pure]
  unfold sliced
  by_cases e : cap = i
  · simp [e]
  · simp only [if_neg e, Option.map_some]
    have ea : (⟨g, off, none⟩ : Addr).add (i * sz) = ⟨g, off + i * sz, none⟩ := by unfold Addr.add; split <;> simp_all
    rw [ea]
theorem SlA.take {O : List Nat} {w : World} {sz : Nat} {A : Option Addr} {xs : List (List Value)} (h : SlA O w sz A xs) (k : Nat) : SlA O w sz A (xs.take k) := fun i c hc => by
  rw [List.getElem?_take] at hc
  split at hc
  · exact h i c hc
  · cases hc
theorem SlA.drop {O : List Nat} {w : World} {sz b off : Nat} {xs : List (List Value)} (h : SlA O w sz (some ⟨b, off, none⟩) xs) (k : Nat) : SlA O w sz (some ⟨b, off + k * sz, none⟩) (xs.drop k) := fun i c hc => by
  rw [List.getElem?_drop] at hc
  obtain ⟨h1, b', off', e, h2, h3⟩ := h (k + i) c hc
  injection e with e; injection e with e1 e2; subst e1; subst e2
  refine ⟨h1, b, off + k * sz, rfl, h2, fun j u hu => ?_⟩
  rw [show off + k * sz + i * sz + j = off + (k + i) * sz + j by rw [Nat.add_mul]; omega]
  exact h3 j u hu
theorem SlA.nil {O : List Nat} {w : World} {sz : Nat} {A : Option Addr} : SlA O w sz A [] := fun i c hc => by simp at hc
end Go.Proofs.Ytnafnhpajkhgkaa.Wk
/- A pasture whose cells come from those of another one. No condition. -/
namespace Go.Proofs.Ytnafnhpajkhgkaa
set_option linter.unusedVariables false
set_option linter.unusedSimpArgs false
open Go.RowKit Mem Wk
attribute [local irreducible] Calls Wk.S Wk.C Wk.E Wk.X Wk.T Wk.andV Wk.shrV Calm.wpLex
/-- an empty pasture -/
def base (a b : Int) : Nat → Int := upd (upd (fun _ => 0) 0 a) 1 b
theorem cellN_in {W H k : Nat} (h : k < H * W) : (0 ≤ (cellN W k).x ∧ (cellN W k).x < W) ∧ 0 ≤ (cellN W k).y ∧ (cellN W k).y < H := by
  have hW : 0 < W := by
    rcases Nat.eq_zero_or_pos W with h0 | h0
    · subst h0; simp at h
    · exact h0
  have h1 := Nat.mod_lt k hW
  have h2 : k / W < H := (Nat.div_lt_iff_lt_mul hW).2 h
  exact ⟨⟨Int.natCast_nonneg _, Int.ofNat_lt.2 h1⟩, Int.natCast_nonneg _, Int.ofNat_lt.2 h2⟩
end Go.Proofs.Ytnafnhpajkhgkaa
/- Ways: going along one closes the sides behind; the reference's steps. No condition but cells of a pasture of at most ten by ten. -/
namespace Go.Proofs.Ytnafnhpajkhgkaa
set_option linter.unusedVariables false
set_option linter.unusedSimpArgs false
open Go.RowKit Mem Wk
theorem Wk.Kn.tailO {O : List Nat} {w0 w : World} {b : Nat × TypeId × Array Value} {L : List (Nat × TypeId × Array Value)} (h : Kn O w0 w (b :: L)) (hO : ∀ k ∈ O, ∃ x ∈ L, x.1 = k) : Kn O w0 w L :=
  have hnd : (b.1 :: L.map (·.1)).Nodup := h.nodup
  ⟨h.os, h.tape, h.output, h.size, h.base, fun k hk hx => h.keep k hk fun x hxm e => by
    rcases List.mem_cons.1 hxm with rfl | hxm
    · rcases h.low x List.mem_cons_self with h1 | h1
      · omega
      · obtain ⟨y, hy, e2⟩ := hO _ h1
        exact (List.nodup_cons.1 hnd).1 (e2 ▸ List.mem_map_of_mem hy)
    · exact hx x hxm e, fun x hx => h.low x (List.mem_cons_of_mem _ hx), fun x hx => h.has x (List.mem_cons_of_mem _ hx), (List.nodup_cons.1 hnd).2⟩
theorem Wk.e_dropO {Q : Exit → Act → World → Prop} {n : Nat} {O : List Nat} {w0 : World} {e : Exit} {l : List (Nat × Value)} {b : Nat × TypeId × Array Value} {L : List (Nat × TypeId × Array Value)} (hO : ∀ k ∈ O, ∃ x ∈ L, x.1 = k) (h : Wk.E Q n O w0 e l L) : Wk.E Q n O w0 e l (b :: L) := fun a w hF hL => h a w hF (Wk.Kn.tailO hL hO)
attribute [local irreducible] Calls Wk.S Wk.C Wk.E Wk.X Wk.T Wk.andV Wk.shrV Calm.wpLex
end Go.Proofs.Ytnafnhpajkhgkaa
/- The reference's search for cells: appends, what is left, what goes on. Plain, no condition. -/
namespace Go.Proofs.Ytnafnhpajkhgkaa
set_option linter.unusedVariables false
set_option linter.unusedSimpArgs false
open Go Go.RowKit Mem Wk
theorem Wk.Kn.dropsO {O : List Nat} {w0 w : World} : ∀ {D L : List (Nat × TypeId × Array Value)}, Kn O w0 w (D ++ L) → (∀ k ∈ O, ∃ x ∈ L, x.1 = k) → Kn O w0 w L
  | [], _, h, _ => h
  | d :: D, L, h, hO => Wk.Kn.dropsO (D := D) (Wk.Kn.tailO h fun k hk => by obtain ⟨x, hx, e⟩ := hO k hk; exact ⟨x, List.mem_append_right _ hx, e⟩) hO
theorem Wk.e_dropsO {Q : Exit → Act → World → Prop} {n : Nat} {O : List Nat} {w0 : World} {e : Exit} {l : List (Nat × Value)} {L L' D : List (Nat × TypeId × Array Value)} (hp : L.Perm (D ++ L')) (hO : ∀ k ∈ O, ∃ x ∈ L', x.1 = k) (h : Wk.E Q n O w0 e l L') : Wk.E Q n O w0 e l L := fun a w hF hL => h a w hF (Wk.Kn.dropsO (Kn.perm hL hp) hO)
theorem Wk.news_blk {w : World} {b : Nat} {T : TypeId} {c2 : Array Value} {news : List Value} (h : w.heap[b]? = some (.cells c2 T (0, 0))) (hn : c2.toList = news) : ∀ (j : Nat) (u : Value), news[j]? = some u → w.cell? ((⟨b, 0, none⟩ : Addr).add j) = some u := fun j u hu => by
  rw [add_lit0, Nat.zero_add, cell_of_row w b j c2 T (0, 0) h]
  rw [← hn] at hu; simpa using hu
theorem Wk.notO {O : List Nat} {w0 w : World} {pre post : List (Nat × TypeId × Array Value)} {x : Nat × TypeId × Array Value} (hL : Kn O w0 w (pre ++ x :: post)) (hOm : ∀ k ∈ O, ∃ y ∈ pre ++ post, y.1 = k) : x.1 ∉ O := fun hk => by
  obtain ⟨y, hy, e⟩ := hOm _ hk
  have hn := (Kn.perm hL List.perm_middle).nodup
  rw [List.map_cons, List.nodup_cons] at hn
  exact hn.1 (List.mem_map.2 ⟨y, hy, e⟩)
section
variable {P : Program} {n : Nat} {O : List Nat} {w0 : World} {l : List (Nat × Value)} {L pre post : List (Nat × TypeId × Array Value)} {Q : Exit → Act → World → Prop} {ops : Array Oper} {o : Oper} {rest : List Oper} {d : Nat} {x y z : Operand}
/-- append to an own slice, whatever the walk may write besides -/
theorem Wk.s_appM {t e : TypeId} {zz : Value} {sz bytes : Nat} (ho : o.op = .call { callee := .builtin .append, args := #[x, y], argTypes := #[t, t] }) (ht : P.underlying t = some (.slice e)) (hi : (P.info? e).map (fun i => (i.zero, i.size, i.bytes)) = some (some zz, sz, bytes)) (hzs : zz.cells.size = sz) (hsz : 0 < sz)
    {g k cap : Nat} {cur : Array Value} {cs : List Value} (hA : Ap sz k cap cur cs) (hOm : ∀ k ∈ O, ∃ x ∈ pre ++ post, x.1 = k) {b off m c : Nat} {news : List Value} (hS : ∀ w, Kn O w0 w (pre ++ (g, e, cur) :: post) → ∀ (j : Nat) (u : Value), news[j]? = some u → w.cell? ((⟨b, off, none⟩ : Addr).add j) = some u) (hl : news.length = m * sz) (hx : ev l x = some (.slice (some ⟨g, 0, none⟩) k cap)) (hy : ev l y = some (.slice (some ⟨b, off, none⟩) m c)) (h1 : ∀ u ∈ news, u.oneCell' = true)
    (h63 : k + m ≤ maxLen) (hbytes : (k + m) * bytes ≤ 140737488355328) (hg : o.guard = none) (hd : o.dst = some d) (hdn : Nat.blt d n = true)
    (h : ∀ g' cap' cur', Ap sz (k + m) cap' cur' (cs ++ news) → Wk.S P ops Q n O w0 rest ((d, .slice (some ⟨g', 0, none⟩) (k + m) cap') :: l) (pre ++ (g', e, cur') :: post)) : Wk.S P ops Q n O w0 (o :: rest) l (pre ++ (g, e, cur) :: post) := fun a w hF hL =>
  wpList_plain hg fun K hK => by
    obtain ⟨g', cap', cur', w', hr, hA', hL'⟩ := run_appA (P := P) (ty := o.type) (c := c) ht hi hzs hsz hA hL (notO hL hOm) hl (hS w hL) h1 h63 hbytes
    unfold Oper.wp execOp
    simp only [ho, resolve, invoke, builtin, Sem.run_bind, Sem.run_pure, Result.andThen_ok, List.map_toArray, List.map_cons, List.map_nil, hF.eval hx, hF.eval hy, hr]
    show K (a.put o.dst _) w'
    rw [hd]
    exact hK _ _ (h g' cap' cur' hA' _ _ (hF.put hdn _) hL')
theorem Wk.r_slcO (tb : Tb P) {t el sz : Nat} {g off off' len cap i : Nat} {kd : IntKind} (hA : (if cap = i then some ⟨g, off, none⟩ else some ⟨g, off + i * sz, none⟩ : Option Addr) = some ⟨g, off', none⟩) (ho : o.op = .slice t x (some y) none none) (hx : ev l x = some (.slice (some ⟨g, off, none⟩) len cap)) (hy : ev l y = some (.int kd (i : Int))) (ht : lkT tb.l t = some (el, sz)) (hle : i ≤ len) : Rn P n O w0 l L o (.slice (some ⟨g, off', none⟩) (len - i) (cap - i)) := by
  rw [← hA]; exact r_slcLx tb ho hx hy ht hle
end
/-- the best cells: where a walk finds them -/
def BestL (w : World) (gw : Nat) (R : List (Nat × TypeId × Array Value)) (v : Value) (b : List Sp) : Prop := (R = [] ∧ BestB w gw v b) ∨ ∃ g cap cur, R = [(g, 52, cur)] ∧ v = .slice (some ⟨g, 0, none⟩) b.length cap ∧ Ap 2 b.length cap cur (flS b)
theorem BestL.at_ {w w1 : World} {gw : Nat} {R L : List (Nat × TypeId × Array Value)} {v : Value} {b : List Sp} {x : Nat × TypeId × Array Value} (h : BestL w gw R v b) (hL : Kn [gw] w w1 L) (hR : ∀ y ∈ R, y ∈ L) (hx : x ∈ L) (hxw : x.1 = gw) (hxR : ∀ y ∈ R, y ≠ x) : BestB w1 gw v b := by
  rcases h with ⟨rfl, h⟩ | ⟨g, cap, cur, rfl, rfl, hA⟩
  · rcases h with h | ⟨g, cap, cur, rfl, hA, hg, hne⟩
    · exact .inl h
    · exact .inr ⟨g, cap, cur, rfl, hA, Kn.old hL hg (by simpa using hne), hne⟩
  · have hm := hR _ List.mem_cons_self
    refine .inr ⟨g, cap, cur, rfl, hA, hL.has _ hm, fun e => ?_⟩
    have hn := hL.nodup
    have := List.pairwise_map.1 hn
    have hne : ((g, 52, cur) : Nat × TypeId × Array Value) ≠ x := hxR _ List.mem_cons_self
    obtain ⟨s, t, rfl⟩ := List.append_of_mem hm
    have hn2 := (Kn.perm hL List.perm_middle).nodup
    rw [List.map_cons, List.nodup_cons] at hn2
    refine hn2.1 (List.mem_map.2 ⟨x, ?_, by rw [hxw]; exact e.symm⟩)
    rcases List.mem_append.1 hx with h | h
    · exact List.mem_append_left _ h
    · rcases List.mem_cons.1 h with h | h
      · exact absurd h.symm hne
      · exact List.mem_append_right _ h
section
variable {p : Nat → Int} {s : Sp}
/-- what holds at each call -/
def GInv (p : Nat → Int) (s : Sp) (n : Nat) (l nx : List Sp) (met : Nat → Bool) : Prop := ((l = [] ∧ nx = [s] ∧ 0 < n) ∨ (Gro p s l ∧ ∀ c ∈ nx, ∃ a ∈ l, c ∈ nbP p a)) ∧ (l ++ nx).Nodup ∧ (∀ c ∈ l ++ nx, met (ci c) = true)
theorem GInv.cels {n : Nat} {l nx : List Sp} {met : Nat → Bool} (h : GInv p s n l nx met) (hs : cel p s) : ∀ c ∈ l ++ nx, cel p c := fun c hc => by
  rcases h.1 with ⟨rfl, rfl, _⟩ | ⟨h1, h2⟩
  · simp at hc; subst hc; exact hs
  · rcases List.mem_append.1 hc with hc | hc
    · exact h1.cels hs c hc
    · obtain ⟨a, _, hn⟩ := h2 c hc; exact nbP_cel hn
theorem GInv.step {n i : Nat} {l nx : List Sp} {met : Nat → Bool} {c : Sp} (h : GInv p s (n + 1) l nx met) (hc : nx[i]? = some c) : GInv p s n (l ++ [c]) ((nbP p c).foldl adN (nx.drop (i + 1), met)).1 ((nbP p c).foldl adN (nx.drop (i + 1), met)).2 := by
  obtain ⟨h, hn, hm⟩ := h
  have hmem := List.mem_of_getElem? hc
  have hsp : nx.take i ++ c :: nx.drop (i + 1) = nx := by
    have hlt := (List.getElem?_eq_some_iff.1 hc).1
    rw [← (List.getElem?_eq_some_iff.1 hc).2, ← List.drop_eq_getElem_cons hlt, List.take_append_drop]
  have hdr : ∀ d ∈ nx.drop (i + 1), d ∈ nx := fun d hd => List.mem_of_mem_drop hd
  have hn1 : (l ++ [c] ++ nx.drop (i + 1)).Nodup := by
    rw [← hsp] at hn
    have : (l ++ [c] ++ nx.drop (i + 1)).Sublist (l ++ (nx.take i ++ c :: nx.drop (i + 1))) := by
      rw [List.append_assoc]
      refine List.Sublist.append (List.Sublist.refl _) ?_
      exact List.sublist_append_right _ _
    exact hn.sublist this
  have hm1 : ∀ d ∈ l ++ [c] ++ nx.drop (i + 1), met (ci d) = true := fun d hd => by
    simp only [List.mem_append, List.mem_singleton] at hd
    rcases hd with (hd | hd) | hd
    · exact hm d (by simp [hd])
    · subst hd; exact hm _ (by simp [hmem])
    · exact hm d (by simp [hdr d hd])
  have hk := adN_nodup (nbP p c) (nx.drop (i + 1), met) (l ++ [c]) hn1 hm1
  have ha := (adN_keep (nbP p c) (nx.drop (i + 1), met)).2.2.2
  have hg : Gro p s (l ++ [c]) ∧ ∀ d ∈ nx.drop (i + 1), ∃ a ∈ l ++ [c], d ∈ nbP p a := by
    rcases h with ⟨h1, h2, _⟩ | ⟨h1, h2⟩
    · subst h1; subst h2
      cases i with
      | zero => simp at hc; subst hc; exact ⟨Gro.one, by simp⟩
      | succ i => simp at hc
    · obtain ⟨a, ha1, ha2⟩ := h2 c hmem
      have hcl : c ∉ l := fun q => by
        rw [List.nodup_append] at hn
        exact hn.2.2 c q c hmem rfl
      refine ⟨Gro.add h1 ha1 ha2 hcl, fun d hd => ?_⟩
      obtain ⟨b, hb1, hb2⟩ := h2 d (hdr d hd)
      exact ⟨b, by simp [hb1], hb2⟩
  exact ⟨.inr ⟨hg.1, fun d hd => by
    rcases ha d hd with h1 | h1
    · exact hg.2 d h1
    · exact ⟨c, by simp, h1⟩⟩, hk.1, hk.2⟩
/-- the lists of the first i cells that may come next -/
def parV (p : Nat → Int) (n : Nat) (l nx : List Sp) (met : Nat → Bool) (i : Nat) : List (List Sp) := (List.range i).flatMap fun i => match nx[i]? with
    | none => []
    | some c => visN p n (l ++ [c]) ((nbP p c).foldl adN (nx.drop (i + 1), met)).1 ((nbP p c).foldl adN (nx.drop (i + 1), met)).2
theorem parV_all (p : Nat → Int) (n : Nat) (l nx : List Sp) (met : Nat → Bool) : parV p n l nx met nx.length = visN p (n + 1) l nx met := rfl
theorem parV_succ {n i : Nat} {l nx : List Sp} {met : Nat → Bool} {c : Sp} (hc : nx[i]? = some c) : parV p n l nx met (i + 1) = parV p n l nx met i ++ visN p n (l ++ [c]) ((nbP p c).foldl adN (nx.drop (i + 1), met)).1 ((nbP p c).foldl adN (nx.drop (i + 1), met)).2 := by
  unfold parV
  rw [List.range_succ, List.flatMap_append]
  simp [hc]
def bstV (p : Nat → Int) (q : List Sp × Int) (V : List (List Sp)) : List Sp × Int := (V.map ordL).foldl (bstG (opnF p)) q
theorem bstV_app (q : List Sp × Int) (V W : List (List Sp)) : bstV p q (V ++ W) = bstV p (bstV p q V) W := by unfold bstV; rw [List.map_append, List.foldl_append]
theorem bstV_len {k : Nat} : ∀ {V : List (List Sp)} {q : List Sp × Int}, (∀ X ∈ V, (ordL X).length = k) → (q.1 = [] ∨ q.1.length = k) → ((bstV p q V).1 = [] ∨ (bstV p q V).1.length = k)
  | [], q, _, h => h
  | X :: V, q, hV, h => by
    show (bstV p (bstG (opnF p) q (ordL X)) V).1 = [] ∨ _
    refine bstV_len (fun Y hY => hV Y (by simp [hY])) ?_
    obtain ⟨b, m⟩ := q
    rcases bstG_cases (opnF p) b m (ordL X) with ⟨e, _⟩ | ⟨e, _⟩
    · rw [e]; exact .inr (hV X (by simp))
    · rw [e]; exact h
end
end Go.Proofs.Ytnafnhpajkhgkaa
