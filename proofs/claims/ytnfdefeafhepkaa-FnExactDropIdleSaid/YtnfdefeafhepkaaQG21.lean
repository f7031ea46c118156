import Derived.Test.YtnfdefeafhepkaaQG08
import Derived.Test.YtnfdefeafhepkaaQG09
import Derived.Test.YtnfdefeafhepkaaQG11
import Derived.Test.YtnfdefeafhepkaaQG14
import Derived.Test.YtnfdefeafhepkaaQG20
/- The cells that two stakes have in common: both functions. No condition. -/
namespace Go.Proofs.Ytnfdefeafhepkaa
set_option linter.unusedVariables false
set_option linter.unusedSimpArgs false
open Go.RowKit Mem Wk
namespace Wk
open Calm
variable {P : Program} {n : Nat} {O : List Nat} {w0 : World} {l : List (Nat × Value)} {N L : List (Nat × TypeId × Array Value)} {Q : Exit → Act → World → Prop} {ops : Array Oper} {o : Oper} {rest : List Oper} {k d : Nat} {pl : Nat → CalmB.Plan} {v : Value}
end Wk
attribute [local irreducible] Calls Wk.S Wk.C Wk.E Wk.X Wk.T Wk.Y Wk.anV Wk.orV Wk.andV Wk.shlV Wk.shrV Calm.wpLex CalmB.wpLex bfsN
theorem inR_nat {c : Sp} (h : inR c) : ∃ a b : Nat, c = ⟨(a : Int), (b : Int)⟩ ∧ a < 10 ∧ b < 10 := by
  obtain ⟨x, y⟩ := c
  unfold inR at h; simp only at h
  exact ⟨x.toNat, y.toNat, by congr 1 <;> omega, by omega, by omega⟩
theorem Wk.Ap.xy {n cap : Nat} {cur : Array Value} {l : List Sp} (h : Ap 2 n cap cur (flS l)) {i : Nat} {s : Sp} (hi : l[i]? = some s) : cur[0 + i * 2]? = some (.int .i8 s.x) ∧ cur[0 + i * 2 + 1]? = some (.int .i8 s.y) := by
  obtain ⟨h1, h2⟩ := h.spot hi
  have e0 := congrArg (fun a : Array Value => a[0]?) h2
  have e1 := congrArg (fun a : Array Value => a[1]?) h2
  simp only [Array.getElem?_extract] at e0 e1
  rw [if_pos (by omega)] at e0 e1
  exact ⟨e0, e1⟩
end Go.Proofs.Ytnfdefeafhepkaa
/- Lists of lists of cells; the cells that each of some stakes reaches: the program's. No condition. -/
namespace Go.Proofs.Ytnfdefeafhepkaa
set_option linter.unusedVariables false
set_option linter.unusedSimpArgs false
open Go.RowKit Mem Wk
attribute [local irreducible] Calls Wk.S Wk.C Wk.E Wk.X Wk.T Wk.Y Wk.anV Wk.orV Wk.andV Wk.shlV Wk.shrV Calm.wpLex CalmB.wpLex bfsN
theorem Kn.app {O : List Nat} {w0 w w' : World} {L N : List (Nat × TypeId × Array Value)} (hL : Kn O w0 w L) (hN : Kn [] w w' N) : Kn O w0 w' (N ++ L) := by
  have hge : ∀ x ∈ N, w.heap.size ≤ x.1 := fun x hx => (hN.low x hx).resolve_right (by simp)
  have hlt : ∀ x ∈ L, x.1 < w.heap.size := fun x hx => (Array.getElem?_eq_some_iff.1 (hL.has x hx)).1
  refine ⟨hN.os.trans hL.os, hN.tape.trans hL.tape, hN.output.trans hL.output, Nat.le_trans hL.size hN.size, hL.base, fun k hk hx => ?_, fun x hx => ?_, fun x hx => ?_, ?_⟩
  · rw [hN.keep k (Nat.lt_of_lt_of_le hk hL.size) (fun x hxn => hx x (List.mem_append_left _ hxn))]
    exact hL.keep k hk fun x hxl => hx x (List.mem_append_right _ hxl)
  · rcases List.mem_append.1 hx with hx | hx
    · exact .inl (Nat.le_trans hL.size (hge x hx))
    · exact hL.low x hx
  · rcases List.mem_append.1 hx with hx | hx
    · exact hN.has x hx
    · rw [hN.keep x.1 (hlt x hx) (fun y hy => by have := hge y hy; have := hlt x hx; omega)]
      exact hL.has x hx
  · rw [List.map_append, List.nodup_append]
    refine ⟨hN.nodup, hL.nodup, fun a ha b hb e => ?_⟩
    obtain ⟨x, hx, rfl⟩ := List.mem_map.1 ha
    obtain ⟨y, hy, rfl⟩ := List.mem_map.1 hb
    have := hge x hx; have := hlt y hy; omega
/-- the lists' blocks, the newest first; the lists' values; what the blocks hold -/
def itR (items : List (Nat × Nat × Array Value)) : List (Nat × TypeId × Array Value) := items.reverse.map fun i => (i.1, 66, i.2.2)
def itV (S : List (List Sp)) (items : List (Nat × Nat × Array Value)) : List Value := List.zipWith (fun s i => Value.slice (some ⟨i.1, 0, none⟩) s.length i.2.1) S items
structure ItOk (S : List (List Sp)) (items : List (Nat × Nat × Array Value)) : Prop where
  len : items.length = S.length
  ap : ∀ (j : Nat) (s : List Sp) (i : Nat × Nat × Array Value), S[j]? = some s → items[j]? = some i → Ap 2 s.length i.2.1 i.2.2 (flS s)
theorem itR_snoc (items : List (Nat × Nat × Array Value)) (i : Nat × Nat × Array Value) : itR (items ++ [i]) = (i.1, 66, i.2.2) :: itR items := by simp [itR]
theorem itV_snoc {S : List (List Sp)} {items : List (Nat × Nat × Array Value)} (h : items.length = S.length) (s : List Sp) (i : Nat × Nat × Array Value) : itV (S ++ [s]) (items ++ [i]) = itV S items ++ [Value.slice (some ⟨i.1, 0, none⟩) s.length i.2.1] := by
  unfold itV; rw [List.zipWith_append h.symm]; rfl
theorem itV_len {S : List (List Sp)} {items : List (Nat × Nat × Array Value)} (h : items.length = S.length) : (itV S items).length = S.length := by simp [itV, h]
theorem ItOk.snoc {S : List (List Sp)} {items : List (Nat × Nat × Array Value)} (h : ItOk S items) {s : List Sp} {i : Nat × Nat × Array Value} (hA : Ap 2 s.length i.2.1 i.2.2 (flS s)) : ItOk (S ++ [s]) (items ++ [i]) := by
  refine ⟨by simp [h.len], fun j t it hs hi => ?_⟩
  by_cases hj : j < S.length
  · rw [List.getElem?_append_left hj] at hs
    rw [List.getElem?_append_left (by rw [h.len]; exact hj)] at hi
    exact h.ap j t it hs hi
  · rw [List.getElem?_append_right (by omega)] at hs
    rw [List.getElem?_append_right (by have := h.len; omega), h.len] at hi
    rcases Nat.eq_zero_or_pos (j - S.length) with e | e
    · rw [e] at hs hi
      simp at hs hi
      subst hs; subst hi; exact hA
    · rw [List.getElem?_eq_none (by simp; omega)] at hs; cases hs
def NewSS (S : List (List Sp)) (w : World) (e : Ending) (w' : World) : Prop := ∃ g cap cur items, e = .returned (.slice (some ⟨g, 0, none⟩) S.length cap) ∧ Ap 1 S.length cap cur (itV S items) ∧ ItOk S items ∧ Kn [] w w' ((g, 38, cur) :: itR items)
theorem uSS : Try.prog.underlying 40 = some (.slice 38) := by kernel_rfl
theorem iSS : (Try.prog.info? 38).map (fun i => (i.zero, i.size, i.bytes)) = some (some (.slice none 0 0), 1, 24) := by kernel_rfl
theorem slSS0 (w : World) : (Instr.buildSlice 40 0 #[]).run Try.prog w = .ok (.slice (some ⟨w.heap.size, 0, none⟩) 0 0) (w.alloc (.cells #[] 38 (0, 0))) := by kernel_rfl
theorem slSS1 (a : Option Addr) (m c : Nat) (w : World) : (Instr.buildSlice 40 1 #[(0, .slice a m c)]).run Try.prog w = .ok (.slice (some ⟨w.heap.size, 0, none⟩) 1 1) (w.alloc (.cells #[.slice a m c] 38 (0, 0))) := by kernel_rfl
end Go.Proofs.Ytnfdefeafhepkaa
/- Walks beside a map: a loop whose base is the world as it stands; append without a condition on the base. No condition. -/
namespace Go.Proofs.Ytnfdefeafhepkaa
set_option linter.unusedVariables false
set_option linter.unusedSimpArgs false
open Go Go.RowKit Mem Wk
namespace Wk
variable {P : Program} {n : Nat} {O : List Nat} {w0 : World} {l : List (Nat × Value)} {L pre post : List (Nat × TypeId × Array Value)} {Q : Exit → Act → World → Prop} {ops : Array Oper} {o : Oper} {rest : List Oper} {d : Nat} {v : Value} {x y z : Operand}
/-- a world as the base of itself -/
theorem Kn.here {w : World} {R L' : List (Nat × TypeId × Array Value)} (h : Kn O w0 w L) (hp : L.Perm (R ++ L')) : Kn (L'.map (·.1)) w w L' := by
  have hL' : ∀ x ∈ L', x ∈ L := fun x hx => hp.mem_iff.2 (List.mem_append_right _ hx)
  refine ⟨rfl, rfl, rfl, Nat.le_refl _, Nat.le_refl _, fun _ _ _ => rfl, fun b hb => .inr (List.mem_map_of_mem hb), fun b hb => h.has b (hL' b hb), ?_⟩
  have h1 := (hp.map (·.1)).nodup_iff.1 h.nodup
  rw [List.map_append] at h1
  exact (List.nodup_append.1 h1).2.1
/-- A map beside a walk: what the base holds. -/
structure MB (w0 : World) (O : List Nat) (w1 : World) (b : Nat) (ob : Obj) : Prop where
  below : Below w0.heap.size w0 w1
  old : ∀ k ∈ O, w0.heap.size ≤ k
  get : w1.heap[b]? = some ob
  notin : b ∉ O
  ge : w0.heap.size ≤ b
theorem MB.lt {w00 w1 : World} {b : Nat} {ob : Obj} (h : MB w00 O w1 b ob) : b < w1.heap.size := (Array.getElem?_eq_some_iff.1 h.get).1
theorem MB.nl {w00 w1 w : World} {b : Nat} {ob : Obj} (h : MB w00 O w1 b ob) (hL : Kn O w1 w L) : ∀ k ∈ L, k.1 ≠ b := fun k hk e => by
  rcases hL.low k hk with h1 | h1
  · have := h.lt; omega
  · exact h.notin (e ▸ h1)
theorem MB.blk {w00 w1 w : World} {b : Nat} {ob : Obj} (h : MB w00 O w1 b ob) (hL : Kn O w1 w L) : w.heap[b]? = some ob := by
  rw [← h.get]; exact hL.keep b h.lt (h.nl hL)
theorem MB.ge0 {w00 w1 w : World} {b : Nat} {ob : Obj} (h : MB w00 O w1 b ob) (hL : Kn O w1 w L) : ∀ k ∈ L, w00.heap.size ≤ k.1 := fun k hk => by
  rcases hL.low k hk with h1 | h1
  · exact Nat.le_trans h.below.size h1
  · exact h.old _ h1
theorem MB.step {w00 w1 w : World} {b : Nat} {ob : Obj} {L' : List (Nat × TypeId × Array Value)} (h : MB w00 O w1 b ob) (hL : Kn O w1 w L) (hs : ∀ x ∈ L', x ∈ L) : MB w00 (L'.map (·.1)) w b ob := by
  refine ⟨hL.belowO h.old h.below h.below.size, fun k hk => ?_, h.blk hL, fun hk => ?_, h.ge⟩
  · obtain ⟨x, hx, rfl⟩ := List.mem_map.1 hk
    exact h.ge0 hL x (hs x hx)
  · obtain ⟨x, hx, e⟩ := List.mem_map.1 hk
    exact h.nl hL x (hs x hx) e
theorem MB.set {w00 w1 : World} {b : Nat} {ob ob' : Obj} (h : MB w00 O w1 b ob) : MB w00 O (Go.ChangeMaps.setBlock w1 b ob') b ob' := by
  have hlt := h.lt
  refine ⟨⟨h.below.os, h.below.tape, h.below.output, by simpa [Go.ChangeMaps.setBlock] using h.below.size, fun j hj => ?_⟩, h.old, ?_, h.notin, h.ge⟩
  · have := h.ge
    simp only [Go.ChangeMaps.setBlock]
    rw [Array.getElem?_setIfInBounds_ne (by omega)]
    exact h.below.block j hj
  · simp [Go.ChangeMaps.setBlock, hlt]
/-- at the end: the walk's own blocks are new for the world ahead of the map -/
theorem MB.kn {w00 w1 w : World} {b : Nat} {ob : Obj} (h : MB w00 O w1 b ob) (hL : Kn O w1 w L) : Kn [] w00 w L :=
  ⟨hL.os.trans h.below.os, hL.tape.trans h.below.tape, hL.output.trans h.below.output, Nat.le_trans h.below.size hL.size, Nat.le_refl _, fun j hj _ => by
    rw [← h.below.block j hj]
    refine hL.keep j (Nat.lt_of_lt_of_le hj h.below.size) fun k hk e => ?_
    have := h.ge0 hL k hk; omega, fun k hk => .inl (h.ge0 hL k hk), hL.has, hL.nodup⟩
theorem MB.stepP {w00 w1 w : World} {b : Nat} {ob : Obj} {R L' : List (Nat × TypeId × Array Value)} (h : MB w00 O w1 b ob) (hL : Kn O w1 w L) (hp : L.Perm (R ++ L')) : MB w00 (L'.map (·.1)) w b ob := h.step hL fun x hx => hp.mem_iff.2 (List.mem_append_right _ hx)
theorem Kn.subl {w0 w : World} {L L' : List (Nat × TypeId × Array Value)} (h : Kn [] w0 w L) (hs : L'.Sublist L) : Kn [] w0 w L' :=
  ⟨h.os, h.tape, h.output, h.size, h.base, fun k hk _ => h.keep k hk fun x hx e => (by
    rcases h.low x hx with h1 | h1
    · omega
    · cases h1), fun x hx => h.low x (hs.subset hx), fun x hx => h.has x (hs.subset hx), List.Nodup.sublist (hs.map _) h.nodup⟩
theorem r_lkp {t e : TypeId} {zz : Value} {b : Nat} {ob : Obj} {f : Sp → Option Value} {s : Sp} (ho : o.op = .lookup t x y false) (hx : ev l x = some (.map (some b))) (hy : ev l y = some (sv s)) (ht : Try.prog.underlying t = some (.map 66 e)) (hz : ∀ w, (zeroValue e).run Try.prog w = .ok zz w) (hb : w0.heap[b]? = some ob) (hO : b ∉ O) (hm : MapIs ob f) (hv : (f s).getD zz = v) : Rn Try.prog n O w0 l L o v := hv ▸ r_lookup ho hx hy ht hz hb hO hm
abbrev ofL {ι : Type} (Lf : ι → List (Nat × TypeId × Array Value)) (i : ι) : List Nat := (Lf i).map (·.1)
/-- a loop whose base is the world in which its round begins -/
theorem c_loopX {ι : Type} {c : Code} (μ : ι → Nat) (Pf : ι → Prop) (wf : ι → World) (lf : ι → List (Nat × Value)) (Lf : ι → List (Nat × TypeId × Array Value)) (h0 : ∀ w, Kn O w0 w L → ∃ i R, Pf i ∧ wf i = w ∧ Sub l (lf i) ∧ L.Perm (R ++ Lf i))
    (round : ∀ i, Pf i → C P (Exit.then (RdW n μ Pf (ofL Lf) wf lf Lf (μ i)) Q) n (ofL Lf i) (wf i) c (lf i) (Lf i)) : C P Q n O w0 (.loop c) l L := fun a w hF hL => by
  obtain ⟨i, R, hP, hw, hs, hp⟩ := h0 w hL
  have hK : Kn (ofL Lf i) (wf i) w (Lf i) := by rw [hw]; exact Kn.here hL hp
  exact c_loopW μ Pf (ofL Lf) wf lf Lf i hP rfl rfl (fun i v h => h) rfl round a w (hF.sub hs) hK
theorem e_roundX {ι : Type} {μ : ι → Nat} {Pf : ι → Prop} {wf : ι → World} {lf : ι → List (Nat × Value)} {Lf : ι → List (Nat × TypeId × Array Value)} {m : Nat} (h : ∀ w, Kn O w0 w L → ∃ j R, μ j < m ∧ Pf j ∧ wf j = w ∧ Sub l (lf j) ∧ L.Perm (R ++ Lf j)) : E (Exit.then (RdW n μ Pf (ofL Lf) wf lf Lf m) Q) n O w0 .normal l L := fun a w hF hL => by
  obtain ⟨j, R, hm, hP, hw, hs, hp⟩ := h w hL
  have hK : Kn (ofL Lf j) (wf j) w (Lf j) := by rw [hw]; exact Kn.here hL hp
  exact ⟨j, hm, hP, hF.sub hs, hK⟩
/-- a block that stands as it stood can be left out -/
theorem Kn.ridSame {w : World} {b : Nat × TypeId × Array Value} (h : Kn O w0 w (b :: L)) (hs : w0.heap[b.1]? = some (.cells b.2.2 b.2.1 (0, 0))) : Kn O w0 w L :=
  ⟨h.os, h.tape, h.output, h.size, h.base, fun k hk hx => by
    by_cases e : k = b.1
    · subst e; rw [h.has b List.mem_cons_self, hs]
    · exact h.keep k hk fun x hx2 => by
        rcases List.mem_cons.1 hx2 with rfl | hx2
        · exact fun q => e q.symm
        · exact hx x hx2, fun x hx => h.low x (List.mem_cons_of_mem _ hx), fun x hx => h.has x (List.mem_cons_of_mem _ hx), (List.nodup_cons.1 (by simpa using h.nodup)).2⟩
/-- append, the base being the world ahead of it -/
theorem run_appX {t ty e : TypeId} {z : Value} {sz bytes : Nat} (ht : P.underlying t = some (.slice e)) (hi : (P.info? e).map (fun i => (i.zero, i.size, i.bytes)) = some (some z, sz, bytes)) (hzs : z.cells.size = sz) (hsz : 0 < sz)
    {w : World} {g k cap : Nat} {cur : Array Value} {xs : List Value} (hA : Ap sz k cap cur xs) (hL0 : Kn O w0 w (pre ++ (g, e, cur) :: post)) {g2 m c : Nat} {T2 : TypeId} {c2 : Array Value} (h2 : w.heap[g2]? = some (.cells c2 T2 (0, 0))) {news : List Value} (hl : news.length = m * sz) (hn : c2.toList.take (m * sz) = news) (h1 : ∀ u ∈ news, u.oneCell' = true)
    (h63 : k + m ≤ maxLen) (hbytes : (k + m) * bytes ≤ 140737488355328) :
    ∃ g' cap' cur' w', (Builtin.append_ #[t, t] ty #[.slice (some ⟨g, 0, none⟩) k cap, .slice (some ⟨g2, 0, none⟩) m c]).run P w = .ok (.slice (some ⟨g', 0, none⟩) (k + m) cap') w' ∧ Ap sz (k + m) cap' cur' (xs ++ news) ∧ Kn ((pre ++ (g, e, cur) :: post).map (·.1)) w w' (pre ++ (g', e, cur') :: post) := by
  obtain ⟨i, q1, q2, q3, q4⟩ := info_parts hi
  subst q3; subst q4
  have hL : Kn ((pre ++ (g, e, cur) :: post).map (·.1)) w w (pre ++ (g, e, cur) :: post) := Kn.here (R := []) hL0 (List.Perm.refl _)
  have hg := hL.has (g, e, cur) (by simp)
  have hnews : ∀ j u, news[j]? = some u → w.cell? ((⟨g2, 0, none⟩ : Addr).add j) = some u := fun j u hu => by
    rw [add_lit0, Nat.zero_add, cell_of_row w g2 j c2 T2 (0, 0) h2]
    subst hn
    rw [List.getElem?_take] at hu
    split at hu
    · simpa using hu
    · cases hu
  have hlen : (xs ++ news).length = (k + m) * i.size := by rw [List.length_append, hA.len, hl, Nat.add_mul]
  by_cases hroom : k + m ≤ cap
  · have hfit : k * i.size + news.length ≤ cur.size := by rw [hl, hA.size, ← Nat.add_mul]; exact Nat.mul_le_mul_right _ hroom
    have hr := run_append_room (P := P) w t ty e i ht q1 g k cap cur hg ⟨g2, 0, none⟩ m c news hl hnews h1 hroom hfit
    refine ⟨g, cap, (cur.toList.take (k * i.size) ++ news ++ cur.toList.drop (k * i.size + news.length)).toArray, _, hr, ⟨hlen, hroom, hA.max, ?_, ?_⟩, ?_⟩
    · have := hA.size
      simp only [List.size_toArray, List.length_append, List.length_take, List.length_drop, Array.length_toList]
      omega
    · rw [hA.take, ← hlen]
      exact List.take_left
    · have hp : Kn ((pre ++ (g, e, cur) :: post).map (·.1)) w w ((g, e, cur) :: (pre ++ post)) := hL.perm List.perm_middle
      exact Kn.perm (L := (g, e, _) :: (pre ++ post)) (Own.put hp (i := 0) rfl _) List.perm_middle.symm
  · have holds : ∀ j u, xs[j]? = some u → w.cell? ((⟨g, 0, none⟩ : Addr).add j) = some u := fun j u hu => by
      rw [add_lit0, Nat.zero_add, cell_of_row w g j cur e (0, 0) hg]
      rw [← hA.take, List.getElem?_take] at hu
      split at hu
      · simpa using hu
      · cases hu
    have hsmall : k + m ≤ 9223372036854775807 := by simp only [maxLen] at h63; omega
    have hle := hA.le
    have hr := run_append_grow (P := P) w t ty e i z ht q1 q2 ⟨g, 0, none⟩ k cap xs hA.len holds ⟨g2, 0, none⟩ m c news hl hnews (by omega) (by omega) (growslice_fits (by omega) hbytes)
    have hge := grownCap_ge w (k + m) cap e
    refine ⟨w.heap.size, grownCap w (k + m) cap e, xs.toArray ++ news.toArray ++ Builtin.zeroCells z.cells (grownCap w (k + m) cap e - (k + m)), _, hr, ⟨hlen, hge, grownCap_le_maxLen w (k + m) cap e h63, ?_, ?_⟩, ?_⟩
    · simp only [Array.size_append, List.size_toArray, size_zeroCells, hzs, hA.len, hl, ← Nat.add_mul]
      congr 1
      omega
    · simp only [Array.toList_append, List.append_assoc]
      rw [← List.append_assoc, ← hlen]
      exact List.take_left
    · have h3 := Own.new (Own.drew hL) e (xs.toArray ++ news.toArray ++ Builtin.zeroCells z.cells (grownCap w (k + m) cap e - (k + m)))
      have h4 := Kn.perm h3 (((List.perm_middle (l₁ := pre) (a := (g, e, cur)) (l₂ := post)).cons _).trans (List.Perm.swap (g, e, cur) _ _))
      exact (Kn.ridSame h4 hg).perm List.perm_middle.symm
theorem s_appX {t e : TypeId} {z : Value} {sz bytes : Nat} (ho : o.op = .call { callee := .builtin .append, args := #[x, y], argTypes := #[t, t] }) (ht : P.underlying t = some (.slice e)) (hi : (P.info? e).map (fun i => (i.zero, i.size, i.bytes)) = some (some z, sz, bytes)) (hzs : z.cells.size = sz) (hsz : 0 < sz)
    {g k cap : Nat} {cur : Array Value} {xs : List Value} (hA : Ap sz k cap cur xs) {g2 m c : Nat} {T2 : TypeId} {c2 : Array Value} {news : List Value} (hx : ev l x = some (.slice (some ⟨g, 0, none⟩) k cap)) (hy : ev l y = some (.slice (some ⟨g2, 0, none⟩) m c)) (hm : (g2, T2, c2) ∈ pre ++ (g, e, cur) :: post) (hl : news.length = m * sz) (hn : c2.toList.take (m * sz) = news) (h1 : ∀ u ∈ news, u.oneCell' = true)
    (h63 : k + m ≤ maxLen) (hbytes : (k + m) * bytes ≤ 140737488355328) (hg : o.guard = none) (hd : o.dst = some d) (hdn : Nat.blt d n = true)
    (h : ∀ w g' cap' cur', Kn O w0 w (pre ++ (g, e, cur) :: post) → Ap sz (k + m) cap' cur' (xs ++ news) → S P ops Q n ((pre ++ (g, e, cur) :: post).map (·.1)) w rest ((d, .slice (some ⟨g', 0, none⟩) (k + m) cap') :: l) (pre ++ (g', e, cur') :: post)) : S P ops Q n O w0 (o :: rest) l (pre ++ (g, e, cur) :: post) := fun a w hF hL =>
  wpList_plain hg fun K hK => by
    obtain ⟨g', cap', cur', w', hr, hA', hL'⟩ := run_appX (P := P) (ty := o.type) (c := c) ht hi hzs hsz hA hL (hL.has _ hm) hl hn h1 h63 hbytes
    unfold Oper.wp execOp
    simp only [ho, resolve, invoke, builtin, Sem.run_bind, Sem.run_pure, Result.andThen_ok, List.map_toArray, List.map_cons, List.map_nil, hF.eval hx, hF.eval hy, hr]
    show K (a.put o.dst _) w'
    rw [hd]
    exact hK _ _ (h w g' cap' cur' hL hA' _ _ (hF.put hdn _) hL')
end Wk
theorem MapIs.congr {ob : Obj} {f g : Sp → Option Value} (h : MapIs ob f) (e : ∀ u, f u = g u) : MapIs ob g := (funext e : f = g) ▸ h
end Go.Proofs.Ytnfdefeafhepkaa
/- Fences: hurdles of a pasture, their code; hurdles that are put or taken. No condition. -/
namespace Go.Proofs.Ytnfdefeafhepkaa
set_option linter.unusedVariables false
set_option linter.unusedSimpArgs false
open Go.RowKit Mem Wk
attribute [local irreducible] Calls Wk.S Wk.C Wk.E Wk.X Wk.T Wk.anV Wk.orV Wk.andV Wk.shlV Wk.shrV Calm.wpLex
def sdOf (s : Bool) : Int := if s then 2 else 1
def isH (p : Nat → Int) (h : Hd) : Bool := isC (p 0) (p 1) h.x h.y && isC (p 0) (p 1) (nextX h.x (sdOf h.s)) (nextY h.y (sdOf h.s))
set_option maxRecDepth 100000 in
theorem other_any (x y : Int) (s : Bool) (w : World) (hx : -127 ≤ x ∧ x ≤ 126) (hy : -127 ≤ y ∧ y ≤ 126) :
    Calls Try.prog 114 #[.agg #[.int .i8 x, .int .i8 y, .bool s]] w fun e w' => e = .returned (.agg #[.int .i8 (nextX x (sdOf s)), .int .i8 (nextY y (sdOf s))]) ∧ Below w.heap.size w w' := by
  refine enter1 Try.func114 rfl rfl rfl (Own.start w) ?_
  repeat' (first
    | (refine s_g ?_; first
      | (refine s_k 23 rfl ?_; first | refine s_val rfl rfl rfl (r_field tb rfl rfl rfl) ?_ | refine s_val rfl rfl rfl (r_fieldS tb rfl rfl rfl) ?_)
      | (refine s_k 8 rfl ?_; first | (refine' s_val rfl rfl rfl (r_ldv rfl rfl ?qm ?qv) ?_; (case qm => (exact zMm)); (case qv => (exact zLe))) | (refine' s_val rfl rfl rfl (r_ldo rfl rfl ?qw (by simp) ?qv) ?_; (case qw => assumption); (case qv => (exact zLe))))
      | (refine s_k 35 rfl ?_; (refine s_call Try.func103 (by kernel_rfl) rfl rfl rfl rfl rfl rfl (fun w hL => ahead_any _ _ _ _ hx hy) ?_))
      | (refine s_k 4 rfl ?_; first | refine s_boxA rfl rfl rfl rfl rfl fun blk => ?_ | refine s_box1 rfl rfl rfl rfl rfl rfl fun blk => ?_)
      | (refine s_k 9 rfl ?_; (first | refine s_st1 tb rfl rfl rfl rfl rfl rfl rfl rfl ?_ | refine s_stA tb rfl rfl rfl rfl (by first | rfl | assumption | (apply Pv.size; assumption)) rfl rfl ?_); (first | refine' st0 ?qs ?_ | refine' st1 ?qs ?_ | refine' st2 ?qs ?_ | refine' st3 ?qs ?_ | refine' st4 ?qs ?_ | refine' st5 ?qs ?_ | refine' st6 ?qs ?_ | refine' st7 ?qs ?_ | refine' st8 ?qs ?_ | refine' st9 ?qs ?_ | refine' st10 ?qs ?_ | refine' st11 ?qs ?_); (case qs => (first | exact zSet)))
      | (refine s_k 3 rfl ?_; refine s_allocA (t := 66) rfl zImplSpot rfl rfl rfl fun blk => ?_)
      | refine s_nil ?_)
    | (refine c_g ?_; first | refine c_seq ?_ | refine c_region ?_ | (refine c_gc ?_; first | refine c_cond1 rfl zTr ?_ | refine c_cond0 rfl zTr ?_ | refine z_condd1 rfl ?_ | refine z_condd0 rfl ?_ | refine z_conddn1 rfl ?_ | refine z_conddn0 rfl ?_ | refine c_condd rfl (fun hc => ?_) (fun hc => ?_) | refine c_conddn rfl (fun hc => ?_) (fun hc => ?_) | refine c_condn rfl (fun hc => ?_) (fun hc => ?_) | refine c_cond rfl (fun hc => ?_) (fun hc => ?_)) | refine c_block ?_ | refine c_skip ?_ | refine c_exit ?_ | refine c_ret ?_)
    | (refine e_g ?_; first | refine e_then ?_ | refine e_blkn ?_ | refine e_thenx ?_ | refine e_thenr ?_ | refine e_blkr ?_ | refine e_blkx ?_ | refine e_blky rfl ?_)
    | (refine e_ret1 (by simp) rfl (re_cell tb rfl m0 rfl rfl) fun w hL => ⟨?_, hL.toBelow⟩))
  all_goals (simp [sdOf, *]; done)
set_option maxRecDepth 100000 in
set_option maxHeartbeats 400000 in
theorem isHurdle_any (p : Nat → Int) (cs : Array Value) (x y : Int) (s : Bool) (w : World) (hp : Pv p cs) (hs : (Hd.mk x y s).ok) :
    Calls Try.prog 145 #[.agg cs, .agg #[.int .i8 x, .int .i8 y, .bool s]] w fun e w' => e = .returned (.bool (isH p ⟨x, y, s⟩)) ∧ Below w.heap.size w w' := by
  have hsz := hp.size
  cases hn : isC (p 0) (p 1) x y
  case' true =>
    have hr := isC_range hn
    have hnr := next_range (x := x) (y := y) (side := sdOf s) ⟨hr.1, hr.2.1⟩ hr.2.2
  all_goals
    refine enter2 Try.func145 rfl rfl rfl (Own.start w) ?_
    repeat' (first
      | (refine s_g ?_; first
      | (refine s_gd rfl ?_; first | refine s_gd1 rfl rfl zTr ?_ | refine s_gd0 rfl rfl rfl zTr ?_ | refine s_gd00 rfl rfl zTr ?_ | refine s_gp1 rfl rfl rfl (fun hc => ?_) (fun hc => ?_) | refine s_gp0 rfl rfl rfl (fun hc => ?_) (fun hc => ?_) | refine s_gnp1 rfl rfl rfl (fun hc => ?_) (fun hc => ?_) | refine s_gnp0 rfl rfl rfl (fun hc => ?_) (fun hc => ?_) | refine s_gb1 rfl rfl rfl (fun hc => ?_) (fun hc => ?_) | refine s_gb0 rfl rfl rfl (fun hc => ?_) (fun hc => ?_) | refine s_gnb1 rfl rfl rfl (fun hc => ?_) (fun hc => ?_) | refine s_gnb0 rfl rfl rfl (fun hc => ?_) (fun hc => ?_))
      | (refine s_k 0 rfl ?_; refine s_val rfl rfl rfl (r_move rfl rfl) ?_)
      | (refine s_k 23 rfl ?_; first | refine s_val rfl rfl rfl (r_field tb rfl rfl rfl) ?_ | refine s_val rfl rfl rfl (r_fieldS tb rfl rfl rfl) ?_)
      | (refine s_k 8 rfl ?_; first | (refine' s_val rfl rfl rfl (r_ldv rfl rfl ?qm ?qv) ?_; (case qm => (exact zMm)); (case qv => (exact zLe))) | (refine' s_val rfl rfl rfl (r_ldo rfl rfl ?qw (by simp) ?qv) ?_; (case qw => assumption); (case qv => (exact zLe))))
      | (refine s_k 1 rfl ?_; refine s_val rfl rfl rfl (r_assign rfl rfl) ?_)
      | (refine s_k 35 rfl ?_; first | (refine s_call Try.func78 (by kernel_rfl) rfl rfl rfl rfl rfl rfl (fun w hL => isCell_any p cs x y _ hp ⟨hs.1, hs.2.1⟩ hs.2.2) ?_) | (refine s_call Try.func78 (by kernel_rfl) rfl rfl rfl rfl rfl rfl (fun w hL => isCell_any p cs _ _ _ hp hnr.1 hnr.2) ?_) | (refine s_call Try.func114 (by kernel_rfl) rfl rfl rfl rfl rfl rfl (fun w hL => other_any _ _ _ _ (by omega) (by omega)) ?_))
      | (refine s_k 2 rfl ?_; first | refine s_val rfl rfl rfl (r_pick1 rfl rfl zTr rfl) ?_ | refine s_val rfl rfl rfl (r_pick0 rfl rfl zTr rfl) ?_)
      | (refine s_k 4 rfl ?_; first | refine s_boxA rfl rfl rfl rfl rfl fun blk => ?_ | refine s_box1 rfl rfl rfl rfl rfl rfl fun blk => ?_)
      | refine s_nil ?_)
      | (refine c_g ?_; first | refine c_seq ?_ | refine c_region ?_ | (refine c_gc ?_; first | refine c_cond1 rfl zTr ?_ | refine c_cond0 rfl zTr ?_ | refine z_condd1 rfl ?_ | refine z_condd0 rfl ?_ | refine z_conddn1 rfl ?_ | refine z_conddn0 rfl ?_ | refine c_condd rfl (fun hc => ?_) (fun hc => ?_) | refine c_conddn rfl (fun hc => ?_) (fun hc => ?_) | refine c_condn rfl (fun hc => ?_) (fun hc => ?_) | refine c_cond rfl (fun hc => ?_) (fun hc => ?_)) | refine c_block ?_ | refine c_skip ?_ | refine c_exit ?_ | refine c_ret ?_)
      | (refine e_g ?_; first | refine e_then ?_ | refine e_blkn ?_ | refine e_thenx ?_ | refine e_thenr ?_ | refine e_blkr ?_ | refine e_blkx ?_ | refine e_blky rfl ?_)
      | (refine x_g ?_; first
      | (refine x_gd rfl ?_; first | refine x_gd1 rfl rfl zTr ?_ | (refine x_gd0 rfl rfl rfl zTr ?hp ?_; (case hp => exact rfl)))
      | (refine x_k 0 rfl ?_; (refine x_val rfl rfl rfl (r_move rfl rfl) ?hp ?_; (case hp => exact rfl)))
      | (refine x_k 23 rfl ?_; first | (refine x_val rfl rfl rfl (r_field tb rfl rfl rfl) ?hp ?_; (case hp => exact rfl)) | (refine x_val rfl rfl rfl (r_fieldS tb rfl rfl rfl) ?hp ?_; (case hp => exact rfl)))
      | (refine x_k 8 rfl ?_; first | (refine' x_val rfl rfl rfl (r_ldv rfl rfl ?qm ?qv) ?hp ?_; (case qm => (exact zMm)); (case qv => (exact zLe)); (case hp => exact rfl)) | (refine' x_val rfl rfl rfl (r_ldo rfl rfl ?qw (by simp) ?qv) ?hp ?_; (case qw => assumption); (case qv => (exact zLe)); (case hp => exact rfl)))
      | (refine x_k 1 rfl ?_; (refine x_val rfl rfl rfl (r_assign rfl rfl) ?hp ?_; (case hp => exact rfl)))
      | (refine x_k 35 rfl ?_; first | (refine x_call Try.func78 (by kernel_rfl) rfl rfl rfl rfl rfl rfl (fun w hL => isCell_any p cs x y _ hp ⟨hs.1, hs.2.1⟩ hs.2.2) ?hp ?_; (case hp => exact rfl)) | (refine x_call Try.func78 (by kernel_rfl) rfl rfl rfl rfl rfl rfl (fun w hL => isCell_any p cs _ _ _ hp hnr.1 hnr.2) ?hp ?_; (case hp => exact rfl)) | (refine x_call Try.func114 (by kernel_rfl) rfl rfl rfl rfl rfl rfl (fun w hL => other_any _ _ _ _ (by omega) (by omega)) ?hp ?_; (case hp => exact rfl)))
      | (refine x_k 2 rfl ?_; first | (refine x_val rfl rfl rfl (r_pick1 rfl rfl zTr rfl) ?hp ?_; (case hp => exact rfl)) | (refine x_val rfl rfl rfl (r_pick0 rfl rfl zTr rfl) ?hp ?_; (case hp => exact rfl)))
      | (refine x_k 4 rfl ?_; (refine x_boxA rfl rfl rfl rfl rfl ?hp (fun blk => ?_); (case hp => exact rfl)))
      | refine x_nil0 ?_
      | refine x_nil ?_)
      | (refine' c_drawX (id := 1) [(Sum.inl _ : Calm.Plan), (Sum.inl _ : Calm.Plan), (Sum.inl _ : Calm.Plan), (Sum.inl _ : Calm.Plan), (Sum.inl _ : Calm.Plan), (Sum.inl _ : Calm.Plan), (Sum.inl _ : Calm.Plan), (Sum.inl _ : Calm.Plan), (Sum.inl _ : Calm.Plan), (Sum.inl _ : Calm.Plan), (Sum.inl _ : Calm.Plan)] (by kernel_rfl) (by kernel_rfl) (by kernel_rfl) ?_)
      | (refine e_ret1 (by simp) rfl (re_tmp rfl) fun w hL => ⟨?_, hL.toBelow⟩))
    all_goals (simp [isH, *]; done)
end Go.Proofs.Ytnfdefeafhepkaa
