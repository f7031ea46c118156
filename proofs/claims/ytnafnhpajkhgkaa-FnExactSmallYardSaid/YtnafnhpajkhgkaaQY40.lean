import Derived.ChangeMaps4
import Derived.Test.YtnafnhpajkhgkaaQY12
import Derived.Test.YtnafnhpajkhgkaaQY34
/- Maps whose keys are cells: what a lookup finds, what an update leaves. Plain theorems; no condition. -/
namespace Go.Proofs.Ytnafnhpajkhgkaa
set_option linter.unusedVariables false
set_option linter.unusedSimpArgs false
open Go Go.RowKit Mem Wk
open Classical
def sv (s : Sp) : Value := .agg #[.int .i8 s.x, .int .i8 s.y]
def spotKeys (es : List MapEntry) : Prop := ∀ e ∈ es, ∃ t, e.key = sv t
noncomputable def mfind (s : Sp) : List MapEntry → Nat → Option (Nat × Value)
  | [], _ => none
  | e :: es, i => if e.key = sv s then some (i, e.val) else mfind s es (i + 1)
/-- the map's object answers f -/
def MapIs (o : Obj) (f : Sp → Option Value) : Prop := ∃ es ck, o = .map es ck ∧ spotKeys es.toList ∧ ∀ s, (mfind s es.toList 0).map (·.2) = f s
theorem MapIs.new : MapIs (.map #[] 0) (fun _ => none) := ⟨#[], 0, rfl, fun e h => by simp at h, fun s => rfl⟩
theorem run_makeMap (t : TypeId) (w : World) : (Instr.makeMap t none).run Try.prog w = .ok (.map (some w.heap.size)) (w.alloc (.map #[] 0)) := rfl
namespace Wk
variable {n : Nat} {O : List Nat} {w0 : World} {l : List (Nat × Value)} {L : List (Nat × TypeId × Array Value)} {Q : Exit → Act → World → Prop} {ops : Array Oper} {o : Oper} {rest : List Oper} {d : Nat} {v : Value} {x y z : Operand}
/-- all that stands up to a block: the world in which that block is the last -/
def upto (w : World) (k : Nat) : World := { w with heap := w.heap.extract 0 k }
theorem upto_size {w : World} {k : Nat} (h : k ≤ w.heap.size) : (upto w k).heap.size = k := by simp [upto]; omega
theorem upto_get {w : World} {k j : Nat} (h : j < k) : (upto w k).heap[j]? = w.heap[j]? := by
  simp only [upto]
  rw [Array.getElem?_extract]
  simp only [Nat.sub_zero, Nat.zero_add]
  split
  · rfl
  · rw [Array.getElem?_eq_none (by omega)]
/-- the base is set anew: the blocks that a walk has made so far are told as old ones that it may write -/
theorem Kn.rebase {w : World} {k : Nat} (h : Kn O w0 w L) (hk : k ≤ w.heap.size) : Kn (L.map (·.1)) (upto w k) w L :=
  ⟨rfl, rfl, rfl, by rw [upto_size hk]; exact hk, Nat.le_refl _, fun j hj _ => (upto_get (by rwa [upto_size hk] at hj)).symm, fun b hb => .inr (List.mem_map_of_mem hb), h.has, h.nodup⟩
/-- a walk whose base was set anew has left what stood ahead of it -/
theorem Kn.belowO {w1 w : World} {k : Nat} (h : Kn O w1 w L) (hO : ∀ b ∈ O, k ≤ b) (hb : Below k w0 w1) (hk : k ≤ w1.heap.size) : Below k w0 w :=
  ⟨h.os.trans hb.os, h.tape.trans hb.tape, h.output.trans hb.output, Nat.le_trans hb.size h.size, fun j hj => by
    rw [← hb.block j hj]
    refine h.keep j (by omega) fun b hbL e => ?_
    rcases h.low b hbL with h1 | h1
    · omega
    · have := hO _ h1; omega⟩
/-- a loop whose base may be another in each round -/
def RdW {ι : Type} (n : Nat) (μ : ι → Nat) (Pf : ι → Prop) (Of : ι → List Nat) (wf : ι → World) (lf : ι → List (Nat × Value)) (Lf : ι → List (Nat × TypeId × Array Value)) (m : Nat) (a : Act) (w : World) : Prop := ∃ j, μ j < m ∧ Pf j ∧ Fr n (lf j) a ∧ Kn (Of j) (wf j) w (Lf j)
theorem c_loopW {P : Program} {ι : Type} {c : Code} (μ : ι → Nat) (Pf : ι → Prop) (Of : ι → List Nat) (wf : ι → World) (lf : ι → List (Nat × Value)) (Lf : ι → List (Nat × TypeId × Array Value)) (i : ι) (hP : Pf i) (hO : O = Of i) (hw0 : w0 = wf i) (hs : Sub l (lf i)) (hL0 : L = Lf i)
    (round : ∀ i, Pf i → C P (Exit.then (RdW n μ Pf Of wf lf Lf (μ i)) Q) n (Of i) (wf i) c (lf i) (Lf i)) : C P Q n O w0 (.loop c) l L := fun a w hF hL => by
  subst hL0; subst hO; subst hw0
  refine wp_loopI (fun m a w => ∃ j, μ j = m ∧ Pf j ∧ Fr n (lf j) a ∧ Kn (Of j) (wf j) w (Lf j)) (m := μ i) ⟨i, rfl, hP, hF.sub hs, hL⟩ ?_
  rintro m a w ⟨j, rfl, h1, h2, h3⟩
  refine Code.wp_mono ?_ (round j h1 a w h2 h3)
  intro e a' w' hq
  cases e with
  | normal => obtain ⟨j', hm, hP', hF', hL'⟩ := hq; exact ⟨μ j', hm, j', rfl, hP', hF', hL'⟩
  | _ => exact hq
/-- a map is made: the base is set anew, up to the map -/
theorem s_mkMap {t : TypeId} (ho : o.op = .makeMap t none) (hg : o.guard = none) (hd : o.dst = some d) (hn : Nat.blt d n = true)
    (h : ∀ b w1, Below w0.heap.size w0 w1 → w1.heap.size = b + 1 → (∀ k ∈ L.map (·.1), k < b) → (∀ x ∈ L, w0.heap.size ≤ x.1 ∨ x.1 ∈ O) → w1.heap[b]? = some (.map #[] 0) → S Try.prog ops Q n (L.map (·.1)) w1 rest ((d, .map (some b)) :: l) L) (hO : O = []) : S Try.prog ops Q n O w0 (o :: rest) l L := fun a w hF hL => by
  subst hO
  have hlt : ∀ x ∈ L, x.1 < w.heap.size := fun x hx => (Array.getElem?_eq_some_iff.1 (hL.has x hx)).1
  have hr : (execOp a.eval o).run Try.prog w = .ok (.value (.map (some w.heap.size))) (w.alloc (.map #[] 0)) := by
    have := run_makeMap t w
    simp [execOp, ho, this]
  have hb : Below w.heap.size w (w.alloc (.map #[] 0)) := Below.alloc ⟨rfl, rfl, rfl, Nat.le_refl _, fun _ _ => rfl⟩ (Nat.le_refl _) _
  have hL1 : Kn [] w0 (w.alloc (.map #[] 0)) L := Own.ext hL hb
  have hz : (w.alloc (.map #[] 0)).heap.size = w.heap.size + 1 := by simp
  have hsz : w0.heap.size ≤ w.heap.size := hL.size
  have hB := hL1.toBelow
  refine wpl_run hg hr ?_
  rw [hd]
  refine h w.heap.size (upto (w.alloc (.map #[] 0)) (w.heap.size + 1)) ⟨hB.os, hB.tape, hB.output, ?_, fun j hj => ?_⟩ (upto_size (by omega)) (fun k hk => ?_) hL.low ?_ _ _ (hF.put hn _) (hL1.rebase (by omega))
  · rw [upto_size (by omega)]; omega
  · rw [upto_get (by omega)]; exact hB.block j hj
  · obtain ⟨x, hx, rfl⟩ := List.mem_map.1 hk; exact hlt x hx
  · rw [upto_get (by omega)]; exact heap_alloc_new w _
end Wk
end Go.Proofs.Ytnafnhpajkhgkaa
/- Walks beside a map: a loop whose base is the world as it stands; append without a condition on the base. No condition. -/
namespace Go.Proofs.Ytnafnhpajkhgkaa
set_option linter.unusedVariables false
set_option linter.unusedSimpArgs false
open Go Go.RowKit Mem Wk
namespace Wk
variable {P : Program} {n : Nat} {O : List Nat} {w0 : World} {l : List (Nat × Value)} {L pre post : List (Nat × TypeId × Array Value)} {Q : Exit → Act → World → Prop} {ops : Array Oper} {o : Oper} {rest : List Oper} {d : Nat} {v : Value} {x y z : Operand}
/-- a world as the base of itself -/
theorem Kn.here {w : World} {R L' : List (Nat × TypeId × Array Value)} (h : Kn O w0 w L) (hp : L.Perm (R ++ L')) : Kn (L'.map (·.1)) w w L' := by
  have hL' : ∀ x ∈ L', x ∈ L := fun x hx => hp.mem_iff.2 (List.mem_append_right _ hx)
  refine ⟨rfl, rfl, rfl, Nat.le_refl _, Nat.le_refl _, fun _ _ _ => rfl, fun b hb => .inr (List.mem_map_of_mem hb), fun b hb => h.has b (hL' b hb), ?_⟩
  have h1 := (hp.map (·.1)).nodup_iff.1 h.nodup
  rw [List.map_append] at h1
  exact (List.nodup_append.1 h1).2.1
/-- A map beside a walk: what the base holds. -/
structure MB (w0 : World) (O : List Nat) (w1 : World) (b : Nat) (ob : Obj) : Prop where
  below : Below w0.heap.size w0 w1
  old : ∀ k ∈ O, w0.heap.size ≤ k
  get : w1.heap[b]? = some ob
  notin : b ∉ O
  ge : w0.heap.size ≤ b
theorem MB.lt {w00 w1 : World} {b : Nat} {ob : Obj} (h : MB w00 O w1 b ob) : b < w1.heap.size := (Array.getElem?_eq_some_iff.1 h.get).1
theorem MB.nl {w00 w1 w : World} {b : Nat} {ob : Obj} (h : MB w00 O w1 b ob) (hL : Kn O w1 w L) : ∀ k ∈ L, k.1 ≠ b := fun k hk e => by
  rcases hL.low k hk with h1 | h1
  · have := h.lt; omega
  · exact h.notin (e ▸ h1)
theorem MB.blk {w00 w1 w : World} {b : Nat} {ob : Obj} (h : MB w00 O w1 b ob) (hL : Kn O w1 w L) : w.heap[b]? = some ob := by
  rw [← h.get]; exact hL.keep b h.lt (h.nl hL)
theorem MB.ge0 {w00 w1 w : World} {b : Nat} {ob : Obj} (h : MB w00 O w1 b ob) (hL : Kn O w1 w L) : ∀ k ∈ L, w00.heap.size ≤ k.1 := fun k hk => by
  rcases hL.low k hk with h1 | h1
  · exact Nat.le_trans h.below.size h1
  · exact h.old _ h1
theorem MB.step {w00 w1 w : World} {b : Nat} {ob : Obj} {L' : List (Nat × TypeId × Array Value)} (h : MB w00 O w1 b ob) (hL : Kn O w1 w L) (hs : ∀ x ∈ L', x ∈ L) : MB w00 (L'.map (·.1)) w b ob := by
  refine ⟨hL.belowO h.old h.below h.below.size, fun k hk => ?_, h.blk hL, fun hk => ?_, h.ge⟩
  · obtain ⟨x, hx, rfl⟩ := List.mem_map.1 hk
    exact h.ge0 hL x (hs x hx)
  · obtain ⟨x, hx, e⟩ := List.mem_map.1 hk
    exact h.nl hL x (hs x hx) e
theorem MB.set {w00 w1 : World} {b : Nat} {ob ob' : Obj} (h : MB w00 O w1 b ob) : MB w00 O (Go.ChangeMaps.setBlock w1 b ob') b ob' := by
  have hlt := h.lt
  refine ⟨⟨h.below.os, h.below.tape, h.below.output, by simpa [Go.ChangeMaps.setBlock] using h.below.size, fun j hj => ?_⟩, h.old, ?_, h.notin, h.ge⟩
  · have := h.ge
    simp only [Go.ChangeMaps.setBlock]
    rw [Array.getElem?_setIfInBounds_ne (by omega)]
    exact h.below.block j hj
  · simp [Go.ChangeMaps.setBlock, hlt]
/-- at the end: the walk's own blocks are new for the world ahead of the map -/
theorem MB.kn {w00 w1 w : World} {b : Nat} {ob : Obj} (h : MB w00 O w1 b ob) (hL : Kn O w1 w L) : Kn [] w00 w L :=
  ⟨hL.os.trans h.below.os, hL.tape.trans h.below.tape, hL.output.trans h.below.output, Nat.le_trans h.below.size hL.size, Nat.le_refl _, fun j hj _ => by
    rw [← h.below.block j hj]
    refine hL.keep j (Nat.lt_of_lt_of_le hj h.below.size) fun k hk e => ?_
    have := h.ge0 hL k hk; omega, fun k hk => .inl (h.ge0 hL k hk), hL.has, hL.nodup⟩
theorem MB.stepP {w00 w1 w : World} {b : Nat} {ob : Obj} {R L' : List (Nat × TypeId × Array Value)} (h : MB w00 O w1 b ob) (hL : Kn O w1 w L) (hp : L.Perm (R ++ L')) : MB w00 (L'.map (·.1)) w b ob := h.step hL fun x hx => hp.mem_iff.2 (List.mem_append_right _ hx)
abbrev ofL {ι : Type} (Lf : ι → List (Nat × TypeId × Array Value)) (i : ι) : List Nat := (Lf i).map (·.1)
/-- a loop whose base is the world in which its round begins -/
theorem c_loopX {ι : Type} {c : Code} (μ : ι → Nat) (Pf : ι → Prop) (wf : ι → World) (lf : ι → List (Nat × Value)) (Lf : ι → List (Nat × TypeId × Array Value)) (h0 : ∀ w, Kn O w0 w L → ∃ i R, Pf i ∧ wf i = w ∧ Sub l (lf i) ∧ L.Perm (R ++ Lf i))
    (round : ∀ i, Pf i → C P (Exit.then (RdW n μ Pf (ofL Lf) wf lf Lf (μ i)) Q) n (ofL Lf i) (wf i) c (lf i) (Lf i)) : C P Q n O w0 (.loop c) l L := fun a w hF hL => by
  obtain ⟨i, R, hP, hw, hs, hp⟩ := h0 w hL
  have hK : Kn (ofL Lf i) (wf i) w (Lf i) := by rw [hw]; exact Kn.here hL hp
  exact c_loopW μ Pf (ofL Lf) wf lf Lf i hP rfl rfl (fun i v h => h) rfl round a w (hF.sub hs) hK
theorem e_roundX {ι : Type} {μ : ι → Nat} {Pf : ι → Prop} {wf : ι → World} {lf : ι → List (Nat × Value)} {Lf : ι → List (Nat × TypeId × Array Value)} {m : Nat} (h : ∀ w, Kn O w0 w L → ∃ j R, μ j < m ∧ Pf j ∧ wf j = w ∧ Sub l (lf j) ∧ L.Perm (R ++ Lf j)) : E (Exit.then (RdW n μ Pf (ofL Lf) wf lf Lf m) Q) n O w0 .normal l L := fun a w hF hL => by
  obtain ⟨j, R, hm, hP, hw, hs, hp⟩ := h w hL
  have hK : Kn (ofL Lf j) (wf j) w (Lf j) := by rw [hw]; exact Kn.here hL hp
  exact ⟨j, hm, hP, hF.sub hs, hK⟩
/-- a block that stands as it stood can be left out -/
theorem Kn.ridSame {w : World} {b : Nat × TypeId × Array Value} (h : Kn O w0 w (b :: L)) (hs : w0.heap[b.1]? = some (.cells b.2.2 b.2.1 (0, 0))) : Kn O w0 w L :=
  ⟨h.os, h.tape, h.output, h.size, h.base, fun k hk hx => by
    by_cases e : k = b.1
    · subst e; rw [h.has b List.mem_cons_self, hs]
    · exact h.keep k hk fun x hx2 => by
        rcases List.mem_cons.1 hx2 with rfl | hx2
        · exact fun q => e q.symm
        · exact hx x hx2, fun x hx => h.low x (List.mem_cons_of_mem _ hx), fun x hx => h.has x (List.mem_cons_of_mem _ hx), (List.nodup_cons.1 (by simpa using h.nodup)).2⟩
/-- append, the base being the world ahead of it -/
theorem run_appX {t ty e : TypeId} {z : Value} {sz bytes : Nat} (ht : P.underlying t = some (.slice e)) (hi : (P.info? e).map (fun i => (i.zero, i.size, i.bytes)) = some (some z, sz, bytes)) (hzs : z.cells.size = sz) (hsz : 0 < sz)
    {w : World} {g k cap : Nat} {cur : Array Value} {xs : List Value} (hA : Ap sz k cap cur xs) (hL0 : Kn O w0 w (pre ++ (g, e, cur) :: post)) {g2 m c : Nat} {T2 : TypeId} {c2 : Array Value} (h2 : w.heap[g2]? = some (.cells c2 T2 (0, 0))) {news : List Value} (hl : news.length = m * sz) (hn : c2.toList.take (m * sz) = news) (h1 : ∀ u ∈ news, u.oneCell' = true)
    (h63 : k + m ≤ maxLen) (hbytes : (k + m) * bytes ≤ 140737488355328) :
    ∃ g' cap' cur' w', (Builtin.append_ #[t, t] ty #[.slice (some ⟨g, 0, none⟩) k cap, .slice (some ⟨g2, 0, none⟩) m c]).run P w = .ok (.slice (some ⟨g', 0, none⟩) (k + m) cap') w' ∧ Ap sz (k + m) cap' cur' (xs ++ news) ∧ Kn ((pre ++ (g, e, cur) :: post).map (·.1)) w w' (pre ++ (g', e, cur') :: post) := by
  obtain ⟨i, q1, q2, q3, q4⟩ := info_parts hi
  subst q3; subst q4
  have hL : Kn ((pre ++ (g, e, cur) :: post).map (·.1)) w w (pre ++ (g, e, cur) :: post) := Kn.here (R := []) hL0 (List.Perm.refl _)
  have hg := hL.has (g, e, cur) (by simp)
  have hnews : ∀ j u, news[j]? = some u → w.cell? ((⟨g2, 0, none⟩ : Addr).add j) = some u := fun j u hu => by
    rw [add_lit0, Nat.zero_add, cell_of_row w g2 j c2 T2 (0, 0) h2]
    subst hn
    rw [List.getElem?_take] at hu
    split at hu
    · simpa using hu
    · cases hu
  have hlen : (xs ++ news).length = (k + m) * i.size := by rw [List.length_append, hA.len, hl, Nat.add_mul]
  by_cases hroom : k + m ≤ cap
  · have hfit : k * i.size + news.length ≤ cur.size := by rw [hl, hA.size, ← Nat.add_mul]; exact Nat.mul_le_mul_right _ hroom
    have hr := run_append_room (P := P) w t ty e i ht q1 g k cap cur hg ⟨g2, 0, none⟩ m c news hl hnews h1 hroom hfit
    refine ⟨g, cap, (cur.toList.take (k * i.size) ++ news ++ cur.toList.drop (k * i.size + news.length)).toArray, _, hr, ⟨hlen, hroom, hA.max, ?_, ?_⟩, ?_⟩
    · have := hA.size
      simp only [List.size_toArray, List.length_append, List.length_take, List.length_drop, Array.length_toList]
      omega
    · rw [hA.take, ← hlen]
      exact List.take_left
    · have hp : Kn ((pre ++ (g, e, cur) :: post).map (·.1)) w w ((g, e, cur) :: (pre ++ post)) := hL.perm List.perm_middle
      exact Kn.perm (L := (g, e, _) :: (pre ++ post)) (Own.put hp (i := 0) rfl _) List.perm_middle.symm
  · have holds : ∀ j u, xs[j]? = some u → w.cell? ((⟨g, 0, none⟩ : Addr).add j) = some u := fun j u hu => by
      rw [add_lit0, Nat.zero_add, cell_of_row w g j cur e (0, 0) hg]
      rw [← hA.take, List.getElem?_take] at hu
      split at hu
      · simpa using hu
      · cases hu
    have hsmall : k + m ≤ 9223372036854775807 := by simp only [maxLen] at h63; omega
    have hle := hA.le
    have hr := run_append_grow (P := P) w t ty e i z ht q1 q2 ⟨g, 0, none⟩ k cap xs hA.len holds ⟨g2, 0, none⟩ m c news hl hnews (by omega) (by omega) (growslice_fits (by omega) hbytes)
    have hge := grownCap_ge w (k + m) cap e
    refine ⟨w.heap.size, grownCap w (k + m) cap e, xs.toArray ++ news.toArray ++ Builtin.zeroCells z.cells (grownCap w (k + m) cap e - (k + m)), _, hr, ⟨hlen, hge, grownCap_le_maxLen w (k + m) cap e h63, ?_, ?_⟩, ?_⟩
    · simp only [Array.size_append, List.size_toArray, size_zeroCells, hzs, hA.len, hl, ← Nat.add_mul]
      congr 1
      omega
    · simp only [Array.toList_append, List.append_assoc]
      rw [← List.append_assoc, ← hlen]
      exact List.take_left
    · have h3 := Own.new (Own.drew hL) e (xs.toArray ++ news.toArray ++ Builtin.zeroCells z.cells (grownCap w (k + m) cap e - (k + m)))
      have h4 := Kn.perm h3 (((List.perm_middle (l₁ := pre) (a := (g, e, cur)) (l₂ := post)).cons _).trans (List.Perm.swap (g, e, cur) _ _))
      exact (Kn.ridSame h4 hg).perm List.perm_middle.symm
theorem s_appX {t e : TypeId} {z : Value} {sz bytes : Nat} (ho : o.op = .call { callee := .builtin .append, args := #[x, y], argTypes := #[t, t] }) (ht : P.underlying t = some (.slice e)) (hi : (P.info? e).map (fun i => (i.zero, i.size, i.bytes)) = some (some z, sz, bytes)) (hzs : z.cells.size = sz) (hsz : 0 < sz)
    {g k cap : Nat} {cur : Array Value} {xs : List Value} (hA : Ap sz k cap cur xs) {g2 m c : Nat} {T2 : TypeId} {c2 : Array Value} {news : List Value} (hx : ev l x = some (.slice (some ⟨g, 0, none⟩) k cap)) (hy : ev l y = some (.slice (some ⟨g2, 0, none⟩) m c)) (hm : (g2, T2, c2) ∈ pre ++ (g, e, cur) :: post) (hl : news.length = m * sz) (hn : c2.toList.take (m * sz) = news) (h1 : ∀ u ∈ news, u.oneCell' = true)
    (h63 : k + m ≤ maxLen) (hbytes : (k + m) * bytes ≤ 140737488355328) (hg : o.guard = none) (hd : o.dst = some d) (hdn : Nat.blt d n = true)
    (h : ∀ w g' cap' cur', Kn O w0 w (pre ++ (g, e, cur) :: post) → Ap sz (k + m) cap' cur' (xs ++ news) → S P ops Q n ((pre ++ (g, e, cur) :: post).map (·.1)) w rest ((d, .slice (some ⟨g', 0, none⟩) (k + m) cap') :: l) (pre ++ (g', e, cur') :: post)) : S P ops Q n O w0 (o :: rest) l (pre ++ (g, e, cur) :: post) := fun a w hF hL =>
  wpList_plain hg fun K hK => by
    obtain ⟨g', cap', cur', w', hr, hA', hL'⟩ := run_appX (P := P) (ty := o.type) (c := c) ht hi hzs hsz hA hL (hL.has _ hm) hl hn h1 h63 hbytes
    unfold Oper.wp execOp
    simp only [ho, resolve, invoke, builtin, Sem.run_bind, Sem.run_pure, Result.andThen_ok, List.map_toArray, List.map_cons, List.map_nil, hF.eval hx, hF.eval hy, hr]
    show K (a.put o.dst _) w'
    rw [hd]
    exact hK _ _ (h w g' cap' cur' hL hA' _ _ (hF.put hdn _) hL')
end Wk
theorem MapIs.congr {ob : Obj} {f g : Sp → Option Value} (h : MapIs ob f) (e : ∀ u, f u = g u) : MapIs ob g := (funext e : f = g) ▸ h
end Go.Proofs.Ytnafnhpajkhgkaa
