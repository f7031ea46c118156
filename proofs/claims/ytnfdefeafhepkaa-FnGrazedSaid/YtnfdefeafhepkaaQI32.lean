import Derived.Test.YtnfdefeafhepkaaQI31
set_option linter.unusedVariables false
set_option linter.unusedSimpArgs false
namespace Go.Proofs.Ytnfdefeafhepkaa
open Go.RowKit Mem Wk
attribute [local irreducible] Calls Wk.S Wk.C Wk.E Wk.X Wk.T Wk.Y Wk.anV Wk.orV Wk.andV Wk.shlV Wk.shrV Calm.wpLex CalmB.wpLex bfsN
def btB (p : Nat → Int) (g : Gt) (h : Int) : Bool := decide (0 < h) && (choV p g).2
def bitM (p : Nat → Int) (g : Gt) (h : Int) : Int := if btB p g h then min (min h 5) (p (gi (choV p g).1.x (choV p g).1.y)) else 0
def bitP (p : Nat → Int) (g : Gt) (h : Int) : Nat → Int := if btB p g h then upd p (gi (choV p g).1.x (choV p g).1.y) (p (gi (choV p g).1.x (choV p g).1.y) - bitM p g h) else p
def bitG (p : Nat → Int) (g : Gt) (h : Int) : Gt := if btB p g h then ⟨(choV p g).1.x, (choV p g).1.y, g.u, g.v, g.rope, g.eats, g.likes⟩ else g
theorem choAt_all {Q : Sp → Prop} (p : Nat → Int) (g : Gt) : ∀ (l : List Sp) (st : Sp × Bool), (st.2 = true → Q st.1) → (∀ c ∈ l, Q c) → (l.foldl (chStep p g) st).2 = true → Q (l.foldl (chStep p g) st).1
  | [], st, h, _, h2 => h h2
  | c :: l, st, h, hl, h2 => by
    rw [List.foldl_cons] at h2 ⊢
    refine choAt_all p g l _ (fun h3 => ?_) (fun d hd => hl d (List.mem_cons_of_mem _ hd)) h2
    unfold chStep at h3 ⊢
    split
    · rename_i hz; rw [if_pos hz] at h3; exact h h3
    · rename_i hz
      rw [if_neg hz] at h3
      split
      · exact hl c List.mem_cons_self
      · rename_i hq; rw [if_neg hq] at h3; exact h h3
structure GtOn (p : Nat → Int) (g : Gt) : Prop where
  ok : g.ok
  rope : -1 ≤ g.rope
  a : p 0 ≤ 10
  b : p 1 ≤ 10
  c : isC (p 0) (p 1) g.x g.y = true
theorem choV_isC {p : Nat → Int} {g : Gt} (hg : GtOn p g) (h : (choV p g).2 = true) : isC (p 0) (p 1) (choV p g).1.x (choV p g).1.y = true :=
  choAt_all (Q := fun c => isC (p 0) (p 1) c.x c.y = true) p g (gtlL p g) (⟨0, 0⟩, false) (fun h => by cases h) (gtlL_isC hg.a hg.b) h
theorem choV_inR {p : Nat → Int} {g : Gt} (hg : GtOn p g) : inR (choV p g).1 := choAt_inR p g _ _ ⟨by simp, by simp, by simp, by simp⟩ (gtlL_inR hg.a hg.b)
theorem bitP_low {p : Nat → Int} {g : Gt} {h : Int} {i : Nat} (hi : i < 2) : bitP p g h i = p i := by
  unfold bitP; split
  · exact upd_ne _ _ (by unfold gi; omega)
  · rfl
theorem bit_on {p : Nat → Int} {g : Gt} {h : Int} (hg : GtOn p g) : GtOn (bitP p g h) (bitG p g h) := by
  have h0 := bitP_low (p := p) (g := g) (h := h) (i := 0) (by omega)
  have h1 := bitP_low (p := p) (g := g) (h := h) (i := 1) (by omega)
  have hr := choV_inR hg
  have hr2 := inR_ok hr
  have hk := hg.ok
  refine ⟨?_, ?_, by rw [h0]; exact hg.a, by rw [h1]; exact hg.b, ?_⟩
  · unfold bitG; split
    · exact ⟨hr2, hk.2⟩
    · exact hk
  · unfold bitG; split <;> exact hg.rope
  · rw [h0, h1]; unfold bitG; split
    · rename_i hb
      unfold btB at hb
      simp only [Bool.and_eq_true] at hb
      exact choV_isC hg hb.2
    · exact hg.c
theorem GtOn.bit {p : Nat → Int} {g g' : Gt} {h : Int} (hg : GtOn p g') : GtOn (bitP p g h) g' := by
  have h0 := bitP_low (p := p) (g := g) (h := h) (i := 0) (by omega)
  have h1 := bitP_low (p := p) (g := g) (h := h) (i := 1) (by omega)
  exact ⟨hg.ok, hg.rope, by rw [h0]; exact hg.a, by rw [h1]; exact hg.b, by rw [h0, h1]; exact hg.c⟩
theorem bitM_le {p : Nat → Int} {g : Gt} {h : Int} (h0 : 0 ≤ h) : bitM p g h ≤ h := by
  unfold bitM; split
  · omega
  · exact h0
theorem bitM_ge {p : Nat → Int} {cs : Array Value} {g : Gt} {h : Int} (hp : Pv p cs) (hg : GtOn p g) (h0 : 0 ≤ h) : -32768 ≤ bitM p g h ∧ bitM p g h ≤ 5 := by
  have hr := choV_inR hg
  have hgc := gi_lt ⟨hr.1, hr.2.1⟩ hr.2.2
  have h16 := hp.i16 _ hgc.1 hgc.2
  unfold bitM; split <;> omega
theorem bit_rng {p : Nat → Int} {cs : Array Value} {g : Gt} {h : Int} (hp : Pv p cs) (hg : GtOn p g) (h0 : 0 < h) : -32768 ≤ p (gi (choV p g).1.x (choV p g).1.y) - min (min h 5) (p (gi (choV p g).1.x (choV p g).1.y)) ∧ p (gi (choV p g).1.x (choV p g).1.y) - min (min h 5) (p (gi (choV p g).1.x (choV p g).1.y)) ≤ 32767 := by
  have hr := choV_inR hg
  have hgc := gi_lt ⟨hr.1, hr.2.1⟩ hr.2.2
  have h16 := hp.i16 _ hgc.1 hgc.2
  omega
theorem bitP_ex {p : Nat → Int} {cs : Array Value} {g : Gt} {h : Int} (hp : Pv p cs) (hg : GtOn p g) : ∃ c', Pv (bitP p g h) c' := by
  have hr := choV_inR hg
  have hgc := gi_lt ⟨hr.1, hr.2.1⟩ hr.2.2
  unfold bitP; split
  · rename_i hb
    have h0 : 0 < h := by unfold btB at hb; simp only [Bool.and_eq_true, decide_eq_true_eq] at hb; exact hb.1
    refine ⟨_, hp.setGrass hgc.1 hgc.2 ?_⟩
    unfold bitM; rw [if_pos hb]
    exact bit_rng hp hg h0
  · exact ⟨cs, hp⟩
structure Upd2 (w w' : World) (g1 : Nat) (T1 : TypeId) (c1 : Array Value) (g2 : Nat) (T2 : TypeId) (c2 : Array Value) : Prop where
  os : w'.os = w.os
  tape : w'.tape = w.tape
  output : w'.output = w.output
  size : w.heap.size ≤ w'.heap.size
  keep : ∀ k, k < w.heap.size → k ≠ g1 → k ≠ g2 → w'.heap[k]? = w.heap[k]?
  has1 : w'.heap[g1]? = some (.cells c1 T1 (0, 0))
  has2 : w'.heap[g2]? = some (.cells c2 T2 (0, 0))
theorem Own.startAt2 (w : World) {b1 b2 : Nat} {T1 T2 : TypeId} {c1 c2 : Array Value} (hne : b1 ≠ b2) (h1 : w.heap[b1]? = some (.cells c1 T1 (0, 0))) (h2 : w.heap[b2]? = some (.cells c2 T2 (0, 0))) : Own w.heap.size [b1, b2] w w [(b1, T1, c1), (b2, T2, c2)] :=
  ⟨rfl, rfl, rfl, Nat.le_refl _, Nat.le_refl _, fun _ _ _ => rfl, by simp, by simp [h1, h2], by simp [hne]⟩
theorem Upd2.of {w0 w : World} {g1 g2 : Nat} {T1 T2 : TypeId} {c1 c2 : Array Value} {L : List (Nat × TypeId × Array Value)} (h : Kn [g1, g2] w0 w L) (hm1 : (g1, T1, c1) ∈ L) (hm2 : (g2, T2, c2) ∈ L) : Upd2 w0 w g1 T1 c1 g2 T2 c2 :=
  ⟨h.os, h.tape, h.output, h.size, fun k hk n1 n2 => h.keep k hk fun b hb e => by
    rcases h.low b hb with h1 | h1
    · omega
    · simp at h1; omega, h.has _ hm1, h.has _ hm2⟩
theorem Kn.lt {O : List Nat} {w0 w : World} {L : List (Nat × TypeId × Array Value)} (h : Kn O w0 w L) {x : Nat × TypeId × Array Value} (hx : x ∈ L) : x.1 < w.heap.size := (Array.getElem?_eq_some_iff.1 (h.has x hx)).1
theorem Upd2.split {w w' : World} {g1 g2 : Nat} {T1 T2 : TypeId} {c1 c2 d1 d2 : Array Value} (hne : g1 ≠ g2) (h1 : w.heap[g1]? = some (.cells d1 T1 (0, 0))) (h2 : w.heap[g2]? = some (.cells d2 T2 (0, 0))) (hu : Upd2 w w' g1 T1 c1 g2 T2 c2) : Upd w (w.setRow g1 c1) g1 T1 c1 ∧ Upd (w.setRow g1 c1) w' g2 T2 c2 := by
  refine ⟨⟨rfl, rfl, rfl, by simp, fun k hk hn => setRow_other w g1 k c1 hn, setRow_heap w g1 d1 c1 T1 (0, 0) h1⟩, ⟨hu.os, hu.tape, hu.output, by simpa using hu.size, fun k hk hn => ?_, hu.has2⟩⟩
  have hk' : k < w.heap.size := by simpa using hk
  by_cases e : k = g1
  · subst e; rw [hu.has1, setRow_heap w k d1 c1 T1 (0, 0) h1]
  · rw [hu.keep k hk' e hn, setRow_other w g1 k c1 e]
theorem Kn.upd2 {O : List Nat} {w0 w w' : World} {L : List (Nat × TypeId × Array Value)} {i j g1 g2 : Nat} {T1 T2 : TypeId} {c1 c2 d1 d2 : Array Value} (h : Kn O w0 w L) (hi : L[i]? = some (g1, T1, d1)) (hj : L[j]? = some (g2, T2, d2)) (hij : i ≠ j) (hu : Upd2 w w' g1 T1 c1 g2 T2 c2) : Kn O w0 w' ((L.set i (g1, T1, c1)).set j (g2, T2, c2)) := by
  have hil := (List.getElem?_eq_some_iff.1 hi).1
  have hjl := (List.getElem?_eq_some_iff.1 hj).1
  have hne : g1 ≠ g2 := fun e => by
    have hm0 : i < (L.map (·.1)).length := by simpa using hil
    have hm1 : j < (L.map (·.1)).length := by simpa using hjl
    have e1 := (List.getElem?_eq_some_iff.1 hi).2
    have e2 := (List.getElem?_eq_some_iff.1 hj).2
    exact hij ((List.getElem_inj (h₀ := hm0) (h₁ := hm1) h.nodup).1 (by simp [e1, e2, e]))
  obtain ⟨u1, u2⟩ := hu.split hne (h.has _ (List.mem_of_getElem? hi)) (h.has _ (List.mem_of_getElem? hj))
  exact Kn.upd (Kn.upd h hi u1) (by rw [List.getElem?_set_ne hij]; exact hj) u2
theorem Kn.ne2 {O : List Nat} {w0 w : World} {L : List (Nat × TypeId × Array Value)} (h : Kn O w0 w L) {i j : Nat} {x y : Nat × TypeId × Array Value} (hi : L[i]? = some x) (hj : L[j]? = some y) (hij : i ≠ j) : x.1 ≠ y.1 := fun e => by
  have hil := (List.getElem?_eq_some_iff.1 hi).1
  have hjl := (List.getElem?_eq_some_iff.1 hj).1
  have hm0 : i < (L.map (·.1)).length := by simpa using hil
  have hm1 : j < (L.map (·.1)).length := by simpa using hjl
  have e1 := (List.getElem?_eq_some_iff.1 hi).2
  have e2 := (List.getElem?_eq_some_iff.1 hj).2
  exact hij ((List.getElem_inj (h₀ := hm0) (h₁ := hm1) h.nodup).1 (by simp [e1, e2, e]))
theorem s_callU4_3 {P : Program} {ops : Array Oper} {Q : Exit → Act → World → Prop} {n : Nat} {O : List Nat} {w0 : World} {o : Oper} {rest : List Oper} {l : List (Nat × Value)} {L : List (Nat × TypeId × Array Value)} {b0 b1 b2 : Nat × TypeId × Array Value} {g1 g2 : Nat} {T1 T2 : TypeId} {c1 c2 : Array Value} {f : FuncId} {fn : Func} {xs : Array Operand} {ts : Array TypeId} {vs : List Value} {d : Nat} {v : Value} {Pf : Array Value → Array Value → Prop} (hf : P.funcs[f]? = some fn) (hname : (fn.name == "runtime.NumGoroutine") = false) (hb : fn.body.isSome = true) (hg : o.guard = none) (hd : o.dst = some d) (hn : Nat.blt d n = true) (hop : o.op = .call { callee := .value (.func f), args := xs, argTypes := ts }) (hargs : evs l xs.toList = some vs) (hc : ∀ w, Kn O w0 w (b0 :: b1 :: b2 :: (g2, T2, c2) :: (g1, T1, c1) :: L) → Calls P f vs.toArray w fun e w' => e = .returned v ∧ ∃ d1 d2, Pf d1 d2 ∧ Upd2 w w' g1 T1 d1 g2 T2 d2) (h : ∀ d1 d2, Pf d1 d2 → S P ops Q n O w0 rest ((d, v) :: l) (b0 :: b1 :: b2 :: (g2, T2, d2) :: (g1, T1, d1) :: L)) : S P ops Q n O w0 (o :: rest) l (b0 :: b1 :: b2 :: (g2, T2, c2) :: (g1, T1, c1) :: L) := s_callR (ι := Array Value × Array Value) (fun i => Pf i.1 i.2) (fun _ => v) (fun i => b0 :: b1 :: b2 :: (g2, T2, i.2) :: (g1, T1, i.1) :: L) hf hname hb hg hd hn hop hargs (fun w hL => (hc w hL).mono fun e w' ⟨he, d1, d2, hP, hu⟩ => ⟨(d1, d2), hP, he, Kn.upd2 (i := 4) (j := 3) hL rfl rfl (by omega) hu⟩) (fun i hi => h i.1 i.2 hi)
def gtA (g : Gt) : Array Value := #[.int .i8 g.x, .int .i8 g.y, .int .i8 g.u, .int .i8 g.v, .int .i16 g.rope, .int .i16 g.eats, .int .i8 g.likes]
theorem splice_same {cs vs : Array Value} {off : Nat} (hfit : off + vs.size ≤ cs.size) (h : ∀ j, j < vs.size → cs[off + j]? = vs[j]?) : splice cs off vs = cs := by
  apply Array.ext_getElem?
  intro j
  rw [splice_get _ _ _ hfit]
  split
  · rename_i hj
    rw [← h (j - off) (by omega), show off + (j - off) = j by omega]
  · rfl
def GtIn (l : List Gt) (o : Nat) (cur : Array Value) : Prop := ∀ i g, l[i]? = some g → ∀ j, j < 7 → cur[o + i * 7 + j]? = g.cells[j]?
theorem GtIn.fit {l : List Gt} {o : Nat} {cur : Array Value} (h : GtIn l o cur) {i : Nat} {g : Gt} (hg : l[i]? = some g) : o + i * 7 + 7 ≤ cur.size := by
  have h6 := h i g hg 6 (by omega)
  have : cur[o + i * 7 + 6]? = some (.int .i8 g.likes) := by rw [h6]; rfl
  have := (Array.getElem?_eq_some_iff.1 this).1
  omega
theorem GtIn.ext {l : List Gt} {o : Nat} {cur : Array Value} (h : GtIn l o cur) {i : Nat} {g : Gt} (hg : l[i]? = some g) : cur.extract (o + i * 7) (o + i * 7 + 7) = gtA g := by
  have hf := h.fit hg
  apply Array.ext_getElem?
  intro j
  rw [Array.getElem?_extract]
  split
  · rename_i hj
    have hj7 : j < 7 := by omega
    rw [h i g hg j hj7]
    match j, hj7 with
    | 0, _ => rfl
    | 1, _ => rfl
    | 2, _ => rfl
    | 3, _ => rfl
    | 4, _ => rfl
    | 5, _ => rfl
    | 6, _ => rfl
  · rename_i hj
    rw [Array.getElem?_eq_none]
    unfold gtA; simp; omega
theorem GtIn.set {l : List Gt} {o : Nat} {cur : Array Value} (h : GtIn l o cur) {i : Nat} {g g' : Gt} (hg : l[i]? = some g) (hu : g'.u = g.u) (hv : g'.v = g.v) (hr : g'.rope = g.rope) (he : g'.eats = g.eats) (hl : g'.likes = g.likes) : GtIn (l.set i g') o (splice cur (o + i * 7) #[.int .i8 g'.x, .int .i8 g'.y]) := fun k d hd j hj => by
  have hf := h.fit hg
  rw [splice_get _ _ _ (by simp; omega)]
  by_cases e : k = i
  · subst e
    have hlt := (List.getElem?_eq_some_iff.1 hg).1
    rw [List.getElem?_set_self hlt] at hd
    injection hd with hd; subst hd
    have hj' := h k g hg j hj
    split
    · rename_i hjj
      have : j < 2 := by simp at hjj; omega
      match j, this with
      | 0, _ => simp [Gt.cells, Nat.add_sub_cancel_left]
      | 1, _ =>
        have e1 : o + k * 7 + 1 - (o + k * 7) = 1 := by omega
        rw [e1]; rfl
    · rename_i hjj
      have h2 : ¬ j < 2 := by simp at hjj; omega
      rw [hj']
      match j, hj, h2 with
      | 2, _, _ => simp [Gt.cells, hu]
      | 3, _, _ => simp [Gt.cells, hv]
      | 4, _, _ => simp [Gt.cells, hr]
      | 5, _, _ => simp [Gt.cells, he]
      | 6, _, _ => simp [Gt.cells, hl]
  · rw [List.getElem?_set_ne (fun e2 => e e2.symm)] at hd
    rw [if_neg]
    · exact h k d hd j hj
    · simp
      intro h1
      have : k < i ∨ i < k := by omega
      rcases this with h2 | h2
      · have := Nat.mul_le_mul_right 7 (show k + 1 ≤ i by omega); rw [Nat.succ_mul] at this; omega
      · have := Nat.mul_le_mul_right 7 (show i + 1 ≤ k by omega); rw [Nat.succ_mul] at this; omega
theorem bitG_tail (p : Nat → Int) (g : Gt) (h : Int) : (bitG p g h).u = g.u ∧ (bitG p g h).v = g.v ∧ (bitG p g h).rope = g.rope ∧ (bitG p g h).eats = g.eats ∧ (bitG p g h).likes = g.likes := by
  unfold bitG; split <;> exact ⟨rfl, rfl, rfl, rfl, rfl⟩
end Go.Proofs.Ytnfdefeafhepkaa
