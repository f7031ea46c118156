import Derived.Test.YtpifngdmlmfnhaaQC13
import Derived.Test.YtpifngdmlmfnhaaQC14
import Derived.Test.YtpifngdmlmfnhaaQC15
import Derived.Test.YtpifngdmlmfnhaaQC29
/- slices.Concat of lists of cells; append of nothing. No condition but a length of at most 2^20. -/
namespace Go.Proofs.Ytpifngdmlmfnhaa.Wk
set_option linter.unusedVariables false
set_option linter.unusedSimpArgs false
open Go Go.RowKit Mem
theorem run_appE {P : Program} (w : World) (t ty e : TypeId) (i : TypeInfo) (ht : P.underlying t = some (.slice e)) (hi : P.info? e = some i) (B A : Option Addr) (k cap c : Nat) (hk : k ≤ cap) :
    (Builtin.append_ #[t, t] ty #[.slice B k cap, .slice A 0 c]).run P w = .ok (.slice B k cap) w := by
  have hf : (Builtin.firstCells i.size 0 (.slice A 0 c)).run P w = .ok #[] w := by
    cases A with
    | none => exact run_firstCells_none _ _ _ _ _
    | some b => exact run_firstCells_some w i.size 0 b 0 c [] (by simp) (by simp)
  have hst : ∀ a : Addr, (storeCells a []).run P w = .ok () w := fun a => by simp [storeCells]
  cases B <;> simp [Builtin.append_, run_underlying ht, sizeOf, typeInfo, hi, Builtin.lenOf, hk, hf, hst]
variable {P : Program} {n : Nat} {O : List Nat} {w0 : World} {l : List (Nat × Value)} {L : List (Nat × TypeId × Array Value)} {Q : Exit → Act → World → Prop} {ops : Array Oper} {o : Oper} {rest : List Oper} {d : Nat} {x y : Operand}
end Go.Proofs.Ytpifngdmlmfnhaa.Wk
namespace Go.Proofs.Ytpifngdmlmfnhaa
set_option linter.unusedVariables false
set_option linter.unusedSimpArgs false
open Go.RowKit Mem Wk
attribute [local irreducible] Calls Wk.S Wk.C Wk.E Wk.X Wk.T Wk.Y Wk.andV Wk.shrV Calm.wpLex CalmB.wpLex bfsN
/-- lists of cells whose slices lie in a block -/
structure SSs (w : World) (S : List (List Sp)) (V : List Value) (cur : Array Value) : Prop where
  len : V.length = S.length
  at_ : ∀ (j : Nat) v, V[j]? = some v → cur[0 + j * 1]? = some v
  sl : ∀ (j : Nat) s v, S[j]? = some s → V[j]? = some v → Sl w 2 v (s.map Sp.cells)
theorem SSs.get {w : World} {S : List (List Sp)} {V : List Value} {cur : Array Value} (h : SSs w S V cur) {j : Nat} {s : List Sp} (hs : S[j]? = some s) : ∃ A cap, cur[0 + j * 1]? = some (.slice A s.length cap) ∧ SlA [] w 2 A (s.map Sp.cells) := by
  have hj := (List.getElem?_eq_some_iff.1 hs).1
  have hv : V[j]? = some (V[j]'(by rw [h.len]; exact hj)) := List.getElem?_eq_getElem _
  obtain ⟨A, cap, e, _, _, hS⟩ := (h.sl j s _ hs hv).open
  rw [List.length_map] at e
  rw [e] at hv
  exact ⟨A, cap, h.at_ j _ hv, hS⟩
theorem SSs.below {w w' : World} {S : List (List Sp)} {V : List Value} {cur : Array Value} (h : SSs w S V cur) (hb : Below w.heap.size w w') : SSs w' S V cur := ⟨h.len, h.at_, fun j s v hs hv => (h.sl j s v hs hv).below hb⟩
end Go.Proofs.Ytpifngdmlmfnhaa
/- A drawn region that makes a slice and appends foreign slices to it. Plain theorems; no condition but a length of at most 2^20. -/
namespace Go.Proofs.Ytpifngdmlmfnhaa.Wk
set_option linter.unusedVariables false
set_option linter.unusedSimpArgs false
open Go Go.RowKit Mem Calm
variable {P : Program} {n : Nat} {O : List Nat} {w0 : World} {l : List (Nat × Value)} {N L : List (Nat × TypeId × Array Value)} {Q : Exit → Act → World → Prop} {ops : Array Oper} {o : Oper} {rest : List Oper} {kk d : Nat} {v : Value} {x y : Operand} {Nok : List (Nat × TypeId × Array Value) → Prop} {pl : Nat → CalmE.Plan (List (Nat × TypeId × Array Value))}
theorem c_drawZe {id : Nat} {r : List Oper} (bs : List Bool) (Nok : List (Nat × TypeId × Array Value) → Prop) (pl : List (CalmE.Plan (List (Nat × TypeId × Array Value)))) (hm : P.follows .mixedOrders = true) (hB : Region.lexB .any r.toArray = true) (hst : CalmE.effB .any r.toArray bs = true) (hag : CalmE.Agree pl bs) (hok : Nok [])
    (h : Z P r.toArray Q n O w0 Nok (fun i => pl.getD i (.inl undef)) r 0 l [] L) : C P Q n O w0 (.region id r.toArray true) l L := c_drawZ bs Nok [] L pl hm hB hst hag hok (List.Perm.refl _) h
theorem z_bsl {t : TypeId} {len : Nat} {T : TypeId} {cs : Array Value} {parts : Array (Nat × Operand)} {ps : List (Nat × Value)} (ho : o.op = .buildSlice t len parts) (hpp : evp l parts.toList = some ps) (hr : ∀ w, (Instr.buildSlice t len ps.toArray).run P w = .ok (.slice (some ⟨w.heap.size, 0, none⟩) len len) (w.alloc (.cells cs T (0, 0))))
    (hg : o.guard = none) (hd : o.dst = some d) (hn : Nat.blt d n = true) (hok : ∀ N, Nok N) (hp : pl kk = .inr (fun v N' => ∃ g : Nat, True ∧ v = .slice (some ⟨g, 0, none⟩) len len ∧ N' = [(g, T, cs)]))
    (h : ∀ g, Z P ops Q n O w0 Nok pl rest (kk + 1) ((d, .slice (some ⟨g, 0, none⟩) len len) :: l) [(g, T, cs)] L) : Z P ops Q n O w0 Nok pl (o :: rest) kk l [] L :=
  z_eff (fun _ : Nat => True) (fun g => .slice (some ⟨g, 0, none⟩) len len) (fun g => [(g, T, cs)]) hg (fun a w hF hw => by
    have e : parts.map (fun p => (p.1, a.eval p.2)) = ps.toArray := by rw [← hF.evp hpp]; apply Array.ext'; simp
    have e' : (parts.map fun x => match x with | (i, x) => (i, a.eval x)) = ps.toArray := e
    have hx : (execOp a.eval o).run P w = .ok (.value (.slice (some ⟨w.heap.size, 0, none⟩) len len)) (w.alloc (.cells cs T (0, 0))) := by simp [execOp, ho, e', hr]
    unfold CalmE.effAt
    rw [hx]
    exact ⟨w.heap.size, trivial, rfl, Own.new hw T cs⟩) ⟨0, trivial⟩ (fun _ _ => hok _) hp (fun g _ a hF => by rw [hd]; exact h g _ (hF.put hn _))
/-- append of a foreign slice to the one that is being made -/
theorem z_app1 {t e : TypeId} {zz : Value} {sz bytes : Nat} (ho : o.op = .call { callee := .builtin .append, args := #[x, y], argTypes := #[t, t] }) (ht : P.underlying t = some (.slice e)) (hi : (P.info? e).map (fun i => (i.zero, i.size, i.bytes)) = some (some zz, sz, bytes)) (hzs : zz.cells.size = sz) (hsz : 0 < sz)
    {g k cap : Nat} {cur : Array Value} {cs : List Value} (hA : Ap sz k cap cur cs) {A : Option Addr} {m c : Nat} {xs : List (List Value)} (hS : SlA [] w0 sz A xs) (hm : m = xs.length) (hx : ev l x = some (.slice (some ⟨g, 0, none⟩) k cap)) (hy : ev l y = some (.slice A m c)) (h1 : ∀ u ∈ xs.flatten, u.oneCell' = true)
    (h63 : k + m ≤ maxLen) (hbytes : (k + m) * bytes ≤ 140737488355328) (hg : o.guard = none) (hd : o.dst = some d) (hdn : Nat.blt d n = true) (hok : ∀ N, Nok N)
    (hp : pl kk = .inr (fun v N' => ∃ i : Nat × Nat × Array Value, Ap sz (k + m) i.2.1 i.2.2 (cs ++ xs.flatten) ∧ v = .slice (some ⟨i.1, 0, none⟩) (k + m) i.2.1 ∧ N' = [(i.1, e, i.2.2)]))
    (h : ∀ g' cap' cur', Ap sz (k + m) cap' cur' (cs ++ xs.flatten) → Z P ops Q n [] w0 Nok pl rest (kk + 1) ((d, .slice (some ⟨g', 0, none⟩) (k + m) cap') :: l) [(g', e, cur')] L) : Z P ops Q n [] w0 Nok pl (o :: rest) kk l [(g, e, cur)] L :=
  z_eff (fun i : Nat × Nat × Array Value => Ap sz (k + m) i.2.1 i.2.2 (cs ++ xs.flatten)) (fun i => .slice (some ⟨i.1, 0, none⟩) (k + m) i.2.1) (fun i => [(i.1, e, i.2.2)]) hg (fun a w hF hw => by
    have hl : xs.flatten.length = m * sz := by rw [flat_len xs hS.len, hm]
    unfold CalmE.effAt execOp
    by_cases hm0 : m = 0
    · obtain ⟨i, q1, q2, q3, q4⟩ := info_parts hi
      have hx0 : xs = [] := List.length_eq_zero_iff.1 (by omega)
      subst hm0; subst hx0
      have hr := run_appE (P := P) w t o.type e i ht q1 (some ⟨g, 0, none⟩) A k cap c hA.le
      simp only [ho, resolve, invoke, builtin, Sem.run_bind, Sem.run_pure, Result.andThen_ok, List.map_toArray, List.map_cons, List.map_nil, hF.eval hx, hF.eval hy, hr]
      exact ⟨(g, cap, cur), by simpa using hA, rfl, hw⟩
    · have hx0 : 0 < xs.length := by omega
      have hx1 : xs[0]? = some xs[0] := List.getElem?_eq_getElem hx0
      obtain ⟨_, b, off, rfl, _, _⟩ := hS 0 _ hx1
      obtain ⟨g', cap', cur', w', hr, hA', hL'⟩ := run_appA (P := P) (ty := o.type) (c := c) (pre := []) ht hi hzs hsz hA hw (by simp) hl (hS.mono hw).news h1 h63 hbytes
      simp only [ho, resolve, invoke, builtin, Sem.run_bind, Sem.run_pure, Result.andThen_ok, List.map_toArray, List.map_cons, List.map_nil, hF.eval hx, hF.eval hy, hr]
      exact ⟨(g', cap', cur'), hA', rfl, hL'⟩) ⟨(0, k + m, (cs ++ xs.flatten).toArray), by
        have hl : xs.flatten.length = m * sz := by rw [flat_len xs hS.len, hm]
        have h2 : (cs ++ xs.flatten).length = (k + m) * sz := by rw [List.length_append, hA.len, hl, Nat.add_mul]
        exact ⟨h2, Nat.le_refl _, h63, by simpa using h2, by rw [← h2]; exact List.take_length⟩⟩ (fun _ _ => hok _) hp (fun i hi a hF => by rw [hd]; exact h i.1 i.2.1 i.2.2 hi _ (hF.put hdn _))
/-- what was made is assigned -/
theorem z_asgE {e : TypeId} {sz g m cap : Nat} {cur : Array Value} {xs : List Value} (ho : o.op = .assign x) (hA : Ap sz m cap cur xs) (hx : ev l x = some (.slice (some ⟨g, 0, none⟩) m cap)) (hg : o.guard = none) (hd : o.dst = some d) (hdn : Nat.blt d n = true) (hok : ∀ N, Nok N)
    (hp : pl kk = .inr (fun v N' => ∃ i : Nat × Nat × Array Value, Ap sz m i.2.1 i.2.2 xs ∧ v = .slice (some ⟨i.1, 0, none⟩) m i.2.1 ∧ N' = [(i.1, e, i.2.2)]))
    (h : ∀ g' cap' cur', Ap sz m cap' cur' xs → Z P ops Q n O w0 Nok pl rest (kk + 1) ((d, .slice (some ⟨g', 0, none⟩) m cap') :: l) [(g', e, cur')] L) : Z P ops Q n O w0 Nok pl (o :: rest) kk l [(g, e, cur)] L :=
  z_eff (fun i : Nat × Nat × Array Value => Ap sz m i.2.1 i.2.2 xs) (fun i => .slice (some ⟨i.1, 0, none⟩) m i.2.1) (fun i => [(i.1, e, i.2.2)]) hg (fun a w hF hw => by
    have hr := r_assign (P := P) (O := O) (w0 := w0) (L := [(g, e, cur)] ++ L) ho hx a w hF hw
    unfold CalmE.effAt
    rw [hr]
    exact ⟨(g, cap, cur), hA, rfl, hw⟩) ⟨(g, cap, cur), hA⟩ (fun _ _ => hok _) hp (fun i hi a hF => by rw [hd]; exact h i.1 i.2.1 i.2.2 hi _ (hF.put hdn _))
theorem r_slcLx (tb : Tb P) {t el sz : Nat} {g off len cap i : Nat} {kd : IntKind} (ho : o.op = .slice t x (some y) none none) (hx : ev l x = some (.slice (some ⟨g, off, none⟩) len cap)) (hy : ev l y = some (.int kd (i : Int))) (ht : lkT tb.l t = some (el, sz)) (hle : i ≤ len) : Rn P n O w0 l L o (.slice (if cap = i then some ⟨g, off, none⟩ else some ⟨g, off + i * sz, none⟩) (len - i) (cap - i)) := fun a w hF hL => by
  have hu := (tb.slice ht).1
  have he : P.underlying t = some (.slice (P.elem t)) := by rw [hu]; simp [Program.elem, hu]
  have hel : P.elem t = el := by simp [Program.elem, hu]
  have hs := run_size (tb.slice ht).2 w
  simp only [execOp, ho, Option.map_none, Option.map_some, hF.eval hx, hF.eval hy, Sem.run_bind, run_sliceAt_slice w t _ _ _ _ he, run_slice_l w t (some ⟨g, off, none⟩) len cap he kd (i : Int) (by omega) (by omega), hel, hs, Result.andThen_ok, Int.toNat_natCast, Sem.run_pure]
  unfold sliced
  by_cases e : cap = i
  · simp [e]
  · simp only [if_neg e, Option.map_some]
    have ea : (⟨g, off, none⟩ : Addr).add (i * sz) = ⟨g, off + i * sz, none⟩ := by unfold Addr.add; split <;> simp_all
    rw [ea]
theorem SlA.take {O : List Nat} {w : World} {sz : Nat} {A : Option Addr} {xs : List (List Value)} (h : SlA O w sz A xs) (k : Nat) : SlA O w sz A (xs.take k) := fun i c hc => by
  rw [List.getElem?_take] at hc
  split at hc
  · exact h i c hc
  · cases hc
theorem SlA.drop {O : List Nat} {w : World} {sz b off : Nat} {xs : List (List Value)} (h : SlA O w sz (some ⟨b, off, none⟩) xs) (k : Nat) : SlA O w sz (some ⟨b, off + k * sz, none⟩) (xs.drop k) := fun i c hc => by
  rw [List.getElem?_drop] at hc
  obtain ⟨h1, b', off', e, h2, h3⟩ := h (k + i) c hc
  injection e with e; injection e with e1 e2; subst e1; subst e2
  refine ⟨h1, b, off + k * sz, rfl, h2, fun j u hu => ?_⟩
  rw [show off + k * sz + i * sz + j = off + (k + i) * sz + j by rw [Nat.add_mul]; omega]
  exact h3 j u hu
theorem SlA.nil {O : List Nat} {w : World} {sz : Nat} {A : Option Addr} : SlA O w sz A [] := fun i c hc => by simp at hc
end Go.Proofs.Ytpifngdmlmfnhaa.Wk
