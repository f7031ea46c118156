import Derived.Test.YtnafnhpajkhgkaaQY10
import Derived.Test.YtnafnhpajkhgkaaQY12
import Derived.Test.YtnafnhpajkhgkaaQY16
import Derived.Test.YtnafnhpajkhgkaaQY17
import Derived.Test.YtnafnhpajkhgkaaQY18
/- The table of steps tells how far cells are, in plain Lean. No condition. -/
namespace Go.Proofs.Ytnafnhpajkhgkaa
set_option linter.unusedVariables false
set_option linter.unusedSimpArgs false

/-- the queue is in the order of the table, and no place is more than a step behind m -/
structure BM (nb : Sp → List Sp) (a : List Sp) (q : Bq) (m : Int) : Prop where
  mono : ∀ (j k : Nat) c d, j ≤ k → q.2[j]? = some c → q.2[k]? = some d → q.1 (ci c) ≤ q.1 (ci d)
  bnd : ∀ c ∈ q.2, q.1 (ci c) ≤ m + 1
  pre : ∀ c ∈ q.2, (c ∈ a ∧ q.1 (ci c) = 1) ∨ ∃ s ∈ q.2, c ∈ nb s ∧ q.1 (ci c) = q.1 (ci s) + 1
theorem BM.rel {nb : Sp → List Sp} {a : List Sp} {q : Bq} {m : Int} (h : BM nb a q m) (hi : BI nb a q) {s c : Sp} (hs : s ∈ q.2) (hm : q.1 (ci s) = m) (hc : inR c) (hn : c ∈ nb s) : BM nb a (relC s q c) m ∧ (relC s q c).1 (ci s) = m := by
  unfold relC
  split
  case isFalse => exact ⟨h, hm⟩
  case isTrue hz =>
    have hold : ∀ d ∈ q.2, upd q.1 (ci c) (q.1 (ci s) + 1) (ci d) = q.1 (ci d) := fun d hd => upd_ne _ _ fun e => by
      have := ci_inj (hi.inr d hd) hc e
      subst this
      have := hi.pos d hd; omega
    have hnew : upd q.1 (ci c) (q.1 (ci s) + 1) (ci c) = m + 1 := by rw [upd_at, hm]
    refine ⟨⟨?_, ?_, ?_⟩, by show upd q.1 (ci c) (q.1 (ci s) + 1) (ci s) = m; rw [hold s hs, hm]⟩
    · intro j k x y hjk hx hy
      show upd q.1 (ci c) (q.1 (ci s) + 1) (ci x) ≤ upd q.1 (ci c) (q.1 (ci s) + 1) (ci y)
      have hx' : (q.2 ++ [c])[j]? = some x := hx
      have hy' : (q.2 ++ [c])[k]? = some y := hy
      by_cases hk : k < q.2.length
      · rw [List.getElem?_append_left hk] at hy'
        rw [List.getElem?_append_left (by omega)] at hx'
        rw [hold x (List.mem_of_getElem? hx'), hold y (List.mem_of_getElem? hy')]
        exact h.mono j k x y hjk hx' hy'
      · rw [List.getElem?_append_right (by omega)] at hy'
        have hyc : y = c := by
          cases hq : k - q.2.length with
          | zero => rw [hq] at hy'; simpa using hy'.symm
          | succ n => rw [hq] at hy'; simp at hy'
        subst hyc
        rw [hnew]
        rcases List.mem_append.1 (List.mem_of_getElem? hx') with h1 | h1
        · rw [hold x h1]; exact h.bnd x h1
        · rw [List.mem_singleton] at h1; subst h1; rw [hnew]; omega
    · intro d hd
      show upd q.1 (ci c) (q.1 (ci s) + 1) (ci d) ≤ m + 1
      rcases List.mem_append.1 hd with h1 | h1
      · rw [hold d h1]; exact h.bnd d h1
      · rw [List.mem_singleton] at h1; subst h1; rw [hnew]; omega
    · intro d hd
      show (d ∈ a ∧ upd q.1 (ci c) (q.1 (ci s) + 1) (ci d) = 1) ∨ ∃ t ∈ q.2 ++ [c], d ∈ nb t ∧ upd q.1 (ci c) (q.1 (ci s) + 1) (ci d) = upd q.1 (ci c) (q.1 (ci s) + 1) (ci t) + 1
      rcases List.mem_append.1 hd with h1 | h1
      · rw [hold d h1]
        rcases h.pre d h1 with h2 | ⟨t, ht, h2, h3⟩
        · exact .inl h2
        · exact .inr ⟨t, List.mem_append.2 (.inl ht), h2, by rw [hold t ht]; exact h3⟩
      · rw [List.mem_singleton] at h1; subst h1
        exact .inr ⟨s, List.mem_append.2 (.inl hs), hn, by rw [hnew, hold s hs, hm]⟩
theorem BM.fold {nb : Sp → List Sp} {a : List Sp} {s : Sp} {m : Int} : ∀ (l : List Sp) (q : Bq), BM nb a q m → BI nb a q → s ∈ q.2 → q.1 (ci s) = m → (∀ c ∈ l, inR c ∧ c ∈ nb s) → BM nb a (l.foldl (relC s) q) m ∧ (l.foldl (relC s) q).1 (ci s) = m ∧ ∀ c ∈ l, (l.foldl (relC s) q).1 (ci c) ≤ m + 1
  | [], q, h, _, _, hm, _ => ⟨h, hm, fun c hc => by cases hc⟩
  | c :: l, q, h, hi, hs, hm, hl => by
    rw [List.foldl_cons]
    have hc := hl c (by simp)
    have hr := h.rel hi hs hm hc.1 hc.2
    have ih := BM.fold l (relC s q c) hr.1 (hi.rel hs hc.1 hc.2) (relC_mem hs) hr.2 fun d hd => hl d (by simp [hd])
    refine ⟨ih.1, ih.2.1, fun d hd => ?_⟩
    rcases List.mem_cons.1 hd with e | e
    · subst e
      have hne : (relC s q d).1 (ci d) ≠ 0 := relC_set fun j => (hi.le j).1
      rw [fold_old l _ hne]
      exact hr.1.bnd d ((hi.rel hs hc.1 hc.2).zero d hc.1 hne)
    · exact ih.2.2 d e
theorem BM.weak {nb : Sp → List Sp} {a : List Sp} {q : Bq} {m m' : Int} (h : BM nb a q m) (hm : m ≤ m') : BM nb a q m' := ⟨h.mono, fun c hc => by have := h.bnd c hc; omega, h.pre⟩
/-- the state with the first i visited -/
theorem bfs_bm {nb : Sp → List Sp} {a : List Sp} {q0 : Bq} (h : BI nb a q0) (h0 : ∀ c ∈ q0.2, c ∈ a ∧ q0.1 (ci c) = 1) (hnb : NbOk nb) : ∀ i : Nat,
    (∃ m, BM nb a (bfsN nb q0 i) m ∧ ∀ s, (bfsN nb q0 i).2[i]? = some s → m ≤ (bfsN nb q0 i).1 (ci s)) ∧ ∀ (j : Nat) s c, j < i → (bfsN nb q0 i).2[j]? = some s → c ∈ nb s → (bfsN nb q0 i).1 (ci c) ≤ (bfsN nb q0 i).1 (ci s) + 1
  | 0 => by
    refine ⟨⟨0, ⟨fun j k c d _ hc hd => ?_, fun c hc => ?_, fun c hc => .inl (h0 c hc)⟩, fun s hs => ?_⟩, fun j s c hj => by omega⟩
    · show q0.1 (ci c) ≤ q0.1 (ci d)
      rw [(h0 c (List.mem_of_getElem? hc)).2, (h0 d (List.mem_of_getElem? hd)).2]; omega
    · show q0.1 (ci c) ≤ 0 + 1
      rw [(h0 c hc).2]; omega
    · show 0 ≤ q0.1 (ci s)
      rw [(h0 s (List.mem_of_getElem? hs)).2]; omega
  | i + 1 => by
    obtain ⟨⟨m, hM, hhead⟩, hcl⟩ := bfs_bm h h0 hnb i
    have hB := BI.bfs h hnb i
    cases hi : (bfsN nb q0 i).2[i]? with
    | none =>
      have hlen := List.getElem?_eq_none_iff.1 hi
      have e : bfsN nb q0 (i + 1) = bfsN nb q0 i := bfsN_end hlen 1
      rw [e]
      refine ⟨⟨m, hM, fun s hs => ?_⟩, fun j s c hj hs hc => ?_⟩
      · have := (List.getElem?_eq_some_iff.1 hs).1; omega
      · have := (List.getElem?_eq_some_iff.1 hs).1
        exact hcl j s c (by omega) hs hc
    | some s =>
      rw [bfsN_step hi]
      have hsm := List.mem_of_getElem? hi
      have hf := BM.fold (nb s) (bfsN nb q0 i) (hM.weak (hhead s hi)) hB hsm rfl fun c hc => ⟨hnb s c hc, hc⟩
      have hB' := BI.fold (nb s) _ hB hsm fun c hc => ⟨hnb s c hc, hc⟩
      unfold visit
      have hget : ∀ (j : Nat) t, (bfsN nb q0 i).2[j]? = some t → ((nb s).foldl (relC s) (bfsN nb q0 i)).2[j]? = some t := fun j t ht => fold_get (nb s) _ ht
      refine ⟨⟨_, hf.1, fun t ht => ?_⟩, fun j t c hj ht hc => ?_⟩
      · have h1 := hf.1.mono i (i + 1) s t (by omega) (hget i s hi) ht
        rw [hf.2.1] at h1; exact h1
      · by_cases e : j = i
        · subst e
          have h1 := hget j s hi
          rw [ht] at h1; injection h1 with h1; subst h1
          rw [hf.2.1]; exact hf.2.2 c hc
        · have hlt : j < (bfsN nb q0 i).2.length := by have := (List.getElem?_eq_some_iff.1 hi).1; omega
          have h2 : (bfsN nb q0 i).2[j]? = some (bfsN nb q0 i).2[j] := List.getElem?_eq_getElem hlt
          have h1 := hget j _ h2
          rw [ht] at h1; injection h1 with h1
          rw [← h1] at h2
          have h3 := bfs_done h hnb i j t c (by omega) h2 hc
          have h4 : (bfsN nb q0 i).1 (ci t) ≠ 0 := by have := hB.pos t (List.mem_of_getElem? h2); omega
          rw [fold_old _ _ h3, fold_old _ _ h4]
          exact hcl j t c (by omega) h2 hc
theorem tabN_one (nb : Sp → List Sp) {q0 : Bq} {j : Nat} (h : q0.1 j ≠ 0) : ∀ i, (bfsN nb q0 i).1 j = q0.1 j
  | 0 => rfl
  | i + 1 => by
    have ih := tabN_one nb h i
    rw [bfsN]
    split
    · exact ih
    · unfold visit; rw [fold_old _ _ (by rw [ih]; exact h), ih]
attribute [local irreducible] bfsN
section
variable {p : Nat → Int} {a : List Sp}
theorem steps_bm (ha : ∀ c ∈ a, inR c) : (∃ m, BM (nbP p) a (stepsP p a) m) ∧ ∀ s c, s ∈ (stepsP p a).2 → c ∈ nbP p s → (stepsP p a).1 (ci c) ≤ (stepsP p a).1 (ci s) + 1 := by
  have h := bfs_bm (nb := nbP p) (bi0 (nb := nbP p) ha) (fun c hc => ⟨hc, by show tab1 a (ci c) = 1; rw [tab1_at, if_pos (List.mem_map_of_mem hc)]⟩) (nbP_ok p) (a.length + 100)
  have hl := (stepsP_bi p ha).len
  refine ⟨⟨_, h.1.choose_spec.1⟩, fun s c hs hc => ?_⟩
  obtain ⟨j, hj⟩ := List.mem_iff_getElem?.1 hs
  have hlt := (List.getElem?_eq_some_iff.1 hj).1
  exact h.2 j s c (by omega) hj hc
theorem steps_closed (ha : ∀ c ∈ a, inR c) {s c : Sp} (hs : s ∈ (stepsP p a).2) (hc : c ∈ nbP p s) : c ∈ (stepsP p a).2 := bfs_closed (bi0 ha) (nbP_ok p) hs hc
theorem steps_mem (ha : ∀ c ∈ a, inR c) {c : Sp} (hc : inR c) : c ∈ (stepsP p a).2 ↔ (stepsP p a).1 (ci c) ≠ 0 :=
  ⟨fun h => by have := (stepsP_bi p ha).pos c h; omega, (stepsP_bi p ha).zero c hc⟩
theorem steps_one (ha : ∀ c ∈ a, inR c) {c : Sp} (hc : inR c) : (stepsP p a).1 (ci c) = 1 ↔ c ∈ a := by
  constructor
  · intro h
    have hm := (steps_mem ha hc).2 (by rw [h]; decide)
    obtain ⟨m, hM⟩ := (steps_bm (p := p) ha).1
    rcases hM.pre c hm with h1 | ⟨s, hs, _, h2⟩
    · exact h1.1
    · have := (stepsP_bi p ha).pos s hs; omega
  · intro h
    have h1 : tab1 a (ci c) = 1 := by rw [tab1_at, if_pos (List.mem_map_of_mem h)]
    have h2 := tabN_one (nbP p) (q0 := (tab1 a, a)) (j := ci c) (by show tab1 a (ci c) ≠ 0; rw [h1]; decide) (a.length + 100)
    exact h2.trans h1
/-- Who stands not at the beginning has one before. -/
theorem steps_pre (ha : ∀ c ∈ a, inR c) {c : Sp} (hc : inR c) (h : 1 < (stepsP p a).1 (ci c)) : ∃ s ∈ (stepsP p a).2, c ∈ nbP p s ∧ (stepsP p a).1 (ci c) = (stepsP p a).1 (ci s) + 1 := by
  have hm := (steps_mem (p := p) ha hc).2 (by omega)
  obtain ⟨m, hM⟩ := (steps_bm (p := p) ha).1
  rcases hM.pre c hm with h1 | h1
  · have := h1.2; omega
  · exact h1
end
end Go.Proofs.Ytnafnhpajkhgkaa
/- The cells reached from a stake and their grass: the reference's. No condition. -/
namespace Go.Proofs.Ytnafnhpajkhgkaa
set_option linter.unusedVariables false
set_option linter.unusedSimpArgs false
open Go.RowKit Mem Wk
attribute [local irreducible] Calls Wk.S Wk.C Wk.E Wk.X Wk.T Wk.Y Wk.andV Wk.shrV Calm.wpLex CalmB.wpLex bfsN
/-- a table of a test of cells -/
def tbl (F : Sp → Bool) (j : Nat) : Bool := F (cellN 10 j)
theorem cellN_ci {c : Sp} (h : inR c) : cellN 10 (ci c) = c := by
  obtain ⟨x, y⟩ := c
  unfold inR at h; simp only at h
  obtain ⟨a, rfl⟩ : ∃ a : Nat, x = (a : Int) := ⟨x.toNat, by omega⟩
  obtain ⟨b, rfl⟩ : ∃ b : Nat, y = (b : Int) := ⟨y.toNat, by omega⟩
  have e : ci ⟨(a : Int), (b : Int)⟩ = b * 10 + a := by unfold ci; simp
  rw [e]; exact cellN_at b (by omega)
/-- y rows and x more cells have been filled in -/
def done (F : Sp → Bool) (y x : Nat) (j : Nat) : Bool := (decide (j / 10 < y) || (decide (j / 10 = y) && decide (j % 10 < x))) && tbl F j
end Go.Proofs.Ytnafnhpajkhgkaa
/- Equality of cells in a walk. No condition. -/
namespace Go.Proofs.Ytnafnhpajkhgkaa
set_option linter.unusedVariables false
set_option linter.unusedSimpArgs false
open Go.RowKit Mem Wk
instance decSp : DecidableEq Sp := fun a b => if h : a.x = b.x ∧ a.y = b.y then isTrue (by obtain ⟨x, y⟩ := a; obtain ⟨u, v⟩ := b; simp only at h; rw [h.1, h.2]) else isFalse fun e => h ⟨by rw [e], by rw [e]⟩
attribute [local irreducible] Calls Wk.S Wk.C Wk.E Wk.X Wk.T Calm.wpLex
theorem r_eqSpC {n : Nat} {O : List Nat} {w0 : World} {l : List (Nat × Value)} {L : List (Nat × TypeId × Array Value)} {o : Oper} {x y : Operand} {t' : Nat} {a b c d : Int} {v : Bool} (ho : o.op = .binOp .eql 52 x y t') (hx : ev l x = some (.agg #[.int .i8 a, .int .i8 b])) (hy : ev l y = some (.agg #[.int .i8 c, .int .i8 d])) (hv : (decide (a = c) && decide (b = d)) = v) : Rn Try.prog n O w0 l L o (.bool v) := by
  subst hv; exact r_eqSpot ho hx hy
theorem r_neqSpC {n : Nat} {O : List Nat} {w0 : World} {l : List (Nat × Value)} {L : List (Nat × TypeId × Array Value)} {o : Oper} {x y : Operand} {t' : Nat} {a b c d : Int} {v : Bool} (ho : o.op = .binOp .neq 52 x y t') (hx : ev l x = some (.agg #[.int .i8 a, .int .i8 b])) (hy : ev l y = some (.agg #[.int .i8 c, .int .i8 d])) (hv : (!(decide (a = c) && decide (b = d))) = v) : Rn Try.prog n O w0 l L o (.bool v) := by
  subst hv; exact r_neqSpot ho hx hy
theorem sp_eqv (s r : Sp) : (decide (s.x = r.x) && decide (s.y = r.y)) = decide (s = r) := by
  obtain ⟨x, y⟩ := s; obtain ⟨u, v⟩ := r
  by_cases h : (⟨x, y⟩ : Sp) = ⟨u, v⟩
  · injection h with h1 h2; subst h1; subst h2; simp
  · rw [decide_eq_false h]
    by_cases h1 : x = u
    · by_cases h2 : y = v
      · subst h1; subst h2; exact absurd rfl h
      · simp [h2]
    · simp [h1]
end Go.Proofs.Ytnafnhpajkhgkaa
/- All sides of a pasture that a function accepts; the hurdles that stand: both programs'. No condition. -/
namespace Go.Proofs.Ytnafnhpajkhgkaa
set_option linter.unusedVariables false
set_option linter.unusedSimpArgs false
open Go.RowKit Mem Wk

theorem run_callb {P : Program} {o : Oper} {f : FuncId} {fn : Func} {xs : Array Operand} {ts : Array TypeId} {fx : Operand} {fs caps vs : List Value} {a : Act} (hf : P.funcs[f]? = some fn) (hname : (fn.name == "runtime.NumGoroutine") = false) (hb : fn.body.isSome = true) (hop : o.op = .call { callee := .value fx, args := xs, argTypes := ts })
    (hfx : a.eval fx = .func (.func f) fs.toArray caps.toArray) (hargs : xs.toList.map a.eval = vs) (w : World) : (execOp a.eval o).run P w = .ok (.enter f (fs ++ vs ++ caps).toArray) w := by
  have he := run_callFunc hf hname hb (fs ++ vs ++ caps).toArray w
  have hm : xs.map a.eval = vs.toArray := by rw [← hargs]; apply Array.ext'; simp
  unfold execOp
  rw [List.append_assoc] at he ⊢
  simp [hop, resolve, Deferred.ofValue, invoke, hfx, hm, he]
theorem s_callb {P : Program} {ops : Array Oper} {Q : Exit → Act → World → Prop} {n : Nat} {O : List Nat} {w0 : World} {o : Oper} {rest : List Oper} {l : List (Nat × Value)} {L : List (Nat × TypeId × Array Value)} {f : FuncId} {fn : Func} {xs : Array Operand} {ts : Array TypeId} {fx : Operand} {fs caps vs : List Value} {d : Nat} {v : Value} (hf : P.funcs[f]? = some fn) (hname : (fn.name == "runtime.NumGoroutine") = false) (hb : fn.body.isSome = true) (hg : o.guard = none) (hd : o.dst = some d) (hn : Nat.blt d n = true)
    (hop : o.op = .call { callee := .value fx, args := xs, argTypes := ts }) (hfx : ev l fx = some (.func (.func f) fs.toArray caps.toArray)) (hargs : evs l xs.toList = some vs)
    (hc : ∀ w, Kn O w0 w L → Calls P f (fs ++ vs ++ caps).toArray w fun e w' => e = .returned v ∧ Below w.heap.size w w') (h : S P ops Q n O w0 rest ((d, v) :: l) L) : S P ops Q n O w0 (o :: rest) l L := fun a w hF hL =>
  wpList_plain hg fun K hK => by
    unfold Oper.wp
    rw [run_callb hf hname hb hop (hF.eval hfx) (hF.evals hargs) w]
    refine (hc w hL).mono fun e w' ⟨he, hbl⟩ => ?_
    subst he
    rw [hd]
    exact hK _ _ (h _ _ (hF.put hn _) (Own.ext hL hbl))
attribute [local irreducible] Calls Wk.S Wk.C Wk.E Wk.X Wk.T Wk.andV Wk.shrV Calm.wpLex
/-! lists of hurdles -/
def flH (l : List Hd) : List Value := (l.map Hd.cells).flatten
theorem flH_snoc (l : List Hd) (a : Hd) : flH (l ++ [a]) = flH l ++ a.cells := by simp [flH]
theorem iHurdle : (Try.prog.info? 66).map (fun i => (i.zero, i.size, i.bytes)) = some (some (.agg #[.int .i8 0, .int .i8 0, .bool false]), 3, 3) := by kernel_rfl
theorem uHurdleS : Try.prog.underlying 55 = some (.slice 66) := by kernel_rfl
theorem slHurdle0 (w : World) : (Instr.buildSlice 55 0 #[]).run Try.prog w = .ok (.slice (some ⟨w.heap.size, 0, none⟩) 0 0) (w.alloc (.cells #[] 66 (0, 0))) := by kernel_rfl
theorem slHurdle1 (a b c : Value) (w : World) : (Instr.buildSlice 55 1 #[(0, .agg #[a, b, c])]).run Try.prog w = .ok (.slice (some ⟨w.heap.size, 0, none⟩) 1 1) (w.alloc (.cells #[a, b, c] 66 (0, 0))) := by kernel_rfl
theorem bHurdleF (a b : Value) (w : World) : (Instr.build 66 #[(0, .agg #[a, b])]).run Try.prog w = .ok (.agg #[a, b, .bool false]) w := by kernel_rfl
theorem Wk.Ap.hd {n cap : Nat} {cur : Array Value} {l : List Hd} (h : Ap 3 n cap cur (flH l)) {i : Nat} {s : Hd} (hi : l[i]? = some s) : (0 + i * 3 + 3 ≤ cur.size ∧ cur.extract (0 + i * 3) (0 + i * 3 + 3) = #[.int .i8 s.x, .int .i8 s.y, .bool s.s]) ∧ 0 + i * 3 + 0 + 2 ≤ cur.size ∧ cur.extract (0 + i * 3 + 0) (0 + i * 3 + 0 + 2) = #[.int .i8 s.x, .int .i8 s.y] := by
  simp only [Nat.zero_add, Nat.add_zero]
  have hx : (l.map Hd.cells)[i]? = some s.cells := by simp [hi]
  have he := h.elem (lenHd l) hx
  have h0 : cur[i * 3 + 0]? = some (.int .i8 s.x) := he 0 (by omega)
  have h1 : cur[i * 3 + 1]? = some (.int .i8 s.y) := he 1 (by omega)
  have h2 : cur[i * 3 + 2]? = some (.bool s.s) := he 2 (by omega)
  obtain ⟨q0, e0⟩ := Array.getElem?_eq_some_iff.1 h0
  obtain ⟨q1, e1⟩ := Array.getElem?_eq_some_iff.1 h1
  obtain ⟨q2, e2⟩ := Array.getElem?_eq_some_iff.1 h2
  refine ⟨⟨by omega, ?_⟩, by omega, ?_⟩
  · apply Array.ext
    · simp; omega
    · intro j hj1 hj2
      simp only [List.size_toArray, List.length_cons, List.length_nil] at hj2
      rcases (by omega : j = 0 ∨ j = 1 ∨ j = 2) with rfl | rfl | rfl <;> simp_all [Array.getElem_extract]
  · apply Array.ext
    · simp; omega
    · intro j hj1 hj2
      simp only [List.size_toArray, List.length_cons, List.length_nil] at hj2
      rcases (by omega : j = 0 ∨ j = 1) with rfl | rfl <;> simp_all [Array.getElem_extract]
theorem Wk.Ap.slH {n cap : Nat} {cur : Array Value} {l : List Hd} (h : Ap 3 n cap cur (flH l)) {w : World} {g : Nat} {T : TypeId} (hg : w.heap[g]? = some (.cells cur T (0, 0))) : n = l.length ∧ SlA [] w 3 (some ⟨g, 0, none⟩) (l.map Hd.cells) :=
  ⟨by simpa using h.count (lenHd l) (by omega), h.slA (lenHd l) hg⟩
/-! sides, plainly -/
def sdB (f : Hd → Bool) (c : Sp) (j : Nat) : List Hd := ([⟨c.x, c.y, false⟩, ⟨c.x, c.y, true⟩].take j).filter f
def sdL (f : Hd → Bool) (W k : Nat) : List Hd := ((List.range k).map (cellN W)).flatMap fun c => sdB f c 2
theorem sdB_len (f : Hd → Bool) (c : Sp) (j : Nat) : (sdB f c j).length ≤ 2 := by
  unfold sdB
  refine Nat.le_trans (List.length_filter_le _ _) ?_
  simp [List.length_take]; omega
theorem sdL_snoc (f : Hd → Bool) (W k : Nat) : sdL f W (k + 1) = sdL f W k ++ sdB f (cellN W k) 2 := by
  unfold sdL; rw [List.range_succ, List.map_append, List.flatMap_append]; simp
theorem sdL_len (f : Hd → Bool) (W : Nat) : ∀ k, (sdL f W k).length ≤ 2 * k
  | 0 => by simp [sdL]
  | k + 1 => by
    rw [sdL_snoc, List.length_append]
    have := sdL_len f W k
    have := sdB_len f (cellN W k) 2
    omega
theorem sdL_mem {f : Hd → Bool} {W H : Nat} {h : Hd} (hm : h ∈ sdL f W (H * W)) : f h = true := by
  unfold sdL sdB at hm
  simp only [List.mem_flatMap, List.mem_filter] at hm
  obtain ⟨c, _, _, e⟩ := hm
  exact e
theorem sdB_0 (f : Hd → Bool) (c : Sp) : sdB f c 0 = [] := by simp [sdB]
theorem sdB_1y {f : Hd → Bool} {c : Sp} (h : f ⟨c.x, c.y, false⟩ = true) : sdB f c 1 = sdB f c 0 ++ [⟨c.x, c.y, false⟩] := by simp [sdB, h]
theorem sdB_1n {f : Hd → Bool} {c : Sp} (h : f ⟨c.x, c.y, false⟩ = false) : sdB f c 1 = sdB f c 0 := by simp [sdB, h]
theorem sdB_2y {f : Hd → Bool} {c : Sp} (h : f ⟨c.x, c.y, true⟩ = true) : sdB f c 2 = sdB f c 1 ++ [⟨c.x, c.y, true⟩] := by
  simp only [sdB, List.take]; rw [show [(⟨c.x, c.y, false⟩ : Hd), ⟨c.x, c.y, true⟩] = [⟨c.x, c.y, false⟩] ++ [⟨c.x, c.y, true⟩] from rfl, List.filter_append]; simp [h]
theorem sdB_2n {f : Hd → Bool} {c : Sp} (h : f ⟨c.x, c.y, true⟩ = false) : sdB f c 2 = sdB f c 1 := by
  simp only [sdB, List.take]; rw [show [(⟨c.x, c.y, false⟩ : Hd), ⟨c.x, c.y, true⟩] = [⟨c.x, c.y, false⟩] ++ [⟨c.x, c.y, true⟩] from rfl, List.filter_append]; simp [h]
end Go.Proofs.Ytnafnhpajkhgkaa
