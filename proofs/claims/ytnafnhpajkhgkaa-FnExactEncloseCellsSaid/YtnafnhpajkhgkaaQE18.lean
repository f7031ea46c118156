import Derived.Test.YtnafnhpajkhgkaaQE10
import Derived.Test.YtnafnhpajkhgkaaQE11
import Derived.Test.YtnafnhpajkhgkaaQE14
import Derived.Test.YtnafnhpajkhgkaaQE15
import Derived.Test.YtnafnhpajkhgkaaQE16
import Derived.Test.YtnafnhpajkhgkaaQE17
/- The walk in a region that draws its order and holds callees that make slices. No condition. -/
namespace Go.Proofs.Ytnafnhpajkhgkaa.Wk
set_option linter.unusedVariables false
set_option linter.unusedSimpArgs false
open Go Go.RowKit Mem Calm
variable {P : Program} {n : Nat} {O : List Nat} {w0 : World} {l : List (Nat × Value)} {N L : List (Nat × TypeId × Array Value)} {Q : Exit → Act → World → Prop} {ops : Array Oper} {o : Oper} {rest : List Oper} {k d : Nat} {pl : Nat → CalmB.Plan} {v : Value}
theorem ment_arg {f : FuncId} {xs : Array Operand} {ts : Array TypeId} {a : Act} {g off m cap : Nat} {x : Operand} (hop : o.op = .call { callee := .value (.func f), args := xs, argTypes := ts }) (hF : Fr n l a) (hx : x ∈ xs.toList) (hv : ev l x = some (.slice (some ⟨g, off, none⟩) m cap)) : CalmB.Ment o a g :=
  ⟨x, by rw [hop]; simp [Op.operands, Call.operands]; exact .inr (by simpa using hx), off, m, cap, hF.eval hv⟩
theorem yu {a : Act} (hF : Fr n l a) {j t : Nat} (hj : (ops[j]?).bind (·.dst) = some t) (ht : lk l t = some undef) : yielded ops a.tmps j = none := by
  unfold yielded
  rw [hj, Option.bind_some, hF.get t _ ht]; rfl
theorem x_gdu {pl : Nat → Calm.Plan} {op : Op} {ty : TypeId} {ps : String} {af : Array Edge} {j : Nat} {b : Bool} {t : Nat} (hn : Nat.blt d n = true) (hj : (ops[j]?).bind (·.dst) = some t) (ht : lk l t = some undef) (hp : pl k = .inl undef) (h : X P ops Q n O w0 pl rest (k + 1) ((d, undef) :: l) N L) : X P ops Q n O w0 pl (⟨some d, op, ty, ps, af, some (j, b)⟩ :: rest) k l N L := fun a w E hF hL hE =>
  lex_skip (o := ⟨some d, op, ty, ps, af, some (j, b)⟩) (by simp [Region.wanted, yu hF hj ht]) (h _ w E (hF.put hn undef) hL hE)
end Go.Proofs.Ytnafnhpajkhgkaa.Wk
/- Tables of flags; a look at the program's table of steps; the cells of a table of flags. No condition. -/
namespace Go.Proofs.Ytnafnhpajkhgkaa
set_option linter.unusedVariables false
set_option linter.unusedSimpArgs false
open Go.RowKit Mem Wk
attribute [local irreducible] Calls Wk.S Wk.C Wk.E Wk.X Wk.T Wk.anV Wk.orV Wk.andV Wk.shlV Wk.shrV Calm.wpLex CalmB.wpLex
/-- A table of 100 flags. -/
structure GB (f : Nat → Bool) (cs : Array Value) : Prop where
  size : cs.size = 100
  get : ∀ j, j < 100 → cs[j]? = some (.bool (f j))
theorem GB.at_ {f : Nat → Bool} {cs : Array Value} (h : GB f cs) {x y : Nat} (hx : x < 10) (hy : y < 10) : cs[0 + y * 10 + x * 1]? = some (.bool (f (ci ⟨(x : Int), (y : Int)⟩))) := by
  have e : 0 + y * 10 + x * 1 = ci ⟨(x : Int), (y : Int)⟩ := by unfold ci; simp
  rw [e]; exact h.get _ (ci_lt ⟨by show (0 : Int) ≤ (x : Int); omega, by show (x : Int) < 10; omega, by show (0 : Int) ≤ (y : Int); omega, by show (y : Int) < 10; omega⟩)
theorem GB.one {f : Nat → Bool} {cs : Array Value} (h : GB f cs) : ∀ u ∈ cs.toList, u.oneCell' = true := by
  intro u hu
  obtain ⟨j, hj⟩ := List.mem_iff_getElem?.1 hu
  rw [Array.getElem?_toList] at hj
  have hlt := (Array.getElem?_eq_some_iff.1 hj).1
  rw [h.size] at hlt
  rw [h.get j hlt] at hj
  injection hj with hj; subst hj; rfl
theorem GB.uniq {f : Nat → Bool} {a b : Array Value} (h : GB f a) (h' : GB f b) : a = b := by
  apply Array.ext (by rw [h.size, h'.size])
  intro i h1 h2
  have e1 := h.get i (by rw [h.size] at h1; exact h1)
  have e2 := h'.get i (by rw [h'.size] at h2; exact h2)
  rw [Array.getElem?_eq_getElem h1] at e1
  rw [Array.getElem?_eq_getElem h2] at e2
  injection e1 with e1; injection e2 with e2; rw [e1, e2]
theorem GB.congr {f g : Nat → Bool} {cs : Array Value} (h : GB f cs) (he : ∀ j, j < 100 → f j = g j) : GB g cs := ⟨h.size, fun j hj => by rw [← he j hj]; exact h.get j hj⟩
theorem setB {f : Nat → Bool} {c cs : Array Value} (h : GB f cs) (hc : c.size = 100) : Wk.Set c 0 cs cs := set_whole (by rw [h.size, hc]) h.one
def gbA (f : Nat → Bool) : Array Value := ((List.range 100).map fun j => Value.bool (f j)).toArray
theorem gbA_ok (f : Nat → Bool) : GB f (gbA f) := ⟨by simp [gbA], fun j hj => by simp [gbA, hj]⟩
def zFl : Array Value := (List.replicate 100 (Value.bool false)).toArray
theorem zFl_ok : GB (fun _ => false) zFl := ⟨by kernel_rfl, fun j hj => by
  show (List.replicate 100 (Value.bool false)).toArray[j]? = _
  rw [List.getElem?_toArray, List.getElem?_replicate, if_pos hj]⟩
theorem zF1010 : (Try.prog.info? 90).map (·.zero) = some (some (.agg zFl)) := by kernel_rfl
theorem bF1010 (w : World) : (Instr.build 90 #[]).run Try.prog w = .ok (.agg zFl) w := by kernel_rfl
/-- the first n places of a table of flags -/
def upto (f : Nat → Bool) (n : Nat) : Nat → Bool := fun j => decide (j < n) && f j
theorem GB.put {f : Nat → Bool} {cs : Array Value} {x y : Nat} {b : Bool} (h : GB (upto f (y * 10 + x)) cs) (hx : x < 10) (hy : y < 10) (hb : b = f (ci ⟨(x : Int), (y : Int)⟩)) : GB (upto f (y * 10 + (x + 1))) (cs.setIfInBounds (0 + y * 10 + x * 1) (.bool b)) := by
  have e : 0 + y * 10 + x * 1 = y * 10 + x := by omega
  have e2 : ci ⟨(x : Int), (y : Int)⟩ = y * 10 + x := by unfold ci; simp
  rw [e]; rw [e2] at hb; subst hb
  refine ⟨by simp [h.size], fun j hj => ?_⟩
  by_cases ej : j = y * 10 + x
  · subst ej
    have hs := h.size
    simp [hs, hj, upto]
  · rw [Array.getElem?_setIfInBounds_ne (by omega), h.get j hj]
    show some (Value.bool (decide (j < y * 10 + x) && f j)) = some (Value.bool (decide (j < y * 10 + (x + 1)) && f j))
    rw [show decide (j < y * 10 + x) = decide (j < y * 10 + (x + 1)) from decide_eq_decide.2 (by omega)]
/-- Two results: a slice that the callee has made, and a code. -/
def NewS2 (T : TypeId) (sz : Nat) (xs : List Value) (c : Int) (w : World) (e : Ending) (w' : World) : Prop := ∃ g k cap cur, e = .returned (.tuple #[.slice (some ⟨g, 0, none⟩) k cap, .int .i64 c]) ∧ Ap sz k cap cur xs ∧ w.heap.size ≤ g ∧ w'.heap[g]? = some (.cells cur T (0, 0)) ∧ Below w.heap.size w w'
theorem NewS2.of {T : TypeId} {sz k cap g : Nat} {c : Int} {xs : List Value} {cur : Array Value} {w0 w : World} {L : List (Nat × TypeId × Array Value)} (hA : Ap sz k cap cur xs) (hL : Kn [] w0 w L) (hm : (g, T, cur) ∈ L) : NewS2 T sz xs c w0 (.returned (.tuple #[.slice (some ⟨g, 0, none⟩) k cap, .int .i64 c])) w :=
  ⟨g, k, cap, cur, rfl, hA, (hL.low _ hm).resolve_right (by simp), hL.has _ hm, hL.toBelow⟩
theorem s_callN2 {P : Program} {ops : Array Oper} {Q : Exit → Act → World → Prop} {n : Nat} {O : List Nat} {w0 : World} {o : Oper} {rest : List Oper} {l : List (Nat × Value)} {L : List (Nat × TypeId × Array Value)} {f : FuncId} {fn : Func} {xs : Array Operand} {ts : Array TypeId} {vs : List Value} {d : Nat} {T : TypeId} {sz : Nat} {cs : List Value} {c : Int} (hf : P.funcs[f]? = some fn) (hname : (fn.name == "runtime.NumGoroutine") = false) (hb : fn.body.isSome = true) (hg : o.guard = none) (hd : o.dst = some d) (hn : Nat.blt d n = true)
    (hop : o.op = .call { callee := .value (.func f), args := xs, argTypes := ts }) (hargs : evs l xs.toList = some vs) (hc : ∀ w, Kn O w0 w L → Calls P f vs.toArray w (NewS2 T sz cs c w)) (h : ∀ g k cap cur, Ap sz k cap cur cs → S P ops Q n O w0 rest ((d, .tuple #[.slice (some ⟨g, 0, none⟩) k cap, .int .i64 c]) :: l) ((g, T, cur) :: L)) : S P ops Q n O w0 (o :: rest) l L :=
  s_callR (ι := Nat × Nat × Nat × Array Value) (fun i => Ap sz i.2.1 i.2.2.1 i.2.2.2 cs) (fun i => .tuple #[.slice (some ⟨i.1, 0, none⟩) i.2.1 i.2.2.1, .int .i64 c]) (fun i => (i.1, T, i.2.2.2) :: L) hf hname hb hg hd hn hop hargs
    (fun w hL => (hc w hL).mono fun e w' ⟨g, k, cap, cur, he, hA, hge, hat, hb⟩ => ⟨(g, k, cap, cur), hA, he, Own.add hL hb hge hat⟩) (fun ⟨g, k, cap, cur⟩ hA => h g k cap cur hA)
end Go.Proofs.Ytnafnhpajkhgkaa
/- All sides of a pasture that a function accepts; the hurdles that stand: both programs'. No condition. -/
namespace Go.Proofs.Ytnafnhpajkhgkaa
set_option linter.unusedVariables false
set_option linter.unusedSimpArgs false
open Go.RowKit Mem Wk

theorem run_callb {P : Program} {o : Oper} {f : FuncId} {fn : Func} {xs : Array Operand} {ts : Array TypeId} {fx : Operand} {fs caps vs : List Value} {a : Act} (hf : P.funcs[f]? = some fn) (hname : (fn.name == "runtime.NumGoroutine") = false) (hb : fn.body.isSome = true) (hop : o.op = .call { callee := .value fx, args := xs, argTypes := ts })
    (hfx : a.eval fx = .func (.func f) fs.toArray caps.toArray) (hargs : xs.toList.map a.eval = vs) (w : World) : (execOp a.eval o).run P w = .ok (.enter f (fs ++ vs ++ caps).toArray) w := by
  have he := run_callFunc hf hname hb (fs ++ vs ++ caps).toArray w
  have hm : xs.map a.eval = vs.toArray := by rw [← hargs]; apply Array.ext'; simp
  unfold execOp
  rw [List.append_assoc] at he ⊢
  simp [hop, resolve, Deferred.ofValue, invoke, hfx, hm, he]
theorem s_callb {P : Program} {ops : Array Oper} {Q : Exit → Act → World → Prop} {n : Nat} {O : List Nat} {w0 : World} {o : Oper} {rest : List Oper} {l : List (Nat × Value)} {L : List (Nat × TypeId × Array Value)} {f : FuncId} {fn : Func} {xs : Array Operand} {ts : Array TypeId} {fx : Operand} {fs caps vs : List Value} {d : Nat} {v : Value} (hf : P.funcs[f]? = some fn) (hname : (fn.name == "runtime.NumGoroutine") = false) (hb : fn.body.isSome = true) (hg : o.guard = none) (hd : o.dst = some d) (hn : Nat.blt d n = true)
    (hop : o.op = .call { callee := .value fx, args := xs, argTypes := ts }) (hfx : ev l fx = some (.func (.func f) fs.toArray caps.toArray)) (hargs : evs l xs.toList = some vs)
    (hc : ∀ w, Kn O w0 w L → Calls P f (fs ++ vs ++ caps).toArray w fun e w' => e = .returned v ∧ Below w.heap.size w w') (h : S P ops Q n O w0 rest ((d, v) :: l) L) : S P ops Q n O w0 (o :: rest) l L := fun a w hF hL =>
  wpList_plain hg fun K hK => by
    unfold Oper.wp
    rw [run_callb hf hname hb hop (hF.eval hfx) (hF.evals hargs) w]
    refine (hc w hL).mono fun e w' ⟨he, hbl⟩ => ?_
    subst he
    rw [hd]
    exact hK _ _ (h _ _ (hF.put hn _) (Own.ext hL hbl))
attribute [local irreducible] Calls Wk.S Wk.C Wk.E Wk.X Wk.T Wk.anV Wk.orV Wk.andV Wk.shlV Wk.shrV Calm.wpLex
/-! lists of hurdles -/
def flH (l : List Hd) : List Value := (l.map Hd.cells).flatten
theorem flH_snoc (l : List Hd) (a : Hd) : flH (l ++ [a]) = flH l ++ a.cells := by simp [flH]
theorem iHurdle : (Try.prog.info? 66).map (fun i => (i.zero, i.size, i.bytes)) = some (some (.agg #[.int .i8 0, .int .i8 0, .bool false]), 3, 3) := by kernel_rfl
theorem uHurdleS : Try.prog.underlying 55 = some (.slice 66) := by kernel_rfl
theorem slHurdle0 (w : World) : (Instr.buildSlice 55 0 #[]).run Try.prog w = .ok (.slice (some ⟨w.heap.size, 0, none⟩) 0 0) (w.alloc (.cells #[] 66 (0, 0))) := by kernel_rfl
theorem slHurdle1 (a b c : Value) (w : World) : (Instr.buildSlice 55 1 #[(0, .agg #[a, b, c])]).run Try.prog w = .ok (.slice (some ⟨w.heap.size, 0, none⟩) 1 1) (w.alloc (.cells #[a, b, c] 66 (0, 0))) := by kernel_rfl
theorem bHurdleF (a b : Value) (w : World) : (Instr.build 66 #[(0, .agg #[a, b])]).run Try.prog w = .ok (.agg #[a, b, .bool false]) w := by kernel_rfl
theorem Wk.Ap.hd {n cap : Nat} {cur : Array Value} {l : List Hd} (h : Ap 3 n cap cur (flH l)) {i : Nat} {s : Hd} (hi : l[i]? = some s) : (0 + i * 3 + 3 ≤ cur.size ∧ cur.extract (0 + i * 3) (0 + i * 3 + 3) = #[.int .i8 s.x, .int .i8 s.y, .bool s.s]) ∧ 0 + i * 3 + 0 + 2 ≤ cur.size ∧ cur.extract (0 + i * 3 + 0) (0 + i * 3 + 0 + 2) = #[.int .i8 s.x, .int .i8 s.y] := by
  simp only [Nat.zero_add, Nat.add_zero]
  have hx : (l.map Hd.cells)[i]? = some s.cells := by simp [hi]
  have he := h.elem (lenHd l) hx
  have h0 : cur[i * 3 + 0]? = some (.int .i8 s.x) := he 0 (by omega)
  have h1 : cur[i * 3 + 1]? = some (.int .i8 s.y) := he 1 (by omega)
  have h2 : cur[i * 3 + 2]? = some (.bool s.s) := he 2 (by omega)
  obtain ⟨q0, e0⟩ := Array.getElem?_eq_some_iff.1 h0
  obtain ⟨q1, e1⟩ := Array.getElem?_eq_some_iff.1 h1
  obtain ⟨q2, e2⟩ := Array.getElem?_eq_some_iff.1 h2
  refine ⟨⟨by omega, ?_⟩, by omega, ?_⟩
  · apply Array.ext
    · simp; omega
    · intro j hj1 hj2
      simp only [List.size_toArray, List.length_cons, List.length_nil] at hj2
      rcases (by omega : j = 0 ∨ j = 1 ∨ j = 2) with rfl | rfl | rfl <;> simp_all [Array.getElem_extract]
  · apply Array.ext
    · simp; omega
    · intro j hj1 hj2
      simp only [List.size_toArray, List.length_cons, List.length_nil] at hj2
      rcases (by omega : j = 0 ∨ j = 1) with rfl | rfl <;> simp_all [Array.getElem_extract]
theorem Wk.Ap.slH {n cap : Nat} {cur : Array Value} {l : List Hd} (h : Ap 3 n cap cur (flH l)) {w : World} {g : Nat} {T : TypeId} (hg : w.heap[g]? = some (.cells cur T (0, 0))) : n = l.length ∧ SlA [] w 3 (some ⟨g, 0, none⟩) (l.map Hd.cells) :=
  ⟨by simpa using h.count (lenHd l) (by omega), h.slA (lenHd l) hg⟩
/-! sides, plainly -/
def sdB (f : Hd → Bool) (c : Sp) (j : Nat) : List Hd := ([⟨c.x, c.y, false⟩, ⟨c.x, c.y, true⟩].take j).filter f
def sdL (f : Hd → Bool) (W k : Nat) : List Hd := ((List.range k).map (cellN W)).flatMap fun c => sdB f c 2
theorem sdB_len (f : Hd → Bool) (c : Sp) (j : Nat) : (sdB f c j).length ≤ 2 := by
  unfold sdB
  refine Nat.le_trans (List.length_filter_le _ _) ?_
  simp [List.length_take]; omega
theorem sdL_snoc (f : Hd → Bool) (W k : Nat) : sdL f W (k + 1) = sdL f W k ++ sdB f (cellN W k) 2 := by
  unfold sdL; rw [List.range_succ, List.map_append, List.flatMap_append]; simp
theorem sdL_len (f : Hd → Bool) (W : Nat) : ∀ k, (sdL f W k).length ≤ 2 * k
  | 0 => by simp [sdL]
  | k + 1 => by
    rw [sdL_snoc, List.length_append]
    have := sdL_len f W k
    have := sdB_len f (cellN W k) 2
    omega
theorem sdL_mem {f : Hd → Bool} {W H : Nat} {h : Hd} (hm : h ∈ sdL f W (H * W)) : f h = true := by
  unfold sdL sdB at hm
  simp only [List.mem_flatMap, List.mem_filter] at hm
  obtain ⟨c, _, _, e⟩ := hm
  exact e
theorem sdB_0 (f : Hd → Bool) (c : Sp) : sdB f c 0 = [] := by simp [sdB]
theorem sdB_1y {f : Hd → Bool} {c : Sp} (h : f ⟨c.x, c.y, false⟩ = true) : sdB f c 1 = sdB f c 0 ++ [⟨c.x, c.y, false⟩] := by simp [sdB, h]
theorem sdB_1n {f : Hd → Bool} {c : Sp} (h : f ⟨c.x, c.y, false⟩ = false) : sdB f c 1 = sdB f c 0 := by simp [sdB, h]
theorem sdB_2y {f : Hd → Bool} {c : Sp} (h : f ⟨c.x, c.y, true⟩ = true) : sdB f c 2 = sdB f c 1 ++ [⟨c.x, c.y, true⟩] := by
  simp only [sdB, List.take]; rw [show [(⟨c.x, c.y, false⟩ : Hd), ⟨c.x, c.y, true⟩] = [⟨c.x, c.y, false⟩] ++ [⟨c.x, c.y, true⟩] from rfl, List.filter_append]; simp [h]
theorem sdB_2n {f : Hd → Bool} {c : Sp} (h : f ⟨c.x, c.y, true⟩ = false) : sdB f c 2 = sdB f c 1 := by
  simp only [sdB, List.take]; rw [show [(⟨c.x, c.y, false⟩ : Hd), ⟨c.x, c.y, true⟩] = [⟨c.x, c.y, false⟩] ++ [⟨c.x, c.y, true⟩] from rfl, List.filter_append]; simp [h]
end Go.Proofs.Ytnafnhpajkhgkaa
