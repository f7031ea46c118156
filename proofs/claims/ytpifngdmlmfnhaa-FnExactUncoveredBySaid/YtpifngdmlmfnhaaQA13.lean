import Derived.JoinedOf
import Derived.Test.YtpifngdmlmfnhaaRows
import Derived.Test.YtpifngdmlmfnhaaQA10
import Derived.Test.YtpifngdmlmfnhaaQA11
import Derived.Test.YtpifngdmlmfnhaaQA12
/- Cells beside a cell; slices that a callee has made. No condition. -/
namespace Go.Proofs.Ytpifngdmlmfnhaa
set_option linter.unusedVariables false
set_option linter.unusedSimpArgs false
open Go.RowKit Mem Wk
attribute [local irreducible] Calls Wk.S Wk.C Wk.E Wk.X Wk.T Wk.andV Wk.shrV Calm.wpLex
theorem iSpot : (Try.prog.info? 88).map (fun i => (i.zero, i.size, i.bytes)) = some (some (.agg #[.int .i8 0, .int .i8 0]), 2, 2) := by kernel_rfl
theorem uSpotS : Try.prog.underlying 40 = some (.slice 88) := by kernel_rfl
theorem slSpot0 (w : World) : (Instr.buildSlice 40 0 #[]).run Try.prog w = .ok (.slice (some ⟨w.heap.size, 0, none⟩) 0 0) (w.alloc (.cells #[] 88 (0, 0))) := by kernel_rfl
/-- the cells of spots, one after another -/
def flS (l : List Sp) : List Value := (l.map Sp.cells).flatten
theorem flS_len (l : List Sp) : (flS l).length = l.length * 2 := by
  induction l with
  | nil => rfl
  | cons a l ih => simp only [flS, List.map_cons, List.flatten_cons, List.length_append] at ih ⊢; rw [ih]; simp [Sp.cells]; omega
theorem flS_snoc (l : List Sp) (a : Sp) : flS (l ++ [a]) = flS l ++ a.cells := by simp [flS]
theorem flS_get : ∀ (l : List Sp) (i : Nat) (s : Sp), l[i]? = some s → ((flS l).drop (i * 2)).take 2 = s.cells
  | [], i, s, h => by simp at h
  | a :: l, 0, s, h => by simp at h; subst h; simp [flS, Sp.cells]
  | a :: l, i + 1, s, h => by
    have := flS_get l i s (by simpa using h)
    have e : flS (a :: l) = a.cells ++ flS l := by simp [flS]
    rw [e, show (i + 1) * 2 = a.cells.length + i * 2 by simp [Sp.cells]; omega, List.drop_length_add_append]
    exact this
/-- an element of a slice of the walk's own -/
theorem Wk.Ap.spot {n cap : Nat} {cur : Array Value} {l : List Sp} (h : Ap 2 n cap cur (flS l)) {i : Nat} {s : Sp} (hi : l[i]? = some s) : 0 + i * 2 + 2 ≤ cur.size ∧ cur.extract (0 + i * 2) (0 + i * 2 + 2) = #[.int .i8 s.x, .int .i8 s.y] := by
  have hlt : i < l.length := (List.getElem?_eq_some_iff.1 hi).1
  have hl := flS_len l
  have h1 := h.len
  have hn : l.length = n := by omega
  have hle := h.le
  have hs := h.size
  refine ⟨by omega, ?_⟩
  apply Array.ext'
  have hg := flS_get l i s hi
  rw [← h.take] at hg
  rw [List.drop_take, List.take_take] at hg
  simp only [Array.toList_extract, Nat.zero_add, List.extract_eq_take_drop]
  rw [show i * 2 + 2 - i * 2 = 2 by omega]
  rw [show min 2 (n * 2 - i * 2) = 2 by omega] at hg
  exact hg
theorem Wk.Ap.sl {n cap : Nat} {cur : Array Value} {l : List Sp} (h : Ap 2 n cap cur (flS l)) {w : World} {g : Nat} {T : TypeId} (hg : w.heap[g]? = some (.cells cur T (0, 0))) : n = l.length ∧ SlA [] w 2 (some ⟨g, 0, none⟩) (l.map Sp.cells) := by
  have hl := flS_len l
  have h1 := h.len
  refine ⟨by omega, fun i c hc => ?_⟩
  rw [List.getElem?_map] at hc
  obtain ⟨s, hs, rfl⟩ := Option.map_eq_some_iff.1 hc
  obtain ⟨_, he⟩ := h.spot hs
  refine ⟨rfl, g, 0, rfl, by simp, fun j u hu => ?_⟩
  rw [cell_of_row w g _ cur T (0, 0) hg]
  have hj : j < 2 := (List.getElem?_eq_some_iff.1 hu).1
  have e2 : (cur.extract (0 + i * 2) (0 + i * 2 + 2))[j]? = some u := by rw [he]; simpa [Sp.cells] using hu
  rw [Array.getElem?_extract] at e2
  split at e2
  · exact e2
  · cases e2
/-- What a callee answers that has made a slice. -/
def NewS (T : TypeId) (sz : Nat) (xs : List Value) (w : World) (e : Ending) (w' : World) : Prop := ∃ g k cap cur, e = .returned (.slice (some ⟨g, 0, none⟩) k cap) ∧ Ap sz k cap cur xs ∧ w.heap.size ≤ g ∧ w'.heap[g]? = some (.cells cur T (0, 0)) ∧ Below w.heap.size w w'
theorem NewS.of {T : TypeId} {sz k cap g : Nat} {xs : List Value} {cur : Array Value} {w0 w : World} {L : List (Nat × TypeId × Array Value)} (hA : Ap sz k cap cur xs) (hL : Kn [] w0 w L) (hm : (g, T, cur) ∈ L) : NewS T sz xs w0 (.returned (.slice (some ⟨g, 0, none⟩) k cap)) w :=
  ⟨g, k, cap, cur, rfl, hA, (hL.low _ hm).resolve_right (by simp), hL.has _ hm, hL.toBelow⟩
theorem s_callN {P : Program} {ops : Array Oper} {Q : Exit → Act → World → Prop} {n : Nat} {O : List Nat} {w0 : World} {o : Oper} {rest : List Oper} {l : List (Nat × Value)} {L : List (Nat × TypeId × Array Value)} {f : FuncId} {fn : Func} {xs : Array Operand} {ts : Array TypeId} {vs : List Value} {d : Nat} {T : TypeId} {sz : Nat} {cs : List Value} (hf : P.funcs[f]? = some fn) (hname : (fn.name == "runtime.NumGoroutine") = false) (hb : fn.body.isSome = true) (hg : o.guard = none) (hd : o.dst = some d) (hn : Nat.blt d n = true)
    (hop : o.op = .call { callee := .value (.func f), args := xs, argTypes := ts }) (hargs : evs l xs.toList = some vs) (hc : ∀ w, Kn O w0 w L → Calls P f vs.toArray w (NewS T sz cs w)) (h : ∀ g k cap cur, Ap sz k cap cur cs → S P ops Q n O w0 rest ((d, .slice (some ⟨g, 0, none⟩) k cap) :: l) ((g, T, cur) :: L)) : S P ops Q n O w0 (o :: rest) l L :=
  s_callR (ι := Nat × Nat × Nat × Array Value) (fun i => Ap sz i.2.1 i.2.2.1 i.2.2.2 cs) (fun i => .slice (some ⟨i.1, 0, none⟩) i.2.1 i.2.2.1) (fun i => (i.1, T, i.2.2.2) :: L) hf hname hb hg hd hn hop hargs
    (fun w hL => (hc w hL).mono fun e w' ⟨g, k, cap, cur, he, hA, hge, hat, hb⟩ => ⟨(g, k, cap, cur), hA, he, Own.add hL hb hge hat⟩) (fun ⟨g, k, cap, cur⟩ hA => h g k cap cur hA)
/-- the first k sides over which one can go -/
def besL (p : Nat → Int) (x y : Int) (k : Nat) : List Sp := ((List.range k).filter fun s : Nat => canB p x y (s : Int)).map fun s : Nat => ⟨nextX x (s : Int), nextY y (s : Int)⟩
theorem besL_yes {p : Nat → Int} {x y : Int} {k : Nat} (h : canB p x y (k : Int) = true) : besL p x y (k + 1) = besL p x y k ++ [⟨nextX x k, nextY y k⟩] := by
  unfold besL; rw [List.range_succ, List.filter_append]; simp [h]
theorem besL_no {p : Nat → Int} {x y : Int} {k : Nat} (h : canB p x y (k : Int) = false) : besL p x y (k + 1) = besL p x y k := by
  unfold besL; rw [List.range_succ, List.filter_append]; simp [h]
theorem besL_len (p : Nat → Int) (x y : Int) (k : Nat) : (besL p x y k).length ≤ k := by
  unfold besL; rw [List.length_map]; exact Nat.le_trans (List.length_filter_le _ _) (by simp)
end Go.Proofs.Ytpifngdmlmfnhaa
/- IndexFunc and ContainsFunc over structs, for any closure that only looks. No condition. -/
namespace Go.Proofs.Ytpifngdmlmfnhaa
set_option linter.unusedVariables false
set_option linter.unusedSimpArgs false
open Go.RowKit Mem Wk
attribute [local irreducible] Calls Wk.S Wk.C Wk.E Wk.X Wk.T Calm.wpLex
theorem Sl.open {w : World} {sz : Nat} {v : Value} {xs : List (List Value)} (h : Sl w sz v xs) : ∃ A cap, v = .slice A xs.length cap ∧ xs.length ≤ cap ∧ cap ≤ maxLen ∧ SlA [] w sz A xs := by
  obtain ⟨A, cap, hv, h1, h2, h3⟩ := h
  refine ⟨A, cap, hv, h1, h2, fun i c hc => ?_⟩
  obtain ⟨hl, b, off, hA, hcell⟩ := h3 i c hc
  exact ⟨hl, b, off, hA, by simp, hcell⟩
/-- where the first is; -1 -/
def ixF {α : Type} (f : α → Bool) : List α → Int
  | [] => -1
  | a :: l => if f a then 0 else (if ixF f l < 0 then -1 else ixF f l + 1)
theorem ixF_none {α : Type} {f : α → Bool} : ∀ {l : List α}, (∀ a ∈ l, f a = false) → ixF f l = -1
  | [], _ => rfl
  | a :: l, h => by simp [ixF, h a (by simp), ixF_none (l := l) (fun b hb => h b (by simp [hb]))]
theorem ixF_some {α : Type} {f : α → Bool} : ∀ {l : List α} {k : Nat} {a : α}, l[k]? = some a → f a = true → (∀ j b, j < k → l[j]? = some b → f b = false) → ixF f l = k
  | [], k, a, h, _, _ => by simp at h
  | b :: l, 0, a, h, hf, _ => by simp at h; subst h; simp [ixF, hf]
  | b :: l, k + 1, a, h, hf, hb => by
    have h0 := hb 0 b (by omega) (by simp)
    have h1 := ixF_some (l := l) (k := k) (a := a) (by simpa using h) hf (fun j c hj hc => hb (j + 1) c (by omega) (by simpa using hc))
    simp [ixF, h0, h1]; omega
/-- A closure that only looks. -/
def Looks (w : World) (cf : FuncId) (caps : List Value) (f : List Value → Bool) (xs : List (List Value)) : Prop :=
  ∀ c ∈ xs, ∀ w', Below w.heap.size w w' → Calls Try.prog cf ([Value.agg c.toArray] ++ caps).toArray w' fun e w'' => e = .returned (.bool (f c)) ∧ Below w'.heap.size w' w''
end Go.Proofs.Ytpifngdmlmfnhaa
/- Equality of spots; lists of spots that hold one. No condition. -/
namespace Go.Proofs.Ytpifngdmlmfnhaa
set_option linter.unusedVariables false
set_option linter.unusedSimpArgs false
open Go.RowKit Mem Wk
attribute [local irreducible] Calls Wk.S Wk.C Wk.E Wk.X Wk.T Calm.wpLex
theorem u_i8 : Try.prog.underlying 22 = some (.int .i8) := by kernel_rfl
theorem part_i8 (cs : Array Value) (off : Nat) (v : Value) (h : cs[off]? = some v) (w : World) : (part 22 cs off).run Try.prog w = .ok v w := by
  simp [part, isAgg, run_underlying u_i8, h]
theorem part_0 (u v : Value) (w : World) : (part 22 #[u, v] 0).run Try.prog w = .ok u w := part_i8 _ _ _ rfl w
theorem part_1 (u v : Value) (w : World) : (part 22 #[u, v] 1).run Try.prog w = .ok v w := part_i8 _ _ _ rfl w
theorem run_eqSpot (a b c d : Int) (w : World) : (Op.equal 88 (.agg #[.int .i8 a, .int .i8 b]) (.agg #[.int .i8 c, .int .i8 d])).run Try.prog w = .ok (decide (a = c) && decide (b = d)) w := by
  have e0 : ∀ x y : Int, (x == y) = decide (x = y) := fun x y => rfl
  unfold Op.equal Op.maxDepth
  rw [show (10000 : Nat) = 9998 + 1 + 1 by rfl]
  unfold Op.equalIn
  simp only [run_underlying Try.underlying88, Sem.run_bind, Result.andThen_ok]
  by_cases h1 : a = c <;> by_cases h2 : b = d <;> simp [part_0, part_1, run_equalIn_int w _ _ _ _ _ _ u_i8, h1, h2]
theorem gd_eqSpot (op : BinOp) (x y : Operand) (a b : Array Value) (w : World) : (eqGuard op 88 x y (.agg a) (.agg b)).run Try.prog w = .ok () w := by
  have h : (Program.eqGuardType Try.prog Try.prog.depth 88) = false := by kernel_rfl
  unfold eqGuard
  split <;> simp [h]
namespace Wk
variable {n : Nat} {O : List Nat} {w0 : World} {l : List (Nat × Value)} {L : List (Nat × TypeId × Array Value)} {o : Oper} {x y : Operand}
theorem r_eqSpot {t' : Nat} {a b c d : Int} (ho : o.op = .binOp .eql 88 x y t') (hx : ev l x = some (.agg #[.int .i8 a, .int .i8 b])) (hy : ev l y = some (.agg #[.int .i8 c, .int .i8 d])) : Rn Try.prog n O w0 l L o (.bool (decide (a = c) && decide (b = d))) := fun ac w hF hL => by
  simp [execOp, ho, hF.eval hx, hF.eval hy, gd_eqSpot, binOp, run_eqSpot]
end Wk
def spOf : List Value → Sp
  | [.int _ x, .int _ y] => ⟨x, y⟩
  | _ => ⟨0, 0⟩
def eqSp (a b : Sp) : Bool := decide (a.x = b.x) && decide (a.y = b.y)
end Go.Proofs.Ytpifngdmlmfnhaa
/- What law texts share. No condition. -/
namespace Go.Proofs.Ytpifngdmlmfnhaa
set_option linter.unusedVariables false
set_option linter.unusedSimpArgs false
open Go.RowKit Mem Wk
attribute [local irreducible] Calls Wk.S Wk.C Wk.E Wk.X Wk.T Calm.wpLex
theorem sz_le {f : FuncId} {args : Array Value} {w : World} {n : Nat} (h : Calls Try.prog f args w fun e w' => e = .returned (.int .i64 (if (n : Int) ≤ 1048576 then 1048576 - n else -1)) ∧ w = w') (hn : n ≤ 1048576) : Calls Try.prog f args w fun e w' => e = .returned (.int .i64 (1048576 - n)) ∧ Below w.heap.size w w' := by
  rw [if_pos (by omega)] at h; exact to_below h rfl
theorem sz_gt {f : FuncId} {args : Array Value} {w : World} {n : Nat} (h : Calls Try.prog f args w fun e w' => e = .returned (.int .i64 (if (n : Int) ≤ 1048576 then 1048576 - n else -1)) ∧ w = w') (hn : ¬ n ≤ 1048576) : Calls Try.prog f args w fun e w' => e = .returned (.int .i64 (-1)) ∧ Below w.heap.size w w' := by
  rw [if_neg (by omega)] at h; exact to_below h rfl
/-! Closed facts of the seat's program: what hangs on its head line, which is long where a seat has many rows, is taken from the line's signs, once. -/
theorem head_signs {P : Program} {l : List Char} (h : P.initOrder = String.ofList l) : P.initOrder.toList = l := by rw [h]; simp
theorem strip_cut (r : List (List Char)) : stripLifts liftWords ("cut".toList :: r) = ([], "cut".toList :: r) := by kernel_rfl
theorem mayEnter_cut {P : Program} {l : List Char} (h : P.initOrder = String.ofList l) (hw : (behindMainWord (wordsSigns l)).head? = some "cut".toList) (h1 : P.laysLater = false) (h2 : P.bearsReflect = false) (h3 : P.doorFits [] = true) : P.mayEnter = true := by
  unfold Program.mayEnter
  rw [head_signs h]
  cases e : behindMainWord (wordsSigns l) with
  | nil => rw [e] at hw; cases hw
  | cons c r =>
    rw [e] at hw
    injection hw with hw
    subst hw
    simp only
    rw [strip_cut, h1, h2, h3]
    kernel_rfl
theorem lifts_cut {P : Program} {l : List Char} (h : P.initOrder = String.ofList l) (hw : (behindMainWord (wordsSigns l)).head? = some "cut".toList) : P.liftsFinal = false := by
  unfold Program.liftsFinal Program.headLifts
  rw [head_signs h]
  cases e : behindMainWord (wordsSigns l) with
  | nil => rw [e] at hw; cases hw
  | cons c r =>
    rw [e] at hw
    injection hw with hw
    subst hw
    simp only
    rw [strip_cut]
    kernel_rfl
theorem make_cut {P : Program} {l : List Char} (h : P.initOrder = String.ofList l) (hw : (behindMainWord (wordsSigns l)).head? = some "cut".toList) : P.make = some .cut := by
  unfold Program.make
  rw [head_signs h]
  cases e : behindMainWord (wordsSigns l) with
  | nil => rw [e] at hw; cases hw
  | cons c r =>
    rw [e] at hw
    injection hw with hw
    subst hw
    kernel_rfl
set_option maxRecDepth 1000000 in
theorem prog_mayEnter : Try.prog.mayEnter = true := mayEnter_cut (l := _) rfl (by kernel_rfl) (by kernel_rfl) (by kernel_rfl) (by kernel_rfl)
set_option maxRecDepth 1000000 in
theorem prog_lifts : Try.prog.liftsFinal = false := lifts_cut (l := _) rfl (by kernel_rfl)
set_option maxRecDepth 1000000 in
theorem prog_make : Try.prog.make = some .cut := make_cut (l := _) rfl (by kernel_rfl)
end Go.Proofs.Ytpifngdmlmfnhaa
/- append of a foreign slice; slices of slices; clear. Plain theorems, no condition but that lengths are not beyond all bounds. -/
namespace Go.Proofs.Ytpifngdmlmfnhaa.Wk
set_option linter.unusedVariables false
set_option linter.unusedSimpArgs false
open Go Go.RowKit Mem
variable {P : Program} {n : Nat} {O : List Nat} {w0 : World} {l : List (Nat × Value)} {L pre post : List (Nat × TypeId × Array Value)} {Q : Exit → Act → World → Prop} {ops : Array Oper} {o : Oper} {rest : List Oper} {d : Nat} {x y z : Operand}
/-- What append gives; and what stands then. -/
theorem run_appA {t ty e : TypeId} {z : Value} {sz bytes : Nat} (ht : P.underlying t = some (.slice e)) (hi : (P.info? e).map (fun i => (i.zero, i.size, i.bytes)) = some (some z, sz, bytes)) (hzs : z.cells.size = sz) (hsz : 0 < sz)
    {w : World} {g k cap : Nat} {cur : Array Value} {xs : List Value} (hA : Ap sz k cap cur xs) (hL : Kn O w0 w (pre ++ (g, e, cur) :: post)) (hO : g ∉ O) {ad : Addr} {m c : Nat} {news : List Value} (hl : news.length = m * sz) (hnews : ∀ j u, news[j]? = some u → w.cell? (ad.add j) = some u) (h1 : ∀ u ∈ news, u.oneCell' = true)
    (h63 : k + m ≤ maxLen) (hbytes : (k + m) * bytes ≤ 140737488355328) :
    ∃ g' cap' cur' w', (Builtin.append_ #[t, t] ty #[.slice (some ⟨g, 0, none⟩) k cap, .slice (some ad) m c]).run P w = .ok (.slice (some ⟨g', 0, none⟩) (k + m) cap') w' ∧ Ap sz (k + m) cap' cur' (xs ++ news) ∧ Kn O w0 w' (pre ++ (g', e, cur') :: post) := by
  obtain ⟨i, q1, q2, q3, q4⟩ := info_parts hi
  subst q3; subst q4
  have hg := hL.has (g, e, cur) (by simp)
  have hlen : (xs ++ news).length = (k + m) * i.size := by rw [List.length_append, hA.len, hl, Nat.add_mul]
  by_cases hroom : k + m ≤ cap
  · have hfit : k * i.size + news.length ≤ cur.size := by rw [hl, hA.size, ← Nat.add_mul]; exact Nat.mul_le_mul_right _ hroom
    have hr := run_append_room (P := P) w t ty e i ht q1 g k cap cur hg ad m c news hl hnews h1 hroom hfit
    refine ⟨g, cap, (cur.toList.take (k * i.size) ++ news ++ cur.toList.drop (k * i.size + news.length)).toArray, _, hr, ⟨hlen, hroom, hA.max, ?_, ?_⟩, ?_⟩
    · have := hA.size
      simp only [List.size_toArray, List.length_append, List.length_take, List.length_drop, Array.length_toList]
      omega
    · rw [hA.take, ← hlen]
      exact List.take_left
    · have hp : Kn O w0 w ((g, e, cur) :: (pre ++ post)) := hL.perm List.perm_middle
      exact Kn.perm (L := (g, e, _) :: (pre ++ post)) (Own.put hp (i := 0) rfl _) List.perm_middle.symm
  · have holds : ∀ j u, xs[j]? = some u → w.cell? ((⟨g, 0, none⟩ : Addr).add j) = some u := fun j u hu => by
      rw [add_lit0, Nat.zero_add, cell_of_row w g j cur e (0, 0) hg]
      rw [← hA.take, List.getElem?_take] at hu
      split at hu
      · simpa using hu
      · cases hu
    have hsmall : k + m ≤ 9223372036854775807 := by simp only [maxLen] at h63; omega
    have hle := hA.le
    have hr := run_append_grow (P := P) w t ty e i z ht q1 q2 ⟨g, 0, none⟩ k cap xs hA.len holds ad m c news hl hnews (by omega) (by omega) (growslice_fits (by omega) hbytes)
    have hge := grownCap_ge w (k + m) cap e
    refine ⟨w.heap.size, grownCap w (k + m) cap e, xs.toArray ++ news.toArray ++ Builtin.zeroCells z.cells (grownCap w (k + m) cap e - (k + m)), _, hr, ⟨hlen, hge, grownCap_le_maxLen w (k + m) cap e h63, ?_, ?_⟩, ?_⟩
    · simp only [Array.size_append, List.size_toArray, size_zeroCells, hzs, hA.len, hl, ← Nat.add_mul]
      congr 1
      omega
    · simp only [Array.toList_append, List.append_assoc]
      rw [← List.append_assoc, ← hlen]
      exact List.take_left
    · exact Kn.swapIn (b := (w.heap.size, e, _)) (a := (g, e, cur)) (Own.new (Own.drew hL) e _) hO
theorem flat_get {sz : Nat} : ∀ (xs : List (List Value)), (∀ c ∈ xs, c.length = sz) → ∀ (j : Nat) (u : Value), xs.flatten[j]? = some u → ∃ i c k, xs[i]? = some c ∧ c[k]? = some u ∧ j = i * sz + k
  | [], _, j, u, h => by simp at h
  | c :: xs, hl, j, u, h => by
    rw [List.flatten_cons] at h
    have hc := hl c (by simp)
    by_cases hj : j < c.length
    · rw [List.getElem?_append_left hj] at h
      exact ⟨0, c, j, rfl, h, by omega⟩
    · rw [List.getElem?_append_right (by omega)] at h
      obtain ⟨i, d, k, h1, h2, h3⟩ := flat_get xs (fun d hd => hl d (by simp [hd])) _ u h
      exact ⟨i + 1, d, k, by simpa using h1, h2, by rw [Nat.succ_mul]; omega⟩
theorem flat_len {sz : Nat} : ∀ (xs : List (List Value)), (∀ c ∈ xs, c.length = sz) → xs.flatten.length = xs.length * sz
  | [], _ => by simp
  | c :: xs, hl => by
    rw [List.flatten_cons, List.length_append, flat_len xs (fun d hd => hl d (by simp [hd])), hl c (by simp), List.length_cons, Nat.succ_mul]; omega
theorem SlA.len {w : World} {sz : Nat} {A : Option Addr} {xs : List (List Value)} (h : SlA O w sz A xs) : ∀ c ∈ xs, c.length = sz := fun c hc => by
  obtain ⟨i, hi⟩ := List.mem_iff_getElem?.1 hc
  exact (h i c hi).1
theorem SlA.news {w : World} {sz b off : Nat} {xs : List (List Value)} (h : SlA O w sz (some ⟨b, off, none⟩) xs) : ∀ j u, xs.flatten[j]? = some u → w.cell? ((⟨b, off, none⟩ : Addr).add j) = some u := fun j u hu => by
  obtain ⟨i, c, k, h1, h2, h3⟩ := flat_get xs h.len j u hu
  obtain ⟨_, b', off', e, _, hc⟩ := h i c h1
  injection e with e; injection e with e1 e2; subst e1; subst e2
  have := hc k u h2
  rw [h3]
  have ea : (⟨b, off, none⟩ : Addr).add (i * sz + k) = ⟨b, off + i * sz + k, none⟩ := by unfold Addr.add; split <;> simp_all [Nat.add_assoc]
  rw [ea]; exact this
theorem SlA.mono {w w' : World} {sz : Nat} {A : Option Addr} {xs : List (List Value)} (h : SlA [] w sz A xs) (hL : Kn [] w w' L) : SlA [] w' sz A xs := fun i c hc => by
  obtain ⟨a, b, d, e, g, h'⟩ := h i c hc
  exact ⟨a, b, d, e, g, fun j u hu => Kn.oldc hL (h' j u hu) g⟩
/-- append(own, foreign...) -/
theorem s_appS {t e : TypeId} {zz : Value} {sz bytes : Nat} (ho : o.op = .call { callee := .builtin .append, args := #[x, y], argTypes := #[t, t] }) (ht : P.underlying t = some (.slice e)) (hi : (P.info? e).map (fun i => (i.zero, i.size, i.bytes)) = some (some zz, sz, bytes)) (hzs : zz.cells.size = sz) (hsz : 0 < sz)
    {g k cap : Nat} {cur : Array Value} {cs : List Value} (hA : Ap sz k cap cur cs) {b off m c : Nat} {xs : List (List Value)} (hS : SlA [] w0 sz (some ⟨b, off, none⟩) xs) (hm : m = xs.length) (hx : ev l x = some (.slice (some ⟨g, 0, none⟩) k cap)) (hy : ev l y = some (.slice (some ⟨b, off, none⟩) m c)) (h1 : ∀ u ∈ xs.flatten, u.oneCell' = true)
    (h63 : k + m ≤ maxLen) (hbytes : (k + m) * bytes ≤ 140737488355328) (hg : o.guard = none) (hd : o.dst = some d) (hdn : Nat.blt d n = true)
    (h : ∀ g' cap' cur', Ap sz (k + m) cap' cur' (cs ++ xs.flatten) → S P ops Q n [] w0 rest ((d, .slice (some ⟨g', 0, none⟩) (k + m) cap') :: l) (pre ++ (g', e, cur') :: post)) : S P ops Q n [] w0 (o :: rest) l (pre ++ (g, e, cur) :: post) := fun a w hF hL =>
  wpList_plain hg fun K hK => by
    have hl : xs.flatten.length = m * sz := by rw [flat_len xs hS.len, hm]
    obtain ⟨g', cap', cur', w', hr, hA', hL'⟩ := run_appA (P := P) (ty := o.type) (c := c) ht hi hzs hsz hA hL (by simp) hl (hS.mono hL).news h1 h63 hbytes
    unfold Oper.wp execOp
    simp only [ho, resolve, invoke, builtin, Sem.run_bind, Sem.run_pure, Result.andThen_ok, List.map_toArray, List.map_cons, List.map_nil, hF.eval hx, hF.eval hy, hr]
    show K (a.put o.dst _) w'
    rw [hd]
    exact hK _ _ (h g' cap' cur' hA' _ _ (hF.put hdn _) hL')
theorem sliced_0 (g off h m s : Nat) : sliced (some ⟨g, off, none⟩) 0 h m s = .slice (some ⟨g, off, none⟩) h m := by
  unfold sliced; split
  · simp
  · simp [add_lit0]
theorem sliced_l {g off l h m s : Nat} (hl : l < m) : sliced (some ⟨g, off, none⟩) l h m s = .slice (some ⟨g, off + l * s, none⟩) (h - l) (m - l) := by
  unfold sliced; rw [if_neg (by omega)]
  simp only [Option.map_some]
  congr 2
  unfold Addr.add; split <;> simp_all
/-- s[:h] -/
theorem r_slcH (tb : Tb P) {t el sz : Nat} {g off len cap h : Nat} {kd : IntKind} (ho : o.op = .slice t x none (some y) none) (hx : ev l x = some (.slice (some ⟨g, off, none⟩) len cap)) (hy : ev l y = some (.int kd (h : Int))) (ht : lkT tb.l t = some (el, sz)) (hle : h ≤ cap) : Rn P n O w0 l L o (.slice (some ⟨g, off, none⟩) h cap) := fun a w hF hL => by
  have hu := (tb.slice ht).1
  have he : P.underlying t = some (.slice (P.elem t)) := by rw [hu]; simp [Program.elem, hu]
  have hel : P.elem t = el := by simp [Program.elem, hu]
  have hs := run_size (tb.slice ht).2 w
  simp only [execOp, ho, Option.map_none, Option.map_some, hF.eval hx, hF.eval hy, Sem.run_bind, run_sliceAt_slice w t _ _ _ _ he, run_slice_h w t (some ⟨g, off, none⟩) len cap he kd (h : Int) (by omega) (by omega), hel, hs, Result.andThen_ok, Int.toNat_natCast, sliced_0, Sem.run_pure]
/-- s[l:] -/
theorem r_slcL (tb : Tb P) {t el sz : Nat} {g off len cap i : Nat} {kd : IntKind} (ho : o.op = .slice t x (some y) none none) (hx : ev l x = some (.slice (some ⟨g, off, none⟩) len cap)) (hy : ev l y = some (.int kd (i : Int))) (ht : lkT tb.l t = some (el, sz)) (hle : i ≤ len) (hlt : i < cap) : Rn P n O w0 l L o (.slice (some ⟨g, off + i * sz, none⟩) (len - i) (cap - i)) := fun a w hF hL => by
  have hu := (tb.slice ht).1
  have he : P.underlying t = some (.slice (P.elem t)) := by rw [hu]; simp [Program.elem, hu]
  have hel : P.elem t = el := by simp [Program.elem, hu]
  have hs := run_size (tb.slice ht).2 w
  simp only [execOp, ho, Option.map_none, Option.map_some, hF.eval hx, hF.eval hy, Sem.run_bind, run_sliceAt_slice w t _ _ _ _ he, run_slice_l w t (some ⟨g, off, none⟩) len cap he kd (i : Int) (by omega) (by omega), hel, hs, Result.andThen_ok, Int.toNat_natCast, sliced_l hlt, Sem.run_pure]
theorem run_clear {t el ty : TypeId} {zz : Value} {sz bytes : Nat} (ht : P.underlying t = some (.slice el)) (hi : (P.info? el).map (fun i => (i.zero, i.size, i.bytes)) = some (some zz, sz, bytes)) (hzs : zz.cells.size = sz) (hz1 : ∀ u ∈ zz.cells.toList, u.oneCell' = true)
    {w : World} {g off m c : Nat} {T : TypeId} {cs : Array Value} (hg : w.heap[g]? = some (.cells cs T (0, 0))) (hm : 0 < m) (hfit : off + m * sz ≤ cs.size) :
    (Builtin.clear_ #[t] ty #[.slice (some ⟨g, off, none⟩) m c]).run P w = .ok (.tuple #[]) (w.setRow g (splice cs off (Builtin.zeroCells zz.cells m))) := by
  obtain ⟨i, q1, q2, q3, q4⟩ := info_parts hi
  have hzv : (zeroValue el).run P w = .ok zz w := by simp [zeroValue, typeInfo, q1, q2]
  have hsz : (Builtin.zeroCells zz.cells m).toList.length = m * sz := by rw [Array.length_toList, size_zeroCells, hzs]
  have h1 : ∀ v ∈ (Builtin.zeroCells zz.cells m).toList, v.oneCell' = true := by
    intro v hv
    unfold Builtin.zeroCells at hv
    simp at hv
    obtain ⟨j, hj, rfl⟩ := hv
    have hs : 0 < zz.cells.size := by
      rcases Nat.eq_zero_or_pos zz.cells.size with e | e
      · rw [e] at hj; simp at hj
      · exact e
    have hlt := Nat.mod_lt j hs
    rw [getElem!_pos zz.cells _ hlt]
    exact hz1 _ (by simp)
  have hst := run_storeCells_at P g off T (Builtin.zeroCells zz.cells m).toList 0 cs w hg (by rw [hsz]; omega) h1
  unfold Builtin.clear_
  obtain ⟨m', rfl⟩ : ∃ m', m = m' + 1 := ⟨m - 1, by omega⟩
  simp only [List.getElem?_toArray, List.getElem?_cons_zero, Sem.run_bind, run_underlying ht, Result.andThen_ok, hzv, hst, Sem.run_pure, Nat.add_zero]
  simp [splice]
end Go.Proofs.Ytpifngdmlmfnhaa.Wk
