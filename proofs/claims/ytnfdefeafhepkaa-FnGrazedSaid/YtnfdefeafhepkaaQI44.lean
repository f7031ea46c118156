import Derived.DeepKeys
import Derived.Test.YtnfdefeafhepkaaQI08
import Derived.Test.YtnfdefeafhepkaaQI10
import Derived.Test.YtnfdefeafhepkaaQI13
import Derived.Test.YtnfdefeafhepkaaQI19
import Derived.Test.YtnfdefeafhepkaaQI20
import Derived.Test.YtnfdefeafhepkaaQI30
import Derived.Test.YtnfdefeafhepkaaQI32
import Derived.Test.YtnfdefeafhepkaaQI38
set_option linter.unusedVariables false
set_option linter.unusedSimpArgs false
namespace Go.Proofs.Ytnfdefeafhepkaa
open Go.RowKit Mem Wk
attribute [local irreducible] Calls Wk.S Wk.C Wk.E Wk.X Wk.T Wk.Y Wk.anV Wk.orV Wk.andV Wk.shlV Wk.shrV Calm.wpLex CalmB.wpLex bfsN
theorem r_eqSpV {n : Nat} {O : List Nat} {w0 : World} {l : List (Nat × Value)} {L : List (Nat × TypeId × Array Value)} {o : Oper} {x y : Operand} {t' : Nat} {a b c d : Int} {v : Bool} (ho : o.op = .binOp .eql 66 x y t') (hx : ev l x = some (.agg #[.int .i8 a, .int .i8 b])) (hy : ev l y = some (.agg #[.int .i8 c, .int .i8 d])) (hv : (decide (a = c) && decide (b = d)) = v) : Rn Try.prog n O w0 l L o (.bool v) := by
  subst hv; exact r_eqSpot ho hx hy
end Go.Proofs.Ytnfdefeafhepkaa
namespace Go.Proofs.Ytnfdefeafhepkaa
open Go Go.RowKit Mem Wk

theorem pasKey : Try.prog.keyTypeAt 8 36 = true := by kernel_rfl
theorem gtKey : Try.prog.keyTypeAt 8 68 = true := by kernel_rfl
theorem mapM_ex {α β : Type} {f : α → Option β} : ∀ {l : List α}, (∀ a ∈ l, ∃ b, f a = some b) → ∃ bs, l.mapM f = some bs
  | [], _ => ⟨[], rfl⟩
  | a :: l, h => by
    obtain ⟨b, hb⟩ := h a (by simp)
    obtain ⟨bs, hbs⟩ := mapM_ex (l := l) fun x hx => h x (by simp [hx])
    exact ⟨b :: bs, by rw [List.mapM_cons, hb, hbs]; rfl⟩
theorem kl_int {P : Program} {d t : Nat} {q : IntKind} {n : Int} (hu : P.underlying t = some (.int q)) (hw : (Lit.int q n).wf = true) : ∃ la, P.keyLits (d + 1) t [.int q n] = some la := ⟨[.int q n], by unfold Program.keyLits; simp [hu, hw]⟩
theorem kl_arr {P : Program} {d t e n : Nat} {cs : List Value} (hu : P.underlying t = some (.array n e)) (hl : cs.length = P.cellsOf t) (h : ∀ i, i < n → ∃ la, P.keyLits d e ((cs.drop (i * P.cellsOf e)).take (P.cellsOf e)) = some la) : ∃ la, P.keyLits (d + 1) t cs = some la := by
  obtain ⟨bs, hbs⟩ := mapM_ex (f := fun i => P.keyLits d e ((cs.drop (i * P.cellsOf e)).take (P.cellsOf e))) (l := List.range n) fun i hi => h i (List.mem_range.1 hi)
  exact ⟨bs.flatten, by unfold Program.keyLits; simp only [hu]; rw [if_pos hl, hbs]; rfl⟩
theorem kl_str {P : Program} {d t : Nat} {fs : Array Field} {cs : List Value} (hu : P.underlying t = some (.struct fs)) (hl : cs.length = P.cellsOf t) (hn : fs.all (·.name != "_") = true) (h : ∀ f ∈ fs.toList, ∃ la, P.keyLits d f.type ((cs.drop f.offset).take (P.cellsOf f.type)) = some la) : ∃ la, P.keyLits (d + 1) t cs = some la := by
  obtain ⟨bs, hbs⟩ := mapM_ex (f := fun f : Field => P.keyLits d f.type ((cs.drop f.offset).take (P.cellsOf f.type))) (l := fs.toList) h
  exact ⟨bs.flatten, by unfold Program.keyLits; simp only [hu]; rw [if_pos ⟨hl, hn⟩, hbs]; rfl⟩
theorem drop1 {l : List Value} {i : Nat} {v : Value} (h : l[i]? = some v) : (l.drop i).take 1 = [v] := by
  obtain ⟨hlt, rfl⟩ := List.getElem?_eq_some_iff.1 h
  rw [List.drop_eq_getElem_cons hlt]; rfl
theorem cI8 : Try.prog.cellsOf 22 = 1 := by kernel_rfl
theorem cSp : Try.prog.cellsOf 66 = 2 := by kernel_rfl
theorem cI16 : Try.prog.cellsOf 23 = 1 := by kernel_rfl
theorem cU16 : Try.prog.cellsOf 26 = 1 := by kernel_rfl
theorem cR16 : Try.prog.cellsOf 24 = 10 := by kernel_rfl
theorem cG16 : Try.prog.cellsOf 25 = 100 := by kernel_rfl
theorem cE16 : Try.prog.cellsOf 27 = 10 := by kernel_rfl
theorem uI8' : Try.prog.underlying 22 = some (.int .i8) := by kernel_rfl
theorem uI16' : Try.prog.underlying 23 = some (.int .i16) := by kernel_rfl
theorem uU16' : Try.prog.underlying 26 = some (.int .u16) := by kernel_rfl
theorem uR16 : Try.prog.underlying 24 = some (.array 10 23) := by kernel_rfl
theorem uG16 : Try.prog.underlying 25 = some (.array 10 24) := by kernel_rfl
theorem uE16 : Try.prog.underlying 27 = some (.array 10 26) := by kernel_rfl
theorem wf8 {n : Int} (h : -128 ≤ n ∧ n ≤ 127) : (Lit.int .i8 n).wf = true := by
  have e1 : IntKind.i8.min = -128 := by decide
  have e2 : IntKind.i8.max = 127 := by decide
  simp only [Lit.wf, e1, e2, Bool.and_eq_true, decide_eq_true_eq]; exact h
theorem wf16 {n : Int} (h : -32768 ≤ n ∧ n ≤ 32767) : (Lit.int .i16 n).wf = true := by
  have e1 : IntKind.i16.min = -32768 := by decide
  have e2 : IntKind.i16.max = 32767 := by decide
  simp only [Lit.wf, e1, e2, Bool.and_eq_true, decide_eq_true_eq]; exact h
theorem wfu16 {n : Int} (h : 0 ≤ n ∧ n ≤ 65535) : (Lit.int .u16 n).wf = true := by
  have e1 : IntKind.u16.min = 0 := by decide
  have e2 : IntKind.u16.max = 65535 := by decide
  simp only [Lit.wf, e1, e2, Bool.and_eq_true, decide_eq_true_eq]; exact h
theorem pasLits {p : Nat → Int} {cs : Array Value} (hp : Pv p cs) : ∃ la, Try.prog.keyLits 8 36 cs.toList = some la := by
  have hget : ∀ i, i < 122 → cs.toList[i]? = some (.int (pk i) (p i)) := fun i h => by simpa using hp.get i h
  have hlen : cs.toList.length = 122 := by simpa using hp.size
  refine kl_str Try.underlying36 (by rw [hlen]; kernel_rfl) (by kernel_rfl) fun f hf => ?_
  have hrow : ∀ (b k : Nat), b + k * 10 + 10 ≤ 122 → 102 ≤ b → ∀ d, ∃ la, Try.prog.keyLits (d + 2) 27 ((cs.toList.drop (b + k * 10)).take 10) = some la := fun b k h1 h2 d => by
    refine kl_arr uE16 (by rw [cE16]; simp [hp.size]; omega) fun i hi => ?_
    rw [cU16, List.drop_take, List.drop_drop, List.take_take, Nat.mul_one]
    rw [show min 1 (10 - i) = 1 by omega, drop1 (hget _ (by omega))]
    have : pk (b + k * 10 + i) = .u16 := by unfold pk; rw [if_neg (by omega), if_neg (by omega)]
    rw [this]
    exact kl_int uU16' (wfu16 (hp.u16 _ (by omega) (by omega)))
  simp only [List.mem_cons, List.not_mem_nil, or_false] at hf
  rcases hf with rfl | rfl | rfl | rfl | rfl
  · show ∃ la, Try.prog.keyLits 7 22 ((cs.toList.drop 0).take (Try.prog.cellsOf 22)) = some la
    rw [cI8, drop1 (hget 0 (by omega))]
    exact kl_int uI8' (wf8 (hp.i8 0 (by omega)))
  · show ∃ la, Try.prog.keyLits 7 22 ((cs.toList.drop 1).take (Try.prog.cellsOf 22)) = some la
    rw [cI8, drop1 (hget 1 (by omega))]
    exact kl_int uI8' (wf8 (hp.i8 1 (by omega)))
  · show ∃ la, Try.prog.keyLits 7 25 ((cs.toList.drop 2).take (Try.prog.cellsOf 25)) = some la
    rw [cG16]
    refine kl_arr uG16 (by rw [cG16]; simp [hp.size]) fun k hk => ?_
    rw [cR16]
    refine kl_arr uR16 (by rw [cR16]; simp [hp.size]; omega) fun i hi => ?_
    rw [cI16, Nat.mul_one]
    have e : ((((cs.toList.drop 2).take 100).drop (k * 10)).take 10).drop i = ((cs.toList.drop (2 + k * 10 + i)).take (100 - k * 10 - i)).take (10 - i) := by
      rw [List.drop_take, List.drop_take, List.drop_take, List.drop_drop, List.drop_drop, Nat.add_assoc]
    rw [e, List.take_take, List.take_take, show min (min 1 (10 - i)) (100 - k * 10 - i) = 1 by omega, drop1 (hget _ (by omega))]
    have : pk (2 + k * 10 + i) = .i16 := by unfold pk; rw [if_neg (by omega), if_pos (by omega)]
    rw [this]
    exact kl_int uI16' (wf16 (hp.i16 _ (by omega) (by omega)))
  · show ∃ la, Try.prog.keyLits 7 27 ((cs.toList.drop 102).take (Try.prog.cellsOf 27)) = some la
    rw [cE16]; exact hrow 102 0 (by omega) (by omega) 5
  · show ∃ la, Try.prog.keyLits 7 27 ((cs.toList.drop 112).take (Try.prog.cellsOf 27)) = some la
    rw [cE16]; exact hrow 112 0 (by omega) (by omega) 5
set_option maxRecDepth 100000 in
theorem gtLits {g : Gt} (hg : g.ok) : ∃ la, Try.prog.keyLits 8 68 (gtA g).toList = some la := by
  obtain ⟨⟨a1, a2, a3, a4⟩, ⟨a5, a6, a7, a8⟩, ⟨a9, b1⟩, ⟨b2, b3⟩, b4, b5⟩ := hg
  refine kl_str Try.underlying68 (by kernel_rfl) (by kernel_rfl) fun f hf => ?_
  have hsp : ∀ (a b : Int) (d : Nat), -128 ≤ a ∧ a ≤ 127 → -128 ≤ b ∧ b ≤ 127 → ∃ la, Try.prog.keyLits (d + 2) 66 [.int .i8 a, .int .i8 b] = some la := fun a b d ha hb => by
    refine kl_str Try.underlying66 (by kernel_rfl) (by kernel_rfl) fun f hf => ?_
    simp only [List.mem_cons, List.not_mem_nil, or_false] at hf
    rcases hf with rfl | rfl
    · show ∃ la, Try.prog.keyLits (d + 1) 22 ((([.int .i8 a, .int .i8 b] : List Value).drop 0).take (Try.prog.cellsOf 22)) = some la
      rw [cI8]; exact kl_int (n := a) uI8' (wf8 ha)
    · show ∃ la, Try.prog.keyLits (d + 1) 22 ((([.int .i8 a, .int .i8 b] : List Value).drop 1).take (Try.prog.cellsOf 22)) = some la
      rw [cI8]; exact kl_int (n := b) uI8' (wf8 hb)
  simp only [List.mem_cons, List.not_mem_nil, or_false] at hf
  rcases hf with rfl | rfl | rfl | rfl | rfl
  · show ∃ la, Try.prog.keyLits 7 66 (((gtA g).toList.drop 0).take (Try.prog.cellsOf 66)) = some la
    rw [cSp]; exact hsp g.x g.y 5 ⟨a1, a2⟩ ⟨a3, a4⟩
  · show ∃ la, Try.prog.keyLits 7 66 (((gtA g).toList.drop 2).take (Try.prog.cellsOf 66)) = some la
    rw [cSp]; exact hsp g.u g.v 5 ⟨a5, a6⟩ ⟨a7, a8⟩
  · show ∃ la, Try.prog.keyLits 7 23 (((gtA g).toList.drop 4).take (Try.prog.cellsOf 23)) = some la
    rw [cI16]; exact kl_int (n := g.rope) uI16' (wf16 ⟨a9, b1⟩)
  · show ∃ la, Try.prog.keyLits 7 23 (((gtA g).toList.drop 5).take (Try.prog.cellsOf 23)) = some la
    rw [cI16]; exact kl_int (n := g.eats) uI16' (wf16 ⟨b2, b3⟩)
  · show ∃ la, Try.prog.keyLits 7 22 (((gtA g).toList.drop 6).take (Try.prog.cellsOf 22)) = some la
    rw [cI8]; exact kl_int (n := g.likes) uI8' (wf8 ⟨b4, b5⟩)
theorem pasForm (cs : Array Value) (h : cs.size = 122) : (Value.agg cs).formed Try.prog 36 = true := by
  have e : (Value.agg cs).formed Try.prog 36 = (cs.size == 122) := by kernel_rfl
  rw [e, h]; rfl
theorem gtForm (g : Gt) : (Value.agg (gtA g)).formed Try.prog 68 = true := by kernel_rfl
theorem eq_self {t : TypeId} {cs : Array Value} {la : List Lit} (hk : Try.prog.keyTypeAt 8 t = true) (hf : (Value.agg cs).formed Try.prog t = true) (hl : Try.prog.keyLits 8 t cs.toList = some la) (w : World) : (Op.equalIn 10000 t (.agg cs) (.agg cs)).run Try.prog w = .ok true w := by
  obtain ⟨r, hr, hiff⟩ := run_equalIn_deep 9992 8 t hk w 8 8 (.agg cs) (.agg cs) la la hf hf hl hl
  rw [hiff.2 rfl] at hr
  exact hr
theorem pas_self {p : Nat → Int} {cs : Array Value} (hp : Pv p cs) (w : World) : (Op.equalIn 10000 36 (.agg cs) (.agg cs)).run Try.prog w = .ok true w := by
  obtain ⟨la, hl⟩ := pasLits hp
  exact eq_self pasKey (pasForm cs hp.size) hl w
theorem gt_self {g : Gt} (hg : g.ok) (w : World) : (Op.equalIn 10000 68 (.agg (gtA g)) (.agg (gtA g))).run Try.prog w = .ok true w := by
  obtain ⟨la, hl⟩ := gtLits hg
  exact eq_self gtKey (gtForm g) hl w
theorem gd_agg {t : TypeId} (ht : Program.eqGuardType Try.prog Try.prog.depth t = false) (op : BinOp) (x y : Operand) (a b : Array Value) (w : World) : (eqGuard op t x y (.agg a) (.agg b)).run Try.prog w = .ok () w := by
  unfold eqGuard
  split <;> simp [ht]
theorem pasGd : Program.eqGuardType Try.prog Try.prog.depth 36 = false := by kernel_rfl
theorem gtGd : Program.eqGuardType Try.prog Try.prog.depth 68 = false := by kernel_rfl
theorem r_neqA {n : Nat} {O : List Nat} {w0 : World} {l : List (Nat × Value)} {L : List (Nat × TypeId × Array Value)} {o : Oper} {x y : Operand} {t t' : Nat} {cs : Array Value} (ho : o.op = .binOp .neq t x y t') (hx : ev l x = some (.agg cs)) (hy : ev l y = some (.agg cs)) (ht : Program.eqGuardType Try.prog Try.prog.depth t = false) (he : ∀ w, (Op.equalIn 10000 t (.agg cs) (.agg cs)).run Try.prog w = .ok true w) : Rn Try.prog n O w0 l L o (.bool false) := fun a w hF hL => by
  simp [execOp, ho, hF.eval hx, hF.eval hy, gd_agg ht, run_neq_struct, he, Result.andThen]
theorem r_eqlA {n : Nat} {O : List Nat} {w0 : World} {l : List (Nat × Value)} {L : List (Nat × TypeId × Array Value)} {o : Oper} {x y : Operand} {t t' : Nat} {cs : Array Value} (ho : o.op = .binOp .eql t x y t') (hx : ev l x = some (.agg cs)) (hy : ev l y = some (.agg cs)) (ht : Program.eqGuardType Try.prog Try.prog.depth t = false) (he : ∀ w, (Op.equalIn 10000 t (.agg cs) (.agg cs)).run Try.prog w = .ok true w) : Rn Try.prog n O w0 l L o (.bool true) := fun a w hF hL => by
  simp [execOp, ho, hF.eval hx, hF.eval hy, gd_agg ht, run_eql_struct, he, Result.andThen]
end Go.Proofs.Ytnfdefeafhepkaa
namespace Go.Proofs.Ytnfdefeafhepkaa
open Go.RowKit Mem Wk
attribute [local irreducible] Calls Wk.S Wk.C Wk.E Wk.X Wk.T Wk.Y Wk.anV Wk.orV Wk.andV Wk.shlV Wk.shrV Calm.wpLex CalmB.wpLex
def wkStep (p : Nat → Int) (q s : Sp) : Bool := eqSp s q || (besL p q.x q.y 4).any fun c => eqSp s c
end Go.Proofs.Ytnfdefeafhepkaa
namespace Go.Proofs.Ytnfdefeafhepkaa
open Go.RowKit Mem Wk
attribute [local irreducible] Calls Wk.S Wk.C Wk.E Wk.X Wk.T Wk.Y Wk.Z Wk.anV Wk.orV Wk.andV Wk.shlV Wk.shrV Calm.wpLex CalmB.wpLex CalmE.wpLex bfsN bfs
structure WkOk (p : Nat → Int) (a : Sp) (l : List Sp) : Prop where
  cell : ∀ c ∈ l, cel p c ∧ eqSp c a = false
  step : ∀ (i : Nat) (s t : Sp), l[i]? = some s → l[i + 1]? = some t → wkStep p s t = true
theorem WkOk.init {p : Nat → Int} {a : Sp} {l : List Sp} {t : Sp} (h : WkOk p a (l ++ [t])) : WkOk p a l := by
  refine ⟨fun c hc => h.cell c (List.mem_append_left _ hc), fun i u v hu hv => ?_⟩
  have h1 := (List.getElem?_eq_some_iff.1 hu).1
  have h2 := (List.getElem?_eq_some_iff.1 hv).1
  exact h.step i u v (by rw [List.getElem?_append_left h1]; exact hu) (by rw [List.getElem?_append_left h2]; exact hv)
theorem WkOk.one {p : Nat → Int} {a t : Sp} (hc : cel p t) (hn : eqSp t a = false) : WkOk p a ([] ++ [t]) := by
  refine ⟨fun c h => ?_, fun i u v hu hv => ?_⟩
  · simp at h; subst h; exact ⟨hc, hn⟩
  · have := (List.getElem?_eq_some_iff.1 hv).1
    simp at this
theorem spot_of_eq {a b : Sp} (h : eqSp a b = true) : a = b := by
  unfold eqSp at h
  simp at h
  obtain ⟨x, y⟩ := a
  obtain ⟨u, v⟩ := b
  simp only at h
  rw [h.1, h.2]
theorem r_neqSpV {n : Nat} {O : List Nat} {w0 : World} {l : List (Nat × Value)} {L : List (Nat × TypeId × Array Value)} {o : Oper} {x y : Operand} {t' : Nat} {a b c d : Int} {v : Bool} (ho : o.op = .binOp .neq 66 x y t') (hx : ev l x = some (.agg #[.int .i8 a, .int .i8 b])) (hy : ev l y = some (.agg #[.int .i8 c, .int .i8 d])) (hv : (decide (a = c) && decide (b = d)) = v) : Rn Try.prog n O w0 l L o (.bool (!v)) := by
  subst hv; exact r_neqSpot ho hx hy
end Go.Proofs.Ytnfdefeafhepkaa
