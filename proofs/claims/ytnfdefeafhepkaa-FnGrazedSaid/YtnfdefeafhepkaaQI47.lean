import Derived.Test.YtnfdefeafhepkaaQI04
import Derived.Test.YtnfdefeafhepkaaQI07
import Derived.Test.YtnfdefeafhepkaaQI10
import Derived.Test.YtnfdefeafhepkaaQI11
import Derived.Test.YtnfdefeafhepkaaQI12
import Derived.Test.YtnfdefeafhepkaaQI20
import Derived.Test.YtnfdefeafhepkaaQI41
set_option linter.unusedVariables false
set_option linter.unusedSimpArgs false
namespace Go.Proofs.Ytnfdefeafhepkaa
open Go.RowKit Mem Wk
attribute [local irreducible] Calls Wk.S Wk.C Wk.E Wk.X Wk.T Wk.Y Wk.Z Wk.anV Wk.orV Wk.andV Wk.shlV Wk.shrV Calm.wpLex CalmB.wpLex CalmE.wpLex bfsN
def InI (E : List Int) (cur : Array Value) : Prop := ∀ (i : Nat) (e : Int), E[i]? = some e → cur[0 + i * 1]? = some (.int .i64 e)
theorem InI.of_ap {E : List Int} {n cap : Nat} {cur : Array Value} (h : Ap 1 n cap cur (E.map (Value.int .i64))) : n = E.length ∧ InI E cur := by
  have h1 := h.len
  rw [List.length_map, Nat.mul_one] at h1
  refine ⟨h1.symm, fun i e he => ?_⟩
  have hlt := (List.getElem?_eq_some_iff.1 he).1
  have h2 : (cur.toList.take (n * 1))[i]? = some (.int .i64 e) := by rw [h.take]; simp [he]
  rw [List.getElem?_take, if_pos (by omega), Array.getElem?_toList] at h2
  rw [show 0 + i * 1 = i by omega]; exact h2
theorem Wk.s_newF {P : Program} {n : Nat} {O : List Nat} {w0 : World} {l : List (Nat × Value)} {L : List (Nat × TypeId × Array Value)} {Q : Exit → Act → World → Prop} {ops : Array Oper} {o : Oper} {rest : List Oper} {d : Nat} {f : FuncId} {fn : Func} {xs : Array Operand} {ts : Array TypeId} {vs : List Value} {c : Array Value} {xg xi : List Value} {code : Int} (hf : P.funcs[f]? = some fn) (hname : (fn.name == "runtime.NumGoroutine") = false) (hb : fn.body.isSome = true) (hg : o.guard = none) (hd : o.dst = some d) (hn : Nat.blt d n = true)
    (hop : o.op = .call { callee := .value (.func f), args := xs, argTypes := ts }) (hargs : evs l xs.toList = some vs)
    (hc : ∀ w, Kn O w0 w L → Calls P f vs.toArray w (NewF c xg xi code w)) (h : ∀ gl ge ng ni capg capi cu ci, Ap 7 ng capg cu xg → Ap 1 ni capi ci xi → S P ops Q n O w0 rest ((d, .tuple #[.agg c, .slice (some ⟨gl, 0, none⟩) ng capg, .slice (some ⟨ge, 0, none⟩) ni capi, .int .i64 code]) :: l) ((ge, 2, ci) :: (gl, 68, cu) :: L)) : S P ops Q n O w0 (o :: rest) l L :=
  s_callR (ι := Nat × Nat × Nat × Nat × Nat × Nat × Array Value × Array Value) (fun i => Ap 7 i.2.2.1 i.2.2.2.2.1 i.2.2.2.2.2.2.1 xg ∧ Ap 1 i.2.2.2.1 i.2.2.2.2.2.1 i.2.2.2.2.2.2.2 xi) (fun i => .tuple #[.agg c, .slice (some ⟨i.1, 0, none⟩) i.2.2.1 i.2.2.2.2.1, .slice (some ⟨i.2.1, 0, none⟩) i.2.2.2.1 i.2.2.2.2.2.1, .int .i64 code]) (fun i => (i.2.1, 2, i.2.2.2.2.2.2.2) :: (i.1, 68, i.2.2.2.2.2.2.1) :: L) hf hname hb hg hd hn hop hargs
    (fun w hL => (hc w hL).mono fun e w' ⟨gl, ng, capg, cu, ge, ni, capi, ci, he, hA, hB, hb, h1, h2, hne, hx, hy⟩ => ⟨(gl, ge, ng, ni, capg, capi, cu, ci), ⟨hA, hB⟩, he, by
      have hL' := Own.ext hL hb
      refine Kn.add (Kn.add hL' (Nat.le_trans hL.size h1) (fun x hx e => ?_) hx) (Nat.le_trans hL.size h2) (fun x hx e => ?_) hy
      · have := Kn.lt hL hx; (try simp only at e); omega
      · rcases List.mem_cons.1 hx with rfl | hx
        · exact hne e
        · have := Kn.lt hL hx; (try simp only at e); omega⟩) (fun i hi => h i.1 i.2.1 i.2.2.1 i.2.2.2.1 i.2.2.2.2.1 i.2.2.2.2.2.1 i.2.2.2.2.2.2.1 i.2.2.2.2.2.2.2 hi.1 hi.2)
theorem Kn.congr {O : List Nat} {w0 w : World} {L L' : List (Nat × TypeId × Array Value)} (h : Kn O w0 w L) (e : L = L') : Kn O w0 w L' := e ▸ h
end Go.Proofs.Ytnfdefeafhepkaa
