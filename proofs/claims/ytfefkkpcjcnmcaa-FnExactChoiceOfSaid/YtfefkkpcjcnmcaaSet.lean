/- SetHurdle: the code of a cell and a side; both functions. No condition. -/
import Derived.Test.YtfefkkpcjcnmcaaHus
import Derived.Test.YtfefkkpcjcnmcaaCod
import Derived.Test.YtfefkkpcjcnmcaaFof
namespace Go.Proofs.Ytfefkkpcjcnmcaa
set_option linter.unusedVariables false
set_option linter.unusedSimpArgs false
open Go.RowKit Mem Wk
attribute [local irreducible] Calls Wk.S Wk.C Wk.E Wk.X Wk.T Wk.anV Wk.orV Wk.andV Wk.shlV Wk.shrV Calm.wpLex

theorem bsl1A (t e : TypeId) (u v : Value) : True := trivial
theorem slSpot1 (u v : Value) (w : World) : (Instr.buildSlice 40 1 #[(0, .agg #[u, v])]).run Try.prog w = .ok (.slice (some ⟨w.heap.size, 0, none⟩) 1 1) (w.alloc (.cells #[u, v] 38 (0, 0))) := by kernel_rfl
theorem slInt2 (a b : Int) (w : World) : (Instr.buildSlice 108 2 #[(0, .int .i64 a), (1, .int .i64 b)]).run Try.prog w = .ok (.slice (some ⟨w.heap.size, 0, none⟩) 2 2) (w.alloc (.cells #[.int .i64 a, .int .i64 b] 2 (0, 0))) := by kernel_rfl
theorem sl1_spot {w : World} {b : Nat} {T : TypeId} (s : Sp) (h : w.heap[b]? = some (.cells #[.int .i8 s.x, .int .i8 s.y] T (0, 0))) : Sl w 2 (.slice (some ⟨b, 0, none⟩) 1 1) ([s].map Sp.cells) :=
  Sl.of_block (n := 1) (by intro c hc; simp at hc; subst hc; rfl) rfl (by unfold maxLen; omega) h (fun j _ => by simp [Sp.cells])
theorem cellC1 (p : Nat → Int) (x y : Int) : cellC p [⟨x, y⟩] = if validP p then (if isC (p 0) (p 1) x y then 0 else 2) else 1 := by
  unfold cellC; simp; cases isC (p 0) (p 1) x y <;> simp
theorem cellC1_ask (p : Nat → Int) (x y : Int) (b : Bool) : (if cellC p [⟨x, y⟩] = 0 then (if b then 0 else 2) else cellC p [⟨x, y⟩]) = askC p x y b := by
  rw [cellC1]; unfold askC
  cases validP p <;> cases isC (p 0) (p 1) x y <;> cases b <;> rfl
def setC (p : Nat → Int) (x y side : Int) : Int := if askC p x y (inB side 0 3) = 0 then (if isC (p 0) (p 1) (nextX x side) (nextY y side) then 0 else 4) else askC p x y (inB side 0 3)
def setV (p : Nat → Int) (x y side : Int) (on : Bool) : Nat → Int := if setC p x y side = 0 then putP p (hdX x side) (hdY y side) (hdS side) on else fun _ => 0
theorem ask0 {p : Nat → Int} {x y : Int} {b : Bool} (h : askC p x y b = 0) : p 0 ≤ 10 ∧ p 1 ≤ 10 ∧ isC (p 0) (p 1) x y = true ∧ b = true := by
  unfold askC at h
  split at h
  · rename_i hv
    split at h
    · rename_i hc
      simp at hc
      unfold validP inB at hv
      simp at hv
      exact ⟨by omega, by omega, hc.1, hc.2⟩
    · cases h
  · cases h
theorem in03 {n : Int} (h : inB n 0 3 = true) : 0 ≤ n ∧ n ≤ 3 := by unfold inB at h; simpa using h
theorem Pv.uniq {p : Nat → Int} {a b : Array Value} (h : Pv p a) (h' : Pv p b) : a = b := Pv.ext h h' (fun _ _ => rfl)
theorem putP_ex {p : Nat → Int} {cs : Array Value} {x y : Int} {s on : Bool} (hp : Pv p cs) (hy : 0 ≤ y ∧ y < 10) : ∃ c', Pv (putP p x y s on) c' := by
  unfold putP
  split
  · exact ⟨_, hp.setRow (by omega) (by omega) (rowV_range _ _ _)⟩
  · exact ⟨_, hp.setRow (by omega) (by omega) (rowV_range _ _ _)⟩
theorem setV_ex {p : Nat → Int} {cs : Array Value} {x y side : Int} {on : Bool} (hp : Pv p cs) : ∃ c', Pv (setV p x y side on) c' := by
  unfold setV
  split
  · rename_i h
    unfold setC at h
    split at h
    · rename_i h0
      obtain ⟨_, _, hc0, _⟩ := ask0 h0
      have hr := isC_range hc0
      split at h
      · rename_i hn
        exact putP_ex hp (hd_range (x := x) (y := y) (side := side) ⟨hr.1, hr.2.1⟩ hr.2.2 (isC_range hn)).2
      · cases h
    · contradiction
  · exact ⟨zP, zP_pv⟩
theorem to_pas {f : FuncId} {args : Array Value} {w : World} {p : Nat → Int} {c0 : Array Value} {c : Int} (h : Calls Try.prog f args w fun e w' => ∃ cs', e = .returned (.tuple #[.agg cs', .int .i64 c]) ∧ Pv p cs' ∧ Below w.heap.size w w') (hc : Pv p c0) :
    Calls Try.prog f args w fun e w' => e = .returned (.tuple #[.agg c0, .int .i64 c]) ∧ Below w.heap.size w w' :=
  h.mono fun e w' ⟨cs', he, hp, hb⟩ => ⟨by rw [he, hp.uniq hc], hb⟩
end Go.Proofs.Ytfefkkpcjcnmcaa
