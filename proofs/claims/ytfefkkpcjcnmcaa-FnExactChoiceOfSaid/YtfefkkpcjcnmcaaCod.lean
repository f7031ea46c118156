/- cellCode: the code of a pasture and cells. No condition. -/
import Derived.Test.YtfefkkpcjcnmcaaCon
namespace Go.Proofs.Ytfefkkpcjcnmcaa
set_option linter.unusedVariables false
set_option linter.unusedSimpArgs false
open Go.RowKit Mem
attribute [local irreducible] Calm.wpLex

set_option maxRecDepth 100000 in
theorem unless0_any (b : Bool) (c : Int) (w : World) : Calls Try.prog 118 #[.bool b, .int .i64 c] w fun e w' => e = .returned (.int .i64 (if b then 0 else c)) ∧ w = w' := by
  cases b <;> (go_enter Try.func118, Try.ntmps118; go_wp2; go_ret; exact ⟨rfl, rfl⟩)
def cellC (p : Nat → Int) (l : List Sp) : Int := if validP p then (if l.any fun g => !isC (p 0) (p 1) g.x g.y then 2 else 0) else 1
set_option maxRecDepth 100000 in
set_option maxHeartbeats 1000000 in
theorem cellCode_any (p : Nat → Int) (cs : Array Value) (v : Value) (l : List Sp) (w : World) (hp : Pv p cs) (hl : Sl w 2 v (l.map Sp.cells)) (hok : ∀ s ∈ l, s.ok) :
    Calls Try.prog 117 #[.agg cs, v] w fun e w' => e = .returned (.int .i64 (cellC p l)) ∧ Below w.heap.size w w' := by
  have hL := Own.start w
  have HP := Lib.hid hp
  have HS := Lib.hid hl
  have HOK := Lib.hid hok
  have hsz := hp.size
  clear hp hl hok
  obtain ⟨c1, e1⟩ : ∃ c, validP p = c := ⟨_, rfl⟩
  obtain ⟨c2, e2⟩ : ∃ c, (l.any fun g => !isC (p 0) (p 1) g.x g.y) = c := ⟨_, rfl⟩
  have HV : Hid (cellC p l = if c1 then (if c2 then 2 else 0) else 1) := by show cellC p l = _; unfold cellC; rw [e1, e2]
  go_enter Try.func117, Try.ntmps117
  go_wp2_with (first
    | ((with_reducible refine gate_dst (N := 2) rfl ?_); refine wpl_box (cs := cs) hL rfl rfl rfl ?_; clear hL; intro g2 w2 hL)
    | ((with_reducible refine gate_load (ty := 36) rfl ?_); refine wpl_loadW_0 hL rfl rfl (by kernel_rfl) rfl hsz (by kernel_rfl) ?_)
    | (go_at_call 140; (with_reducible refine (implValidPasture_any p cs _ HP.out).mono ?_); rintro e w4 ⟨rfl, hb⟩; rw [e1]; replace hL := hL.ext hb; clear hb; cases c1)
    | (go_at_call 186; (with_reducible refine (hasSp_any _ l p cs _ _ (HS.out.below hL.toBelow) HP.out (hL.at_ (i := 0) rfl) HOK.out).mono ?_); rintro e w4 ⟨rfl, hb⟩; rw [e2]; replace hL := hL.ext hb; clear hb; cases c2)
    | (go_at_call 118; first
      | ((with_reducible refine (unless0_any true 2 _).mono ?_); rintro e w4 ⟨rfl, rfl⟩)
      | ((with_reducible refine (unless0_any false 2 _).mono ?_); rintro e w4 ⟨rfl, rfl⟩)))
  all_goals (go_ret; exact ⟨by rw [HV.out]; rfl, hL.toBelow⟩)
end Go.Proofs.Ytfefkkpcjcnmcaa
