/- Pastures: equal ones compare as equal. -/
import Derived.Test.YtjflellnbafbaaaEqB
namespace Go.Proofs.Ytjflellnbafbaaa
set_option linter.unusedVariables false
set_option linter.unusedSimpArgs false
open Go.RowKit Mem
attribute [local irreducible] Calm.wpLex

set_option maxRecDepth 100000 in
set_option maxHeartbeats 1000000 in
theorem eqPasture_same (p : Nat → Int) (cs : Array Value) (w : World) (hp : Pv p cs) :
    Calls Try.prog 44 #[.agg cs, .agg cs] w fun e w' => e = .returned (.bool true) ∧ Below w.heap.size w w' := by
  have hL := Own.start w
  have g0 := hp.g0
  have g1 := hp.g1
  have hsz := hp.size
  obtain ⟨gr, hgr⟩ : ∃ a, cs.extract 2 (2 + 100) = a := ⟨_, rfl⟩
  obtain ⟨ea, hea⟩ : ∃ a, cs.extract 102 (102 + 10) = a := ⟨_, rfl⟩
  obtain ⟨so, hso⟩ : ∃ a, cs.extract 112 (112 + 10) = a := ⟨_, rfl⟩
  have HG : Hid (IntsOf .i16 100 gr) := by rw [← hgr]; exact hp.ints16
  have HE : Hid (IntsOf .u16 10 ea) := by rw [← hea]; exact hp.intsE
  have HS : Hid (IntsOf .u16 10 so) := by rw [← hso]; exact hp.intsS
  have f1 : 2 + 100 ≤ cs.size := by omega
  have f2 : 102 + 10 ≤ cs.size := by omega
  have f3 : 112 + 10 ≤ cs.size := by omega
  clear hp
  go_enter Try.func44, Try.ntmps44
  go_wp2_with (first
    | ((with_reducible refine gate_dst (N := 2) rfl ?_); refine wpl_box (cs := cs) hL rfl rfl rfl ?_; clear hL; intro g2 w2 hL)
    | ((with_reducible refine gate_dst (N := 3) rfl ?_); refine wpl_box (cs := cs) hL rfl rfl rfl ?_; clear hL; intro g3 w3 hL)
    | ((with_reducible refine gate_load (ty := 22) rfl ?_); first
      | (refine wpl_load_1 hL rfl rfl (by kernel_rfl) rfl g0 ?_)
      | (refine wpl_load_0 hL rfl rfl (by kernel_rfl) rfl g0 ?_)
      | (refine wpl_load_1 hL rfl rfl (by kernel_rfl) rfl g1 ?_)
      | (refine wpl_load_0 hL rfl rfl (by kernel_rfl) rfl g1 ?_))
    | ((with_reducible refine gate_load (ty := 37) rfl ?_); first
      | (refine wpl_loadN_1 (off := 2) (vs := gr) hL 100 rfl rfl (by kernel_rfl) (by kernel_rfl) rfl f1 hgr ?_)
      | (refine wpl_loadN_0 (off := 2) (vs := gr) hL 100 rfl rfl (by kernel_rfl) (by kernel_rfl) rfl f1 hgr ?_))
    | ((with_reducible refine gate_load (ty := 39) rfl ?_); first
      | (refine wpl_loadN_1 (off := 102) (vs := ea) hL 10 rfl rfl (by kernel_rfl) (by kernel_rfl) rfl f2 hea ?_)
      | (refine wpl_loadN_0 (off := 102) (vs := ea) hL 10 rfl rfl (by kernel_rfl) (by kernel_rfl) rfl f2 hea ?_)
      | (refine wpl_loadN_1 (off := 112) (vs := so) hL 10 rfl rfl (by kernel_rfl) (by kernel_rfl) rfl f3 hso ?_)
      | (refine wpl_loadN_0 (off := 112) (vs := so) hL 10 rfl rfl (by kernel_rfl) (by kernel_rfl) rfl f3 hso ?_))
    | (go_at_call 92; (with_reducible refine (eqII_same gr _ HG.out).mono ?_); rintro e w4 ⟨rfl, hb⟩; replace hL := hL.ext hb; clear hb)
    | (go_at_call 93; first
      | ((with_reducible refine (eqU_same ea _ HE.out).mono ?_); rintro e w4 ⟨rfl, hb⟩; replace hL := hL.ext hb; clear hb)
      | ((with_reducible refine (eqU_same so _ HS.out).mono ?_); rintro e w4 ⟨rfl, hb⟩; replace hL := hL.ext hb; clear hb)))
  go_ret
  exact ⟨rfl, hL.toBelow⟩
end Go.Proofs.Ytjflellnbafbaaa
