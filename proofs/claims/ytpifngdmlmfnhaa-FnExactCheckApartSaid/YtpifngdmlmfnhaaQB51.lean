import Derived.Test.YtpifngdmlmfnhaaQB11
import Derived.Test.YtpifngdmlmfnhaaQB14
import Derived.Test.YtpifngdmlmfnhaaQB20
import Derived.Test.YtpifngdmlmfnhaaQB23
import Derived.Test.YtpifngdmlmfnhaaQB24
import Derived.Test.YtpifngdmlmfnhaaQB45
import Derived.Test.YtpifngdmlmfnhaaQB46
import Derived.Test.YtpifngdmlmfnhaaQB50
/- WhoEatsAt: both functions. No condition. -/
namespace Go.Proofs.Ytpifngdmlmfnhaa
set_option linter.unusedVariables false
set_option linter.unusedSimpArgs false
open Go.RowKit Mem Wk
attribute [local irreducible] Calls Wk.S Wk.C Wk.E Wk.X Wk.T Wk.Y Wk.andV Wk.shrV Calm.wpLex CalmB.wpLex CalmE.wpLex bfsN
theorem validGt_parts {p : Nat → Int} {L : List Gt} (h : validGt p L = true) : validP p = true ∧ L.length ≤ 20 ∧ ∀ g ∈ L, isC (p 0) (p 1) g.x g.y = true ∧ -1 ≤ g.rope := by
  unfold validGt at h
  simp only [Bool.and_eq_true, decide_eq_true_eq, List.all_eq_true] at h
  refine ⟨h.1, h.2.1, fun g hg => ?_⟩
  have h2 := h.2.2 g hg
  unfold goatOk plainG inB at h2
  simp only [Bool.and_eq_true, decide_eq_true_eq] at h2
  exact ⟨h2.1, by omega⟩
theorem mskF_at {l : List Sp} {s : Sp} (hl : ∀ c ∈ l, inR c) (hs : inR s) : mskF l (ci s) = l.any (eqSp s) := by
  unfold mskF
  rw [Bool.eq_iff_iff]
  simp only [List.any_eq_true, decide_eq_true_eq]
  constructor
  · rintro ⟨c, hc, e⟩
    refine ⟨c, hc, ?_⟩
    have := ci_inj (hl c hc) hs e
    subst this; simp [eqSp]
  · rintro ⟨c, hc, e⟩
    unfold eqSp at e
    simp only [Bool.and_eq_true, decide_eq_true_eq] at e
    exact ⟨c, hc, by unfold ci; rw [e.1, e.2]⟩
end Go.Proofs.Ytpifngdmlmfnhaa
