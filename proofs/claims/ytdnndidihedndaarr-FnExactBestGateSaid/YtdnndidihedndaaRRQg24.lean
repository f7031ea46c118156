import Derived.Test.YtdnndidihedndaaRRQg18
import Derived.Test.YtdnndidihedndaaRRQg20
import Derived.Test.YtdnndidihedndaaRRQg22
import Derived.Test.YtdnndidihedndaaRRQg23
/- JoinYards: both functions. No condition. -/
namespace Go.Proofs.YtdnndidihedndaaRR
set_option linter.unusedVariables false
set_option linter.unusedSimpArgs false
open Go.RowKit Mem Wk
attribute [local irreducible] Calls Wk.S Wk.C Wk.E Wk.X Wk.T Wk.Y Wk.anV Wk.orV Wk.andV Wk.shlV Wk.shrV Calm.wpLex CalmB.wpLex bfsN putP hursL
def othS (h : Hd) : Sp := ⟨nextX h.x (sdOf h.s), nextY h.y (sdOf h.s)⟩
theorem isH_facts {p : Nat → Int} {h : Hd} (hh : isH p h = true) : inR ⟨h.x, h.y⟩ ∧ inR (othS h) := ⟨isC_range (isH_cells hh).1, isC_range (isH_cells hh).2⟩
end Go.Proofs.YtdnndidihedndaaRR
