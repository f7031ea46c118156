/- A walk that stops ahead of a call. -/
import Derived.Test.YtfefkkpcjcnmcaaFam
namespace Go.Proofs.Ytfefkkpcjcnmcaa
def Halt (p : Prop) : Prop := p
theorem halt {p : Prop} (h : Halt p) : p := h
theorem halt_on {p : Prop} (h : p) : Halt p := h
end Go.Proofs.Ytfefkkpcjcnmcaa
