/- The one pure statement of VbiEdges. -/
import Derived.Test.YtajbopckmjjcfaaPx3
import Derived.Test.YtajbopckmjjcfaaAsk
namespace Go.Proofs.Ytajbopckmjjcfaa.P
def VbiEdges.Pure : Prop := ∀ (l0 : (List S24)), (l0.length * 40 ≤ 140737488351232 ∧ ∀ a_ ∈ l0, g24 a_) → ∃ k, fairwaylaw2_VbiEdges.f k l0 = some true
end Go.Proofs.Ytajbopckmjjcfaa.P
