/- The one pure statement of VbiNums. -/
import Derived.Test.YtajbopckmjjcfaaPx2
import Derived.Test.YtajbopckmjjcfaaAsk
namespace Go.Proofs.Ytajbopckmjjcfaa.P
def VbiNums.Pure : Prop := ∀ (l0 : (List S24)), (l0.length * 40 ≤ 140737488351232 ∧ ∀ a_ ∈ l0, g24 a_) → ∃ k, fairwaylaw2_VbiNums.f k l0 = some true
end Go.Proofs.Ytajbopckmjjcfaa.P
