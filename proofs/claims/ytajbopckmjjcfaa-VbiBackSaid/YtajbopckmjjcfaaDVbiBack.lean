/- The one pure statement of VbiBack. -/
import Derived.Test.YtajbopckmjjcfaaPx6
import Derived.Test.YtajbopckmjjcfaaAsk
namespace Go.Proofs.Ytajbopckmjjcfaa.P
def VbiBack.Pure : Prop := ∀ (l0 : (List S24)), (l0.length * 40 ≤ 140737488351232 ∧ ∀ a_ ∈ l0, g24 a_) → ∃ k, fairwaylaw2_VbiBack.f k l0 = some true
end Go.Proofs.Ytajbopckmjjcfaa.P
