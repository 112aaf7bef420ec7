/- The one pure statement of VbiTexts. -/
import Derived.Test.YtajbopckmjjcfaaDoorPx6
import Derived.Test.YtajbopckmjjcfaaDoorAsk
namespace Go.Proofs.YtajbopckmjjcfaaDoor.P
def VbiTexts.Pure : Prop := ∀ (l0 : (List S27)), (l0.length * 40 ≤ 140737488351232 ∧ ∀ a_ ∈ l0, g27 a_) → ∃ k, fairwaylaw2_VbiTexts.f k l0 = some true
end Go.Proofs.YtajbopckmjjcfaaDoor.P
