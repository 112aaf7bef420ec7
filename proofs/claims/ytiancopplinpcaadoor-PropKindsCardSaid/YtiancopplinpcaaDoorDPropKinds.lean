/- The one pure statement of PropKinds. -/
import Derived.Test.YtiancopplinpcaaDoorPx20
import Derived.Test.YtiancopplinpcaaDoorAsk
namespace Go.Proofs.YtiancopplinpcaaDoor.P
def PropKinds.Pure : Prop := ∀ (l0 : (List S25)), (l0.length * 48 ≤ 140737488351232 ∧ ∀ a_ ∈ l0, g25 a_) → ∃ k, fairwaylaw4_PropKinds.f k l0 = some true
end Go.Proofs.YtiancopplinpcaaDoor.P
