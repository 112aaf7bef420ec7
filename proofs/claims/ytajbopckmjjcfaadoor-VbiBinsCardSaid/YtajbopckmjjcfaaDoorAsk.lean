/- What the statements' arguments read as, told as plain Lean values. -/
import Derived.Test.YtajbopckmjjcfaaDoorPx0
import Derived.Test.YtajbopckmjjcfaaDoorOpen
namespace Go.Proofs.YtajbopckmjjcfaaDoor.P
open Go.RowKit Go.Proofs.YtajbopckmjjcfaaDoorW.PrintWords Go.Proofs.YtajbopckmjjcfaaDoor.Open Go.Deep
instance : Inhabited S27 := ⟨z27⟩
/-- What is told of a value of type 27. -/
def g27 (x : S27) : Prop := (Lit.int .i64 x.f0).wf = true ∧ x.f1.size ≤ 140737488351232 ∧ x.f2.size ≤ 140737488351232
set_option maxRecDepth 100000 in
theorem o27 : Opens Tryd.prog 27 k27 (fun x => g27 x) :=
  opens_imp (opens_iso (fun x : S27 => (x.f0, x.f1, x.f2)) (fun x => ⟨x.1, x.2.1, x.2.2⟩) (fun _ => rfl) (opens_struct Tryd.underlying27 (by kernel_rfl) (opensAt_cons rfl (by kernel_rfl) (opens_int Tryd.underlying3) (opensAt_cons rfl (by kernel_rfl) (opens_string Tryd.underlying9) (opensAt_one rfl (by kernel_rfl) (opens_string Tryd.underlying9)))))) (fun _ h => h)
end Go.Proofs.YtajbopckmjjcfaaDoor.P
