/- What the statements' arguments read as, told as plain Lean values. -/
import Derived.Test.YtiancopplinpcaaDoorPx0
import Derived.Test.YtiancopplinpcaaDoorOpen
namespace Go.Proofs.YtiancopplinpcaaDoor.P
open Go.RowKit Go.Proofs.YtiancopplinpcaaDoorW.PrintWords Go.Proofs.YtiancopplinpcaaDoor.Open Go.Deep
instance : Inhabited S42 := ⟨z42⟩
/-- What is told of a value of type 42. -/
def g42 (x : S42) : Prop := (Lit.int .i64 x.f0).wf = true ∧ (Lit.int .i64 x.f1).wf = true ∧ x.f2.size ≤ 140737488351232 ∧ x.f3.size ≤ 140737488351232
set_option maxRecDepth 100000 in
theorem o42 : Opens Tryd.prog 42 k42 (fun x => g42 x) :=
  opens_imp (opens_iso (fun x : S42 => (x.f0, x.f1, x.f2, x.f3)) (fun x => ⟨x.1, x.2.1, x.2.2.1, x.2.2.2⟩) (fun _ => rfl) (opens_struct Tryd.underlying42 (by kernel_rfl) (opensAt_cons rfl (by kernel_rfl) (opens_int Tryd.underlying3) (opensAt_cons rfl (by kernel_rfl) (opens_int Tryd.underlying3) (opensAt_cons rfl (by kernel_rfl) (opens_string Tryd.underlying9) (opensAt_one rfl (by kernel_rfl) (opens_string Tryd.underlying9))))))) (fun _ h => h)
instance : Inhabited S25 := ⟨z25⟩
/-- What is told of a value of type 25. -/
def g25 (x : S25) : Prop := (Lit.int .i64 x.f0).wf = true ∧ (x.f1.length * 48 ≤ 140737488351232 ∧ ∀ a_ ∈ x.f1, g42 a_) ∧ x.f2.size ≤ 140737488351232
set_option maxRecDepth 100000 in
theorem o25 : Opens Tryd.prog 25 k25 (fun x => g25 x) :=
  opens_imp (opens_iso (fun x : S25 => (x.f0, x.f1, x.f2)) (fun x => ⟨x.1, x.2.1, x.2.2⟩) (fun _ => rfl) (opens_struct Tryd.underlying25 (by kernel_rfl) (opensAt_cons rfl (by kernel_rfl) (opens_int Tryd.underlying3) (opensAt_cons rfl (by kernel_rfl) (opens_slice (sz := 4) (B := 48) Tryd.underlying23 (by kernel_rfl) (by rfl) (by kernel_rfl) o42) (opensAt_one rfl (by kernel_rfl) (opens_string Tryd.underlying9)))))) (fun _ h => h)
end Go.Proofs.YtiancopplinpcaaDoor.P
