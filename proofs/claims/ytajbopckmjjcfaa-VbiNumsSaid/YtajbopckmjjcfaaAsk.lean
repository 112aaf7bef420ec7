/- What the statements' arguments read as, told as plain Lean values. -/
import Derived.Test.YtajbopckmjjcfaaPx0
import Derived.Test.YtajbopckmjjcfaaOpen
namespace Go.Proofs.Ytajbopckmjjcfaa.P
open Go.RowKit Go.Proofs.YtajbopckmjjcfaaW.PrintWords Go.Proofs.Ytajbopckmjjcfaa.Open Go.Deep
instance : Inhabited S24 := ⟨z24⟩
/-- What is told of a value of type 24. -/
def g24 (x : S24) : Prop := (Lit.int .i64 x.f0).wf = true ∧ x.f1.size ≤ 140737488351232 ∧ x.f2.size ≤ 140737488351232
set_option maxRecDepth 100000 in
theorem o24 : Opens Try.prog 24 k24 (fun x => g24 x) :=
  opens_imp (opens_iso (fun x : S24 => (x.f0, x.f1, x.f2)) (fun x => ⟨x.1, x.2.1, x.2.2⟩) (fun _ => rfl) (opens_struct Try.underlying24 (by kernel_rfl) (opensAt_cons rfl (by kernel_rfl) (opens_int Try.underlying3) (opensAt_cons rfl (by kernel_rfl) (opens_string Try.underlying9) (opensAt_one rfl (by kernel_rfl) (opens_string Try.underlying9)))))) (fun _ h => h)
end Go.Proofs.Ytajbopckmjjcfaa.P
