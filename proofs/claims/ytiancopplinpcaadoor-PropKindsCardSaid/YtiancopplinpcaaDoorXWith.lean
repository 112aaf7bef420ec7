/- The walk of prop.with: a property with a value of any kind. -/
import Derived.Test.YtiancopplinpcaaDoorPx0
import Derived.RegionTactic
import Derived.ChangeAlike
namespace Go.Proofs.YtiancopplinpcaaDoor.P
open Go.RowKit Go.Proofs.YtiancopplinpcaaDoorW.PrintWords Go.Proofs.YtiancopplinpcaaDoorW.PrintLast Go.Proofs.YtiancopplinpcaaDoorW.PrintMore
set_option linter.unusedSimpArgs false
set_option linter.unusedVariables false
def prop_with.f (a0 : Int) (a1 : AnyV) : Option (Int × Int × ByteArray × ByteArray) := match a1 with
  | .num n => some (a0, n, (⟨#[]⟩ : ByteArray), (⟨#[]⟩ : ByteArray))
  | .str s => some (a0, 0, s, (⟨#[]⟩ : ByteArray))
  | .two a b => some (a0, 0, a, b)
  | .no => none
set_option maxHeartbeats 4000000 in
set_option maxRecDepth 100000 in
theorem prop_with.calls (a0 : Int) (a1 : AnyV) (r1 : Int) (r2 : Int) (r3 : ByteArray) (r4 : ByteArray) (w : World) (h : prop_with.f a0 a1 = some (r1, r2, r3, r4)) :
    Calls Tryd.prog 47 #[.int .i64 a0, anyW a1] w fun e w' => e = .returned (.agg #[.int .i64 r1, .int .i64 r2, .string r3, .string r4]) ∧ Below w.heap.size w w' := by
  have hu42 := Tryd.underlying42
  cases a1 with
  | no => cases h
  | num n =>
    simp only [prop_with.f, Option.some.injEq, Prod.mk.injEq] at h
    obtain ⟨rfl, rfl, rfl, rfl⟩ := h
    have t1 : ∀ W, (Instr.typeAssert (.iface 3 (.int .i64 n)) 20 3 true).run Tryd.prog W = .ok (.tuple #[.int .i64 n, .bool true]) W := fun W => by rfl
    show Calls Tryd.prog 47 #[.int .i64 a0, .iface 3 (.int .i64 n)] w _
    go_enter Tryd.func47, Tryd.ntmps47
    go_wp2
    exact bodyPost_ret (v := .agg #[.int .i64 a0, .int .i64 n, .string (⟨#[]⟩ : ByteArray), .string (⟨#[]⟩ : ByteArray)]) (by simp [results, Tryd.results47, go_sem]) rfl ⟨rfl, by
      repeat (first | exact Below.refl _ _ | apply below_drew1 | apply pw_below_drewN | (refine Below.setCell ?_ (by simp <;> omega) _) | (refine Below.alloc ?_ (by simp <;> omega) _) | (refine Below.setCells ?_ (by simp <;> omega) _ _))⟩
  | str s =>
    simp only [prop_with.f, Option.some.injEq, Prod.mk.injEq] at h
    obtain ⟨rfl, rfl, rfl, rfl⟩ := h
    have t1 : ∀ W, (Instr.typeAssert (.iface 9 (.string s)) 20 3 true).run Tryd.prog W = .ok (.tuple #[.int .i64 0, .bool false]) W := fun W => by rfl
    have t2 : ∀ W, (Instr.typeAssert (.iface 9 (.string s)) 20 9 true).run Tryd.prog W = .ok (.tuple #[.string s, .bool true]) W := fun W => by rfl
    show Calls Tryd.prog 47 #[.int .i64 a0, .iface 9 (.string s)] w _
    go_enter Tryd.func47, Tryd.ntmps47
    go_wp2
    exact bodyPost_ret (v := .agg #[.int .i64 a0, .int .i64 0, .string s, .string (⟨#[]⟩ : ByteArray)]) (by simp [results, Tryd.results47, go_sem]) rfl ⟨rfl, by
      repeat (first | exact Below.refl _ _ | apply below_drew1 | apply pw_below_drewN | (refine Below.setCell ?_ (by simp <;> omega) _) | (refine Below.alloc ?_ (by simp <;> omega) _) | (refine Below.setCells ?_ (by simp <;> omega) _ _))⟩
  | two a b =>
    simp only [prop_with.f, Option.some.injEq, Prod.mk.injEq] at h
    obtain ⟨rfl, rfl, rfl, rfl⟩ := h
    have t1 : ∀ W, (Instr.typeAssert (.iface 87 (.agg #[.string a, .string b])) 20 3 true).run Tryd.prog W = .ok (.tuple #[.int .i64 0, .bool false]) W := fun W => by rfl
    have t2 : ∀ W, (Instr.typeAssert (.iface 87 (.agg #[.string a, .string b])) 20 9 true).run Tryd.prog W = .ok (.tuple #[.string (⟨#[]⟩ : ByteArray), .bool false]) W := fun W => by rfl
    have t3 : ∀ W, (Instr.typeAssert (.iface 87 (.agg #[.string a, .string b])) 20 87 false).run Tryd.prog W = .ok (.agg #[.string a, .string b]) W := fun W => by rfl
    show Calls Tryd.prog 47 #[.int .i64 a0, .iface 87 (.agg #[.string a, .string b])] w _
    go_enter Tryd.func47, Tryd.ntmps47
    go_wp2
    go_region
    all_goals go_wp2
    all_goals
      exact bodyPost_ret (v := .agg #[.int .i64 a0, .int .i64 0, .string a, .string b]) (by simp [results, Tryd.results47, go_sem]) rfl ⟨rfl, by
        repeat (first | exact Below.refl _ _ | apply below_drew1 | apply pw_below_drewN | (refine Below.setCell ?_ (by simp <;> omega) _) | (refine Below.alloc ?_ (by simp <;> omega) _) | (refine Below.setCells ?_ (by simp <;> omega) _ _))⟩
end Go.Proofs.YtiancopplinpcaaDoor.P
