/- The two tables of unicode/utf8, as every function of this seat meets them; and DecodeRuneInString's contract (the shelf's) in the print's own form. -/
import Derived.Test.YtiancopplinpcaaDoorPx0
import Derived.Test.YtiancopplinpcaaDoorShelf
namespace Go.Proofs.YtiancopplinpcaaDoor.P
open Go.RowKit Go.Proofs.YtiancopplinpcaaDoorW.PrintWords Go.Proofs.YtiancopplinpcaaDoorW.PrintLast
/-- The tables are laid. -/
structure Laid (w : World) : Prop where mk :: (out : Go.Lib.Utf8Tabs 0 1 w)
theorem Laid.below {w w1 : World} (h : Laid w) (hb : Below w.heap.size w w1) : Laid w1 := ⟨Go.Proofs.Utf8Tabs_below h.out hb⟩
def utf8_DecodeRuneInString.f (a0 : ByteArray) : Option (Int × Int) := some ((Go.Lib.decodeGo a0).1, (Go.Lib.decodeGo a0).2)
theorem utf8_DecodeRuneInString.calls (a0 : ByteArray) (r1 : Int) (r2 : Int) (w : World) (HLAID : Laid w) (h : utf8_DecodeRuneInString.f a0 = some (r1, r2)) :
    Calls Tryd.prog 73 #[.string a0] w fun e w' => e = .returned (.tuple #[.int .i32 r1, .int .i64 r2]) ∧ Below w.heap.size w w' := by
  simp only [utf8_DecodeRuneInString.f, Option.some.injEq, Prod.mk.injEq] at h
  obtain ⟨rfl, rfl⟩ := h
  exact Tryd.utf8_DecodeRuneInString a0 w HLAID.out
end Go.Proofs.YtiancopplinpcaaDoor.P
