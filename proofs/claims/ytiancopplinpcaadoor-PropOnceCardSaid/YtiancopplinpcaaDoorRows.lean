/-
  NARROWER THAN 'FOR EVERY INPUT', by the rows' own cells (each row's printed sentence says how): PropKinds: laid · PropBytes: laid · PropOnce: laid · PropTakes: laid · PropBack: laid · PropNumbers: laid · PropTexts: laid · PropPairs: laid.
  DERIVED. THE GIVEN ROWS OF THIS SEAT. 8 by the template 'for every input the law returns true; each argument reads behind the call as it read before'; 0 by the template 'total and deterministic' (their statements: YtiancopplinpcaaDoorTotals.lean).
  GIVEN WITH THE SEED: the statements are not yours to turn. If you find one false, say at which input.
  Laid BY PROGRAM, IN A SANDBOX (cutbox-rows.mjs): the forced cells as the released guide's own fill.sh prints them over the translation 76481ac2fb3f5013… (all of the seat's roots in one cut). By AI agents, Wed Nov 11 2026. No macro, syntax, notation, axiom, sorry.
-/
import Derived.Test.YtiancopplinpcaaDoorChecked
import GoSem.PinnedTables
import GoSem.Claim
import GoSem.ClaimJoined
import GoSem.ClaimMapViews
import Derived.JoinedTies
import Derived.KernelRfl
namespace Go.Proofs.YtiancopplinpcaaDoor
/- THE CELL 'sum', in the pinned program and in every row, IS THE sha256 OF THE DUMP (.gsa) THAT YtiancopplinpcaaDoorProg.lean LOADS. Nothing in Lean hashes anything: it is a label: what it is worth is what the hold of that sum in a sandbox is worth. -/
noncomputable def Tryd.pinned : Pinned := { name := "ytiancopplinpcaadoor", sum := "76481ac2fb3f5013ee53f3bac82b1a68e979f90d470e3d9ca717b8a5bd1f7017", checked := Tryd.checked }
namespace Rows
def none {H : Type} : Left H := { results := [], args := [] }

/- WHAT THE LISTED PACKAGE-LEVEL VARIABLES READ AS WHEN THE CALL BEGINS. Each datum BY PROGRAM (the guide's laid-datum.mjs) off the statement by which the dump's own 'gosem.cut.vars' lays the variable. In a bare row this is a premise. The card (YtiancopplinpcaaDoorCards.lean) ties it to the program's text. -/
def laid_unicode_utf8_acceptRanges {H : Type} : DataW H := .agg [.agg [.lit (.int .u8 128), .lit (.int .u8 191)], .agg [.lit (.int .u8 160), .lit (.int .u8 191)], .agg [.lit (.int .u8 128), .lit (.int .u8 159)], .agg [.lit (.int .u8 144), .lit (.int .u8 191)], .agg [.lit (.int .u8 128), .lit (.int .u8 143)], .agg [.lit (.int .u8 0), .lit (.int .u8 0)], .agg [.lit (.int .u8 0), .lit (.int .u8 0)], .agg [.lit (.int .u8 0), .lit (.int .u8 0)], .agg [.lit (.int .u8 0), .lit (.int .u8 0)], .agg [.lit (.int .u8 0), .lit (.int .u8 0)], .agg [.lit (.int .u8 0), .lit (.int .u8 0)], .agg [.lit (.int .u8 0), .lit (.int .u8 0)], .agg [.lit (.int .u8 0), .lit (.int .u8 0)], .agg [.lit (.int .u8 0), .lit (.int .u8 0)], .agg [.lit (.int .u8 0), .lit (.int .u8 0)], .agg [.lit (.int .u8 0), .lit (.int .u8 0)]]
/-- One of Go's own tables, pinned by name: the form's constant. -/
def laid_unicode_utf8_first : DataW Unit := Go.Pinned.utf8First

/-- 'fairwaylaw4.PropKinds': WHATEVER THE INPUT: true; the input reads as it did. -/
def propKindsSpec : ChangeSpec := { name := "propKinds", fn := fun _ => fun
  | [d] => { results := [.lit (.bool true)], args := [d] }
  | _ => none }
def propKindsRow : OpenClaim := { program := "ytiancopplinpcaadoor", sum := "76481ac2fb3f5013ee53f3bac82b1a68e979f90d470e3d9ca717b8a5bd1f7017", func := "fairway/fairwaylaw4.PropKinds", spec := "propKinds", unfollowed := true, recurses := true, named := ["unicode/utf8.first", "unicode/utf8.acceptRanges"], apart := false, laid := [("unicode/utf8.acceptRanges", laid_unicode_utf8_acceptRanges), ("unicode/utf8.first", laid_unicode_utf8_first)] }
def PropKindsSaid : Prop := propKindsRow.holds Tryd.pinned (OpenSpec.ofChange propKindsSpec)

/-- ITS FALSE NEIGHBOUR: 'it returns false'. Refute it at one input. -/
def propKindsWrong : ChangeSpec := { name := "propKinds", fn := fun _ => fun
  | [d] => { results := [.lit (.bool false)], args := [d] }
  | _ => none }
def PropKindsWrongFalsely : Prop := propKindsRow.holds Tryd.pinned (OpenSpec.ofChange propKindsWrong)

/-- 'fairwaylaw4.PropBytes': WHATEVER THE INPUT: true; the input reads as it did. -/
def propBytesSpec : ChangeSpec := { name := "propBytes", fn := fun _ => fun
  | [d] => { results := [.lit (.bool true)], args := [d] }
  | _ => none }
def propBytesRow : OpenClaim := { program := "ytiancopplinpcaadoor", sum := "76481ac2fb3f5013ee53f3bac82b1a68e979f90d470e3d9ca717b8a5bd1f7017", func := "fairway/fairwaylaw4.PropBytes", spec := "propBytes", unfollowed := true, recurses := true, named := ["unicode/utf8.first", "unicode/utf8.acceptRanges"], apart := false, laid := [("unicode/utf8.acceptRanges", laid_unicode_utf8_acceptRanges), ("unicode/utf8.first", laid_unicode_utf8_first)] }
def PropBytesSaid : Prop := propBytesRow.holds Tryd.pinned (OpenSpec.ofChange propBytesSpec)

/-- ITS FALSE NEIGHBOUR: 'it returns false'. Refute it at one input. -/
def propBytesWrong : ChangeSpec := { name := "propBytes", fn := fun _ => fun
  | [d] => { results := [.lit (.bool false)], args := [d] }
  | _ => none }
def PropBytesWrongFalsely : Prop := propBytesRow.holds Tryd.pinned (OpenSpec.ofChange propBytesWrong)

/-- 'fairwaylaw4.PropOnce': WHATEVER THE INPUT: true; the input reads as it did. -/
def propOnceSpec : ChangeSpec := { name := "propOnce", fn := fun _ => fun
  | [d] => { results := [.lit (.bool true)], args := [d] }
  | _ => none }
def propOnceRow : OpenClaim := { program := "ytiancopplinpcaadoor", sum := "76481ac2fb3f5013ee53f3bac82b1a68e979f90d470e3d9ca717b8a5bd1f7017", func := "fairway/fairwaylaw4.PropOnce", spec := "propOnce", unfollowed := true, recurses := true, named := ["unicode/utf8.first", "unicode/utf8.acceptRanges"], apart := false, laid := [("unicode/utf8.acceptRanges", laid_unicode_utf8_acceptRanges), ("unicode/utf8.first", laid_unicode_utf8_first)] }
def PropOnceSaid : Prop := propOnceRow.holds Tryd.pinned (OpenSpec.ofChange propOnceSpec)

/-- ITS FALSE NEIGHBOUR: 'it returns false'. Refute it at one input. -/
def propOnceWrong : ChangeSpec := { name := "propOnce", fn := fun _ => fun
  | [d] => { results := [.lit (.bool false)], args := [d] }
  | _ => none }
def PropOnceWrongFalsely : Prop := propOnceRow.holds Tryd.pinned (OpenSpec.ofChange propOnceWrong)

/-- 'fairwaylaw4.PropTakes': WHATEVER THE INPUT: true; the input reads as it did. -/
def propTakesSpec : ChangeSpec := { name := "propTakes", fn := fun _ => fun
  | [d] => { results := [.lit (.bool true)], args := [d] }
  | _ => none }
def propTakesRow : OpenClaim := { program := "ytiancopplinpcaadoor", sum := "76481ac2fb3f5013ee53f3bac82b1a68e979f90d470e3d9ca717b8a5bd1f7017", func := "fairway/fairwaylaw4.PropTakes", spec := "propTakes", unfollowed := true, recurses := true, named := ["unicode/utf8.first", "unicode/utf8.acceptRanges"], apart := false, laid := [("unicode/utf8.acceptRanges", laid_unicode_utf8_acceptRanges), ("unicode/utf8.first", laid_unicode_utf8_first)] }
def PropTakesSaid : Prop := propTakesRow.holds Tryd.pinned (OpenSpec.ofChange propTakesSpec)

/-- ITS FALSE NEIGHBOUR: 'it returns false'. Refute it at one input. -/
def propTakesWrong : ChangeSpec := { name := "propTakes", fn := fun _ => fun
  | [d] => { results := [.lit (.bool false)], args := [d] }
  | _ => none }
def PropTakesWrongFalsely : Prop := propTakesRow.holds Tryd.pinned (OpenSpec.ofChange propTakesWrong)

/-- 'fairwaylaw4.PropBack': WHATEVER THE INPUT: true; the input reads as it did. -/
def propBackSpec : ChangeSpec := { name := "propBack", fn := fun _ => fun
  | [d] => { results := [.lit (.bool true)], args := [d] }
  | _ => none }
def propBackRow : OpenClaim := { program := "ytiancopplinpcaadoor", sum := "76481ac2fb3f5013ee53f3bac82b1a68e979f90d470e3d9ca717b8a5bd1f7017", func := "fairway/fairwaylaw4.PropBack", spec := "propBack", unfollowed := true, recurses := true, named := ["unicode/utf8.first", "unicode/utf8.acceptRanges"], apart := false, laid := [("unicode/utf8.acceptRanges", laid_unicode_utf8_acceptRanges), ("unicode/utf8.first", laid_unicode_utf8_first)] }
def PropBackSaid : Prop := propBackRow.holds Tryd.pinned (OpenSpec.ofChange propBackSpec)

/-- ITS FALSE NEIGHBOUR: 'it returns false'. Refute it at one input. -/
def propBackWrong : ChangeSpec := { name := "propBack", fn := fun _ => fun
  | [d] => { results := [.lit (.bool false)], args := [d] }
  | _ => none }
def PropBackWrongFalsely : Prop := propBackRow.holds Tryd.pinned (OpenSpec.ofChange propBackWrong)

/-- 'fairwaylaw4.PropNumbers': WHATEVER THE INPUT: true; the input reads as it did. -/
def propNumbersSpec : ChangeSpec := { name := "propNumbers", fn := fun _ => fun
  | [d] => { results := [.lit (.bool true)], args := [d] }
  | _ => none }
def propNumbersRow : OpenClaim := { program := "ytiancopplinpcaadoor", sum := "76481ac2fb3f5013ee53f3bac82b1a68e979f90d470e3d9ca717b8a5bd1f7017", func := "fairway/fairwaylaw4.PropNumbers", spec := "propNumbers", unfollowed := true, recurses := true, named := ["unicode/utf8.first", "unicode/utf8.acceptRanges"], apart := false, laid := [("unicode/utf8.acceptRanges", laid_unicode_utf8_acceptRanges), ("unicode/utf8.first", laid_unicode_utf8_first)] }
def PropNumbersSaid : Prop := propNumbersRow.holds Tryd.pinned (OpenSpec.ofChange propNumbersSpec)

/-- ITS FALSE NEIGHBOUR: 'it returns false'. Refute it at one input. -/
def propNumbersWrong : ChangeSpec := { name := "propNumbers", fn := fun _ => fun
  | [d] => { results := [.lit (.bool false)], args := [d] }
  | _ => none }
def PropNumbersWrongFalsely : Prop := propNumbersRow.holds Tryd.pinned (OpenSpec.ofChange propNumbersWrong)

/-- 'fairwaylaw4.PropTexts': WHATEVER THE INPUT: true; the input reads as it did. -/
def propTextsSpec : ChangeSpec := { name := "propTexts", fn := fun _ => fun
  | [d] => { results := [.lit (.bool true)], args := [d] }
  | _ => none }
def propTextsRow : OpenClaim := { program := "ytiancopplinpcaadoor", sum := "76481ac2fb3f5013ee53f3bac82b1a68e979f90d470e3d9ca717b8a5bd1f7017", func := "fairway/fairwaylaw4.PropTexts", spec := "propTexts", unfollowed := true, recurses := true, named := ["unicode/utf8.first", "unicode/utf8.acceptRanges"], apart := false, laid := [("unicode/utf8.acceptRanges", laid_unicode_utf8_acceptRanges), ("unicode/utf8.first", laid_unicode_utf8_first)] }
def PropTextsSaid : Prop := propTextsRow.holds Tryd.pinned (OpenSpec.ofChange propTextsSpec)

/-- ITS FALSE NEIGHBOUR: 'it returns false'. Refute it at one input. -/
def propTextsWrong : ChangeSpec := { name := "propTexts", fn := fun _ => fun
  | [d] => { results := [.lit (.bool false)], args := [d] }
  | _ => none }
def PropTextsWrongFalsely : Prop := propTextsRow.holds Tryd.pinned (OpenSpec.ofChange propTextsWrong)

/-- 'fairwaylaw4.PropPairs': WHATEVER THE INPUT: true; the input reads as it did. -/
def propPairsSpec : ChangeSpec := { name := "propPairs", fn := fun _ => fun
  | [d] => { results := [.lit (.bool true)], args := [d] }
  | _ => none }
def propPairsRow : OpenClaim := { program := "ytiancopplinpcaadoor", sum := "76481ac2fb3f5013ee53f3bac82b1a68e979f90d470e3d9ca717b8a5bd1f7017", func := "fairway/fairwaylaw4.PropPairs", spec := "propPairs", unfollowed := true, recurses := true, named := ["unicode/utf8.first", "unicode/utf8.acceptRanges"], apart := false, laid := [("unicode/utf8.acceptRanges", laid_unicode_utf8_acceptRanges), ("unicode/utf8.first", laid_unicode_utf8_first)] }
def PropPairsSaid : Prop := propPairsRow.holds Tryd.pinned (OpenSpec.ofChange propPairsSpec)

/-- ITS FALSE NEIGHBOUR: 'it returns false'. Refute it at one input. -/
def propPairsWrong : ChangeSpec := { name := "propPairs", fn := fun _ => fun
  | [d] => { results := [.lit (.bool false)], args := [d] }
  | _ => none }
def PropPairsWrongFalsely : Prop := propPairsRow.holds Tryd.pinned (OpenSpec.ofChange propPairsWrong)

/- THE SECOND FORM. 'bulk': how many values and letters a reading holds, each counted each time it is reached (what is shared counts as often as it is met; a slice's spare places count too). A statement '..UptoSaid' is the law's where the arguments, and the package variables that the reading takes, are together of bulk at most 1048576: NARROWER than '..Said'. Prove '..Said' where nothing that the law and all that it calls make is longer than what came in: it says more and counts as full. Else prove '..UptoSaid'. A law counts once. -/
mutual
def uptoBulk {H : Type} : DataW H → Nat
  | .lit (.string bytes) => bytes.length + 1
  | .lit _ => 1
  | .nil => 1
  | .ptr d => uptoBulk d + 1
  | .slice elems spare => uptoBulkAll elems + uptoBulkAll spare + 1
  | .agg parts => uptoBulkAll parts + 1
  | .iface _ d => uptoBulk d + 1
  | .map entries => uptoBulkEntries entries + 1
  | .held _ => 1
def uptoBulkAll {H : Type} : List (DataW H) → Nat
  | [] => 0
  | d :: r => uptoBulk d + uptoBulkAll r
def uptoBulkEntries {H : Type} : List (Lit × DataW H) → Nat
  | [] => 0
  | x :: r => uptoBulkEntry x + uptoBulkEntries r
def uptoBulkEntry {H : Type} : Lit × DataW H → Nat
  | (.string bytes, d) => bytes.length + uptoBulk d + 1
  | (_, d) => uptoBulk d + 1
 end
def uptoSmall : (H : Type) → List (DataW H) → Bool := fun _ ds => decide (uptoBulkAll ds ≤ 1048576)
def OpenSpec.upto (s : _root_.Go.ChangeSpec) : _root_.Go.OpenSpec := { _root_.Go.OpenSpec.ofChange s with cond := some uptoSmall }

/-- 'fairwaylaw4.PropKinds', WHERE WHAT IT READS IS OF BULK AT MOST 1048576: true; the input reads as it did. -/
def propKindsUptoRow : OpenClaim := { program := "ytiancopplinpcaadoor", sum := "76481ac2fb3f5013ee53f3bac82b1a68e979f90d470e3d9ca717b8a5bd1f7017", func := "fairway/fairwaylaw4.PropKinds", spec := "propKinds", unfollowed := true, recurses := true, named := ["unicode/utf8.first", "unicode/utf8.acceptRanges"], apart := false, laid := [("unicode/utf8.acceptRanges", laid_unicode_utf8_acceptRanges), ("unicode/utf8.first", laid_unicode_utf8_first)], narrowed := true }
def PropKindsUptoSaid : Prop := propKindsUptoRow.holds Tryd.pinned (OpenSpec.upto propKindsSpec)

/-- 'fairwaylaw4.PropBytes', WHERE WHAT IT READS IS OF BULK AT MOST 1048576: true; the input reads as it did. -/
def propBytesUptoRow : OpenClaim := { program := "ytiancopplinpcaadoor", sum := "76481ac2fb3f5013ee53f3bac82b1a68e979f90d470e3d9ca717b8a5bd1f7017", func := "fairway/fairwaylaw4.PropBytes", spec := "propBytes", unfollowed := true, recurses := true, named := ["unicode/utf8.first", "unicode/utf8.acceptRanges"], apart := false, laid := [("unicode/utf8.acceptRanges", laid_unicode_utf8_acceptRanges), ("unicode/utf8.first", laid_unicode_utf8_first)], narrowed := true }
def PropBytesUptoSaid : Prop := propBytesUptoRow.holds Tryd.pinned (OpenSpec.upto propBytesSpec)

/-- 'fairwaylaw4.PropOnce', WHERE WHAT IT READS IS OF BULK AT MOST 1048576: true; the input reads as it did. -/
def propOnceUptoRow : OpenClaim := { program := "ytiancopplinpcaadoor", sum := "76481ac2fb3f5013ee53f3bac82b1a68e979f90d470e3d9ca717b8a5bd1f7017", func := "fairway/fairwaylaw4.PropOnce", spec := "propOnce", unfollowed := true, recurses := true, named := ["unicode/utf8.first", "unicode/utf8.acceptRanges"], apart := false, laid := [("unicode/utf8.acceptRanges", laid_unicode_utf8_acceptRanges), ("unicode/utf8.first", laid_unicode_utf8_first)], narrowed := true }
def PropOnceUptoSaid : Prop := propOnceUptoRow.holds Tryd.pinned (OpenSpec.upto propOnceSpec)

/-- 'fairwaylaw4.PropTakes', WHERE WHAT IT READS IS OF BULK AT MOST 1048576: true; the input reads as it did. -/
def propTakesUptoRow : OpenClaim := { program := "ytiancopplinpcaadoor", sum := "76481ac2fb3f5013ee53f3bac82b1a68e979f90d470e3d9ca717b8a5bd1f7017", func := "fairway/fairwaylaw4.PropTakes", spec := "propTakes", unfollowed := true, recurses := true, named := ["unicode/utf8.first", "unicode/utf8.acceptRanges"], apart := false, laid := [("unicode/utf8.acceptRanges", laid_unicode_utf8_acceptRanges), ("unicode/utf8.first", laid_unicode_utf8_first)], narrowed := true }
def PropTakesUptoSaid : Prop := propTakesUptoRow.holds Tryd.pinned (OpenSpec.upto propTakesSpec)

/-- 'fairwaylaw4.PropBack', WHERE WHAT IT READS IS OF BULK AT MOST 1048576: true; the input reads as it did. -/
def propBackUptoRow : OpenClaim := { program := "ytiancopplinpcaadoor", sum := "76481ac2fb3f5013ee53f3bac82b1a68e979f90d470e3d9ca717b8a5bd1f7017", func := "fairway/fairwaylaw4.PropBack", spec := "propBack", unfollowed := true, recurses := true, named := ["unicode/utf8.first", "unicode/utf8.acceptRanges"], apart := false, laid := [("unicode/utf8.acceptRanges", laid_unicode_utf8_acceptRanges), ("unicode/utf8.first", laid_unicode_utf8_first)], narrowed := true }
def PropBackUptoSaid : Prop := propBackUptoRow.holds Tryd.pinned (OpenSpec.upto propBackSpec)

/-- 'fairwaylaw4.PropNumbers', WHERE WHAT IT READS IS OF BULK AT MOST 1048576: true; the input reads as it did. -/
def propNumbersUptoRow : OpenClaim := { program := "ytiancopplinpcaadoor", sum := "76481ac2fb3f5013ee53f3bac82b1a68e979f90d470e3d9ca717b8a5bd1f7017", func := "fairway/fairwaylaw4.PropNumbers", spec := "propNumbers", unfollowed := true, recurses := true, named := ["unicode/utf8.first", "unicode/utf8.acceptRanges"], apart := false, laid := [("unicode/utf8.acceptRanges", laid_unicode_utf8_acceptRanges), ("unicode/utf8.first", laid_unicode_utf8_first)], narrowed := true }
def PropNumbersUptoSaid : Prop := propNumbersUptoRow.holds Tryd.pinned (OpenSpec.upto propNumbersSpec)

/-- 'fairwaylaw4.PropTexts', WHERE WHAT IT READS IS OF BULK AT MOST 1048576: true; the input reads as it did. -/
def propTextsUptoRow : OpenClaim := { program := "ytiancopplinpcaadoor", sum := "76481ac2fb3f5013ee53f3bac82b1a68e979f90d470e3d9ca717b8a5bd1f7017", func := "fairway/fairwaylaw4.PropTexts", spec := "propTexts", unfollowed := true, recurses := true, named := ["unicode/utf8.first", "unicode/utf8.acceptRanges"], apart := false, laid := [("unicode/utf8.acceptRanges", laid_unicode_utf8_acceptRanges), ("unicode/utf8.first", laid_unicode_utf8_first)], narrowed := true }
def PropTextsUptoSaid : Prop := propTextsUptoRow.holds Tryd.pinned (OpenSpec.upto propTextsSpec)

/-- 'fairwaylaw4.PropPairs', WHERE WHAT IT READS IS OF BULK AT MOST 1048576: true; the input reads as it did. -/
def propPairsUptoRow : OpenClaim := { program := "ytiancopplinpcaadoor", sum := "76481ac2fb3f5013ee53f3bac82b1a68e979f90d470e3d9ca717b8a5bd1f7017", func := "fairway/fairwaylaw4.PropPairs", spec := "propPairs", unfollowed := true, recurses := true, named := ["unicode/utf8.first", "unicode/utf8.acceptRanges"], apart := false, laid := [("unicode/utf8.acceptRanges", laid_unicode_utf8_acceptRanges), ("unicode/utf8.first", laid_unicode_utf8_first)], narrowed := true }
def PropPairsUptoSaid : Prop := propPairsUptoRow.holds Tryd.pinned (OpenSpec.upto propPairsSpec)

end Rows
end Go.Proofs.YtiancopplinpcaaDoor
