/-
  NARROWER THAN 'FOR EVERY INPUT', by the rows' own cells (each row's printed sentence says how): SpanMakes: laid · SpanSums: laid · SpanProducts: laid · SpanSets: laid · SpanNarrows: laid · SpanRings: laid · SpanTells: laid · SpanParts: laid · SpanKnown: laid.
  DERIVED. THE GIVEN ROWS OF THIS SEAT. 9 by the template 'for every input the law returns true; each argument reads behind the call as it read before'; 0 by the template 'total and deterministic' (their statements: YtpdaigenffecmaaDoorTotals.lean).
  GIVEN WITH THE SEED: the statements are not yours to turn. If you find one false, say at which input.
  Laid BY PROGRAM, IN A SANDBOX (cutbox-rows.mjs): the forced cells as the released guide's own fill.sh prints them over the translation e36ee9c2d6277135… (all of the seat's roots in one cut). By AI agents, Wed Nov 11 2026. No macro, syntax, notation, axiom, sorry.
-/
import Derived.Test.YtpdaigenffecmaaDoorChecked
import GoSem.Claim
import GoSem.ClaimJoined
import GoSem.ClaimMapViews
import Derived.JoinedTies
import Derived.KernelRfl
namespace Go.Proofs.YtpdaigenffecmaaDoor
/- THE CELL 'sum', in the pinned program and in every row, IS THE sha256 OF THE DUMP (.gsa) THAT YtpdaigenffecmaaDoorProg.lean LOADS. Nothing in Lean hashes anything: it is a label: what it is worth is what the hold of that sum in a sandbox is worth. -/
noncomputable def Tryd.pinned : Pinned := { name := "ytpdaigenffecmaadoor", sum := "e36ee9c2d627713537cc3d0a8ce9705d2294cd4ae7f5c632e29cd4ecb1cd5ced", checked := Tryd.checked }
namespace Rows
def none {H : Type} : Left H := { results := [], args := [] }

/- WHAT THE LISTED PACKAGE-LEVEL VARIABLES READ AS WHEN THE CALL BEGINS. Each datum BY PROGRAM (the guide's laid-datum.mjs) off the statement by which the dump's own 'gosem.cut.vars' lays the variable. In a bare row this is a premise. The card (YtpdaigenffecmaaDoorCards.lean) ties it to the program's text. -/
def laid_monocle_fix_powers {H : Type} : DataW H := .agg [.lit (.int .u64 1), .lit (.int .u64 10), .lit (.int .u64 100), .lit (.int .u64 1000), .lit (.int .u64 10000), .lit (.int .u64 100000), .lit (.int .u64 1000000), .lit (.int .u64 10000000), .lit (.int .u64 100000000), .lit (.int .u64 1000000000), .lit (.int .u64 10000000000), .lit (.int .u64 100000000000), .lit (.int .u64 1000000000000)]

/-- 'monoclelaw02.SpanMakes': WHATEVER THE INPUT: true; the input reads as it did. -/
def spanMakesSpec : ChangeSpec := { name := "spanMakes", fn := fun _ => fun
  | [d1, d2, d3, d4] => { results := [.lit (.bool true)], args := [d1, d2, d3, d4] }
  | _ => none }
def spanMakesRow : OpenClaim := { program := "ytpdaigenffecmaadoor", sum := "e36ee9c2d627713537cc3d0a8ce9705d2294cd4ae7f5c632e29cd4ecb1cd5ced", func := "monocle/monoclelaw02.SpanMakes", spec := "spanMakes", inPlace := ["math/bits.Add64"], unfollowed := true, recurses := true, named := ["math/bits.divideError", "math/bits.overflowError", "monocle/fix.powers"], apart := false, laid := [("monocle/fix.powers", laid_monocle_fix_powers)] }
def SpanMakesSaid : Prop := spanMakesRow.holds Tryd.pinned (OpenSpec.ofChange spanMakesSpec)

/-- ITS FALSE NEIGHBOUR: 'it returns false'. Refute it at one input. -/
def spanMakesWrong : ChangeSpec := { name := "spanMakes", fn := fun _ => fun
  | [d1, d2, d3, d4] => { results := [.lit (.bool false)], args := [d1, d2, d3, d4] }
  | _ => none }
def SpanMakesWrongFalsely : Prop := spanMakesRow.holds Tryd.pinned (OpenSpec.ofChange spanMakesWrong)

/-- 'monoclelaw02.SpanSums': WHATEVER THE INPUT: true; the input reads as it did. -/
def spanSumsSpec : ChangeSpec := { name := "spanSums", fn := fun _ => fun
  | [d] => { results := [.lit (.bool true)], args := [d] }
  | _ => none }
def spanSumsRow : OpenClaim := { program := "ytpdaigenffecmaadoor", sum := "e36ee9c2d627713537cc3d0a8ce9705d2294cd4ae7f5c632e29cd4ecb1cd5ced", func := "monocle/monoclelaw02.SpanSums", spec := "spanSums", inPlace := ["math/bits.Add64"], unfollowed := true, recurses := true, named := ["math/bits.divideError", "math/bits.overflowError", "monocle/fix.powers"], apart := false, laid := [("monocle/fix.powers", laid_monocle_fix_powers)] }
def SpanSumsSaid : Prop := spanSumsRow.holds Tryd.pinned (OpenSpec.ofChange spanSumsSpec)

/-- ITS FALSE NEIGHBOUR: 'it returns false'. Refute it at one input. -/
def spanSumsWrong : ChangeSpec := { name := "spanSums", fn := fun _ => fun
  | [d] => { results := [.lit (.bool false)], args := [d] }
  | _ => none }
def SpanSumsWrongFalsely : Prop := spanSumsRow.holds Tryd.pinned (OpenSpec.ofChange spanSumsWrong)

/-- 'monoclelaw02.SpanProducts': WHATEVER THE INPUT: true; the input reads as it did. -/
def spanProductsSpec : ChangeSpec := { name := "spanProducts", fn := fun _ => fun
  | [d1, d2] => { results := [.lit (.bool true)], args := [d1, d2] }
  | _ => none }
def spanProductsRow : OpenClaim := { program := "ytpdaigenffecmaadoor", sum := "e36ee9c2d627713537cc3d0a8ce9705d2294cd4ae7f5c632e29cd4ecb1cd5ced", func := "monocle/monoclelaw02.SpanProducts", spec := "spanProducts", inPlace := ["math/bits.Add64"], unfollowed := true, recurses := true, named := ["math/bits.divideError", "math/bits.overflowError", "monocle/fix.powers"], apart := false, laid := [("monocle/fix.powers", laid_monocle_fix_powers)] }
def SpanProductsSaid : Prop := spanProductsRow.holds Tryd.pinned (OpenSpec.ofChange spanProductsSpec)

/-- ITS FALSE NEIGHBOUR: 'it returns false'. Refute it at one input. -/
def spanProductsWrong : ChangeSpec := { name := "spanProducts", fn := fun _ => fun
  | [d1, d2] => { results := [.lit (.bool false)], args := [d1, d2] }
  | _ => none }
def SpanProductsWrongFalsely : Prop := spanProductsRow.holds Tryd.pinned (OpenSpec.ofChange spanProductsWrong)

/-- 'monoclelaw02.SpanSets': WHATEVER THE INPUT: true; the input reads as it did. -/
def spanSetsSpec : ChangeSpec := { name := "spanSets", fn := fun _ => fun
  | [d] => { results := [.lit (.bool true)], args := [d] }
  | _ => none }
def spanSetsRow : OpenClaim := { program := "ytpdaigenffecmaadoor", sum := "e36ee9c2d627713537cc3d0a8ce9705d2294cd4ae7f5c632e29cd4ecb1cd5ced", func := "monocle/monoclelaw02.SpanSets", spec := "spanSets", inPlace := ["math/bits.Add64"], unfollowed := true, recurses := true, named := ["math/bits.divideError", "math/bits.overflowError", "monocle/fix.powers"], apart := false, laid := [("monocle/fix.powers", laid_monocle_fix_powers)] }
def SpanSetsSaid : Prop := spanSetsRow.holds Tryd.pinned (OpenSpec.ofChange spanSetsSpec)

/-- ITS FALSE NEIGHBOUR: 'it returns false'. Refute it at one input. -/
def spanSetsWrong : ChangeSpec := { name := "spanSets", fn := fun _ => fun
  | [d] => { results := [.lit (.bool false)], args := [d] }
  | _ => none }
def SpanSetsWrongFalsely : Prop := spanSetsRow.holds Tryd.pinned (OpenSpec.ofChange spanSetsWrong)

/-- 'monoclelaw02.SpanNarrows': WHATEVER THE INPUT: true; the input reads as it did. -/
def spanNarrowsSpec : ChangeSpec := { name := "spanNarrows", fn := fun _ => fun
  | [d1, d2, d3, d4] => { results := [.lit (.bool true)], args := [d1, d2, d3, d4] }
  | _ => none }
def spanNarrowsRow : OpenClaim := { program := "ytpdaigenffecmaadoor", sum := "e36ee9c2d627713537cc3d0a8ce9705d2294cd4ae7f5c632e29cd4ecb1cd5ced", func := "monocle/monoclelaw02.SpanNarrows", spec := "spanNarrows", inPlace := ["math/bits.Add64"], unfollowed := true, recurses := true, named := ["math/bits.divideError", "math/bits.overflowError", "monocle/fix.powers"], apart := false, laid := [("monocle/fix.powers", laid_monocle_fix_powers)] }
def SpanNarrowsSaid : Prop := spanNarrowsRow.holds Tryd.pinned (OpenSpec.ofChange spanNarrowsSpec)

/-- ITS FALSE NEIGHBOUR: 'it returns false'. Refute it at one input. -/
def spanNarrowsWrong : ChangeSpec := { name := "spanNarrows", fn := fun _ => fun
  | [d1, d2, d3, d4] => { results := [.lit (.bool false)], args := [d1, d2, d3, d4] }
  | _ => none }
def SpanNarrowsWrongFalsely : Prop := spanNarrowsRow.holds Tryd.pinned (OpenSpec.ofChange spanNarrowsWrong)

/-- 'monoclelaw02.SpanRings': WHATEVER THE INPUT: true; the input reads as it did. -/
def spanRingsSpec : ChangeSpec := { name := "spanRings", fn := fun _ => fun
  | [d] => { results := [.lit (.bool true)], args := [d] }
  | _ => none }
def spanRingsRow : OpenClaim := { program := "ytpdaigenffecmaadoor", sum := "e36ee9c2d627713537cc3d0a8ce9705d2294cd4ae7f5c632e29cd4ecb1cd5ced", func := "monocle/monoclelaw02.SpanRings", spec := "spanRings", inPlace := ["math/bits.Add64"], unfollowed := true, recurses := true, named := ["math/bits.divideError", "math/bits.overflowError", "monocle/fix.powers"], apart := false, laid := [("monocle/fix.powers", laid_monocle_fix_powers)] }
def SpanRingsSaid : Prop := spanRingsRow.holds Tryd.pinned (OpenSpec.ofChange spanRingsSpec)

/-- ITS FALSE NEIGHBOUR: 'it returns false'. Refute it at one input. -/
def spanRingsWrong : ChangeSpec := { name := "spanRings", fn := fun _ => fun
  | [d] => { results := [.lit (.bool false)], args := [d] }
  | _ => none }
def SpanRingsWrongFalsely : Prop := spanRingsRow.holds Tryd.pinned (OpenSpec.ofChange spanRingsWrong)

/-- 'monoclelaw02.SpanTells': WHATEVER THE INPUT: true; the input reads as it did. -/
def spanTellsSpec : ChangeSpec := { name := "spanTells", fn := fun _ => fun
  | [d1, d2] => { results := [.lit (.bool true)], args := [d1, d2] }
  | _ => none }
def spanTellsRow : OpenClaim := { program := "ytpdaigenffecmaadoor", sum := "e36ee9c2d627713537cc3d0a8ce9705d2294cd4ae7f5c632e29cd4ecb1cd5ced", func := "monocle/monoclelaw02.SpanTells", spec := "spanTells", inPlace := ["math/bits.Add64"], unfollowed := true, recurses := true, named := ["math/bits.divideError", "math/bits.overflowError", "monocle/fix.powers"], apart := false, laid := [("monocle/fix.powers", laid_monocle_fix_powers)] }
def SpanTellsSaid : Prop := spanTellsRow.holds Tryd.pinned (OpenSpec.ofChange spanTellsSpec)

/-- ITS FALSE NEIGHBOUR: 'it returns false'. Refute it at one input. -/
def spanTellsWrong : ChangeSpec := { name := "spanTells", fn := fun _ => fun
  | [d1, d2] => { results := [.lit (.bool false)], args := [d1, d2] }
  | _ => none }
def SpanTellsWrongFalsely : Prop := spanTellsRow.holds Tryd.pinned (OpenSpec.ofChange spanTellsWrong)

/-- 'monoclelaw02.SpanParts': WHATEVER THE INPUT: true; the input reads as it did. -/
def spanPartsSpec : ChangeSpec := { name := "spanParts", fn := fun _ => fun
  | [d1, d2] => { results := [.lit (.bool true)], args := [d1, d2] }
  | _ => none }
def spanPartsRow : OpenClaim := { program := "ytpdaigenffecmaadoor", sum := "e36ee9c2d627713537cc3d0a8ce9705d2294cd4ae7f5c632e29cd4ecb1cd5ced", func := "monocle/monoclelaw02.SpanParts", spec := "spanParts", inPlace := ["math/bits.Add64"], unfollowed := true, recurses := true, named := ["math/bits.divideError", "math/bits.overflowError", "monocle/fix.powers"], apart := false, laid := [("monocle/fix.powers", laid_monocle_fix_powers)] }
def SpanPartsSaid : Prop := spanPartsRow.holds Tryd.pinned (OpenSpec.ofChange spanPartsSpec)

/-- ITS FALSE NEIGHBOUR: 'it returns false'. Refute it at one input. -/
def spanPartsWrong : ChangeSpec := { name := "spanParts", fn := fun _ => fun
  | [d1, d2] => { results := [.lit (.bool false)], args := [d1, d2] }
  | _ => none }
def SpanPartsWrongFalsely : Prop := spanPartsRow.holds Tryd.pinned (OpenSpec.ofChange spanPartsWrong)

/-- 'monoclelaw02.SpanKnown': WHATEVER THE INPUT: true; the input reads as it did. -/
def spanKnownSpec : ChangeSpec := { name := "spanKnown", fn := fun _ => fun
  | [] => { results := [.lit (.bool true)], args := [] }
  | _ => none }
def spanKnownRow : OpenClaim := { program := "ytpdaigenffecmaadoor", sum := "e36ee9c2d627713537cc3d0a8ce9705d2294cd4ae7f5c632e29cd4ecb1cd5ced", func := "monocle/monoclelaw02.SpanKnown", spec := "spanKnown", inPlace := ["math/bits.Add64"], unfollowed := true, recurses := true, named := ["math/bits.divideError", "math/bits.overflowError", "monocle/fix.powers"], apart := false, laid := [("monocle/fix.powers", laid_monocle_fix_powers)] }
def SpanKnownSaid : Prop := spanKnownRow.holds Tryd.pinned (OpenSpec.ofChange spanKnownSpec)

/-- ITS FALSE NEIGHBOUR: 'it returns false'. Refute it at one input. -/
def spanKnownWrong : ChangeSpec := { name := "spanKnown", fn := fun _ => fun
  | [] => { results := [.lit (.bool false)], args := [] }
  | _ => none }
def SpanKnownWrongFalsely : Prop := spanKnownRow.holds Tryd.pinned (OpenSpec.ofChange spanKnownWrong)

/- THE SECOND FORM. 'bulk': how many values and letters a reading holds, each counted each time it is reached (what is shared counts as often as it is met; a slice's spare places count too). A statement '..UptoSaid' is the law's where the arguments, and the package variables that the reading takes, are together of bulk at most 1048576: NARROWER than '..Said'. Prove '..Said' where nothing that the law and all that it calls make is longer than what came in: it says more and counts as full. Else prove '..UptoSaid'. A law counts once. -/
mutual
def uptoBulk {H : Type} : DataW H → Nat
  | .lit (.string bytes) => bytes.length + 1
  | .lit _ => 1
  | .nil => 1
  | .ptr d => uptoBulk d + 1
  | .slice elems spare => uptoBulkAll elems + uptoBulkAll spare + 1
  | .agg parts => uptoBulkAll parts + 1
  | .iface _ d => uptoBulk d + 1
  | .map entries => uptoBulkEntries entries + 1
  | .held _ => 1
def uptoBulkAll {H : Type} : List (DataW H) → Nat
  | [] => 0
  | d :: r => uptoBulk d + uptoBulkAll r
def uptoBulkEntries {H : Type} : List (Lit × DataW H) → Nat
  | [] => 0
  | x :: r => uptoBulkEntry x + uptoBulkEntries r
def uptoBulkEntry {H : Type} : Lit × DataW H → Nat
  | (.string bytes, d) => bytes.length + uptoBulk d + 1
  | (_, d) => uptoBulk d + 1
 end
def uptoSmall : (H : Type) → List (DataW H) → Bool := fun _ ds => decide (uptoBulkAll ds ≤ 1048576)
def OpenSpec.upto (s : _root_.Go.ChangeSpec) : _root_.Go.OpenSpec := { _root_.Go.OpenSpec.ofChange s with cond := some uptoSmall }

/-- 'monoclelaw02.SpanMakes', WHERE WHAT IT READS IS OF BULK AT MOST 1048576: true; the input reads as it did. -/
def spanMakesUptoRow : OpenClaim := { program := "ytpdaigenffecmaadoor", sum := "e36ee9c2d627713537cc3d0a8ce9705d2294cd4ae7f5c632e29cd4ecb1cd5ced", func := "monocle/monoclelaw02.SpanMakes", spec := "spanMakes", inPlace := ["math/bits.Add64"], unfollowed := true, recurses := true, named := ["math/bits.divideError", "math/bits.overflowError", "monocle/fix.powers"], apart := false, laid := [("monocle/fix.powers", laid_monocle_fix_powers)], narrowed := true }
def SpanMakesUptoSaid : Prop := spanMakesUptoRow.holds Tryd.pinned (OpenSpec.upto spanMakesSpec)

/-- 'monoclelaw02.SpanSums', WHERE WHAT IT READS IS OF BULK AT MOST 1048576: true; the input reads as it did. -/
def spanSumsUptoRow : OpenClaim := { program := "ytpdaigenffecmaadoor", sum := "e36ee9c2d627713537cc3d0a8ce9705d2294cd4ae7f5c632e29cd4ecb1cd5ced", func := "monocle/monoclelaw02.SpanSums", spec := "spanSums", inPlace := ["math/bits.Add64"], unfollowed := true, recurses := true, named := ["math/bits.divideError", "math/bits.overflowError", "monocle/fix.powers"], apart := false, laid := [("monocle/fix.powers", laid_monocle_fix_powers)], narrowed := true }
def SpanSumsUptoSaid : Prop := spanSumsUptoRow.holds Tryd.pinned (OpenSpec.upto spanSumsSpec)

/-- 'monoclelaw02.SpanProducts', WHERE WHAT IT READS IS OF BULK AT MOST 1048576: true; the input reads as it did. -/
def spanProductsUptoRow : OpenClaim := { program := "ytpdaigenffecmaadoor", sum := "e36ee9c2d627713537cc3d0a8ce9705d2294cd4ae7f5c632e29cd4ecb1cd5ced", func := "monocle/monoclelaw02.SpanProducts", spec := "spanProducts", inPlace := ["math/bits.Add64"], unfollowed := true, recurses := true, named := ["math/bits.divideError", "math/bits.overflowError", "monocle/fix.powers"], apart := false, laid := [("monocle/fix.powers", laid_monocle_fix_powers)], narrowed := true }
def SpanProductsUptoSaid : Prop := spanProductsUptoRow.holds Tryd.pinned (OpenSpec.upto spanProductsSpec)

/-- 'monoclelaw02.SpanSets', WHERE WHAT IT READS IS OF BULK AT MOST 1048576: true; the input reads as it did. -/
def spanSetsUptoRow : OpenClaim := { program := "ytpdaigenffecmaadoor", sum := "e36ee9c2d627713537cc3d0a8ce9705d2294cd4ae7f5c632e29cd4ecb1cd5ced", func := "monocle/monoclelaw02.SpanSets", spec := "spanSets", inPlace := ["math/bits.Add64"], unfollowed := true, recurses := true, named := ["math/bits.divideError", "math/bits.overflowError", "monocle/fix.powers"], apart := false, laid := [("monocle/fix.powers", laid_monocle_fix_powers)], narrowed := true }
def SpanSetsUptoSaid : Prop := spanSetsUptoRow.holds Tryd.pinned (OpenSpec.upto spanSetsSpec)

/-- 'monoclelaw02.SpanNarrows', WHERE WHAT IT READS IS OF BULK AT MOST 1048576: true; the input reads as it did. -/
def spanNarrowsUptoRow : OpenClaim := { program := "ytpdaigenffecmaadoor", sum := "e36ee9c2d627713537cc3d0a8ce9705d2294cd4ae7f5c632e29cd4ecb1cd5ced", func := "monocle/monoclelaw02.SpanNarrows", spec := "spanNarrows", inPlace := ["math/bits.Add64"], unfollowed := true, recurses := true, named := ["math/bits.divideError", "math/bits.overflowError", "monocle/fix.powers"], apart := false, laid := [("monocle/fix.powers", laid_monocle_fix_powers)], narrowed := true }
def SpanNarrowsUptoSaid : Prop := spanNarrowsUptoRow.holds Tryd.pinned (OpenSpec.upto spanNarrowsSpec)

/-- 'monoclelaw02.SpanRings', WHERE WHAT IT READS IS OF BULK AT MOST 1048576: true; the input reads as it did. -/
def spanRingsUptoRow : OpenClaim := { program := "ytpdaigenffecmaadoor", sum := "e36ee9c2d627713537cc3d0a8ce9705d2294cd4ae7f5c632e29cd4ecb1cd5ced", func := "monocle/monoclelaw02.SpanRings", spec := "spanRings", inPlace := ["math/bits.Add64"], unfollowed := true, recurses := true, named := ["math/bits.divideError", "math/bits.overflowError", "monocle/fix.powers"], apart := false, laid := [("monocle/fix.powers", laid_monocle_fix_powers)], narrowed := true }
def SpanRingsUptoSaid : Prop := spanRingsUptoRow.holds Tryd.pinned (OpenSpec.upto spanRingsSpec)

/-- 'monoclelaw02.SpanTells', WHERE WHAT IT READS IS OF BULK AT MOST 1048576: true; the input reads as it did. -/
def spanTellsUptoRow : OpenClaim := { program := "ytpdaigenffecmaadoor", sum := "e36ee9c2d627713537cc3d0a8ce9705d2294cd4ae7f5c632e29cd4ecb1cd5ced", func := "monocle/monoclelaw02.SpanTells", spec := "spanTells", inPlace := ["math/bits.Add64"], unfollowed := true, recurses := true, named := ["math/bits.divideError", "math/bits.overflowError", "monocle/fix.powers"], apart := false, laid := [("monocle/fix.powers", laid_monocle_fix_powers)], narrowed := true }
def SpanTellsUptoSaid : Prop := spanTellsUptoRow.holds Tryd.pinned (OpenSpec.upto spanTellsSpec)

/-- 'monoclelaw02.SpanParts', WHERE WHAT IT READS IS OF BULK AT MOST 1048576: true; the input reads as it did. -/
def spanPartsUptoRow : OpenClaim := { program := "ytpdaigenffecmaadoor", sum := "e36ee9c2d627713537cc3d0a8ce9705d2294cd4ae7f5c632e29cd4ecb1cd5ced", func := "monocle/monoclelaw02.SpanParts", spec := "spanParts", inPlace := ["math/bits.Add64"], unfollowed := true, recurses := true, named := ["math/bits.divideError", "math/bits.overflowError", "monocle/fix.powers"], apart := false, laid := [("monocle/fix.powers", laid_monocle_fix_powers)], narrowed := true }
def SpanPartsUptoSaid : Prop := spanPartsUptoRow.holds Tryd.pinned (OpenSpec.upto spanPartsSpec)

/-- 'monoclelaw02.SpanKnown', WHERE WHAT IT READS IS OF BULK AT MOST 1048576: true; the input reads as it did. -/
def spanKnownUptoRow : OpenClaim := { program := "ytpdaigenffecmaadoor", sum := "e36ee9c2d627713537cc3d0a8ce9705d2294cd4ae7f5c632e29cd4ecb1cd5ced", func := "monocle/monoclelaw02.SpanKnown", spec := "spanKnown", inPlace := ["math/bits.Add64"], unfollowed := true, recurses := true, named := ["math/bits.divideError", "math/bits.overflowError", "monocle/fix.powers"], apart := false, laid := [("monocle/fix.powers", laid_monocle_fix_powers)], narrowed := true }
def SpanKnownUptoSaid : Prop := spanKnownUptoRow.holds Tryd.pinned (OpenSpec.upto spanKnownSpec)

end Rows
end Go.Proofs.YtpdaigenffecmaaDoor
