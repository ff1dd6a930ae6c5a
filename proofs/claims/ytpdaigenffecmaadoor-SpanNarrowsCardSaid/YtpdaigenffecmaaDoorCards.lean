/-
  DERIVED. GIVEN WITH THE SEED: THE CARDS: each row of YtpdaigenffecmaaDoorRows.lean that lists a variable, with what it lists TIED to the program's text (the seventh form; the later family's looks); each row that meets fmt, with fmt's text TOLD by the authors' own Lean function (tested against real Go, not proved from fmt's source: count such statements apart). THE CARD IS WHAT COUNTS. Prove the row's statement (the work); the ties are given (YtpdaigenffecmaaDoorTie.lean); close each card by the builder's one call (the guide's Derived/Test/ToyasCard.lean, 'card_holds'). Laid BY PROGRAM, IN A SANDBOX (cutbox-door.mjs). By AI agents, Wed Nov 11 2026. No macro, syntax, notation, axiom, sorry.
-/
import Derived.Test.YtpdaigenffecmaaDoorRows
import GoSem.ClaimSeven
namespace Go.Proofs.YtpdaigenffecmaaDoor
namespace Rows

/-- THE TIED CARD OF 'monoclelaw02.SpanMakes'. -/
def spanMakesCard : Claim7 := { stood := { row := spanMakesRow, standIns := [], harness := (true, "976aad9f6f03122610a9785d53a1f55882d169dac09a6b6a73a9aa5ef3933005"), looks := false }, kinds := [], alts := [], laidByText := true, laidKinds := [.data], laidTests := true, laidLooks := .later }
def SpanMakesCardSaid : Prop := Claim7.holds Tryd.pinned (.plain (OpenSpec.ofChange spanMakesSpec)) spanMakesCard

/-- THE TIED CARD OF 'monoclelaw02.SpanSums'. -/
def spanSumsCard : Claim7 := { stood := { row := spanSumsRow, standIns := [], harness := (true, "976aad9f6f03122610a9785d53a1f55882d169dac09a6b6a73a9aa5ef3933005"), looks := false }, kinds := [], alts := [], laidByText := true, laidKinds := [.data], laidTests := true, laidLooks := .later }
def SpanSumsCardSaid : Prop := Claim7.holds Tryd.pinned (.plain (OpenSpec.ofChange spanSumsSpec)) spanSumsCard

/-- THE TIED CARD OF 'monoclelaw02.SpanProducts'. -/
def spanProductsCard : Claim7 := { stood := { row := spanProductsRow, standIns := [], harness := (true, "976aad9f6f03122610a9785d53a1f55882d169dac09a6b6a73a9aa5ef3933005"), looks := false }, kinds := [], alts := [], laidByText := true, laidKinds := [.data], laidTests := true, laidLooks := .later }
def SpanProductsCardSaid : Prop := Claim7.holds Tryd.pinned (.plain (OpenSpec.ofChange spanProductsSpec)) spanProductsCard

/-- THE TIED CARD OF 'monoclelaw02.SpanSets'. -/
def spanSetsCard : Claim7 := { stood := { row := spanSetsRow, standIns := [], harness := (true, "976aad9f6f03122610a9785d53a1f55882d169dac09a6b6a73a9aa5ef3933005"), looks := false }, kinds := [], alts := [], laidByText := true, laidKinds := [.data], laidTests := true, laidLooks := .later }
def SpanSetsCardSaid : Prop := Claim7.holds Tryd.pinned (.plain (OpenSpec.ofChange spanSetsSpec)) spanSetsCard

/-- THE TIED CARD OF 'monoclelaw02.SpanNarrows'. -/
def spanNarrowsCard : Claim7 := { stood := { row := spanNarrowsRow, standIns := [], harness := (true, "976aad9f6f03122610a9785d53a1f55882d169dac09a6b6a73a9aa5ef3933005"), looks := false }, kinds := [], alts := [], laidByText := true, laidKinds := [.data], laidTests := true, laidLooks := .later }
def SpanNarrowsCardSaid : Prop := Claim7.holds Tryd.pinned (.plain (OpenSpec.ofChange spanNarrowsSpec)) spanNarrowsCard

/-- THE TIED CARD OF 'monoclelaw02.SpanRings'. -/
def spanRingsCard : Claim7 := { stood := { row := spanRingsRow, standIns := [], harness := (true, "976aad9f6f03122610a9785d53a1f55882d169dac09a6b6a73a9aa5ef3933005"), looks := false }, kinds := [], alts := [], laidByText := true, laidKinds := [.data], laidTests := true, laidLooks := .later }
def SpanRingsCardSaid : Prop := Claim7.holds Tryd.pinned (.plain (OpenSpec.ofChange spanRingsSpec)) spanRingsCard

/-- THE TIED CARD OF 'monoclelaw02.SpanTells'. -/
def spanTellsCard : Claim7 := { stood := { row := spanTellsRow, standIns := [], harness := (true, "976aad9f6f03122610a9785d53a1f55882d169dac09a6b6a73a9aa5ef3933005"), looks := false }, kinds := [], alts := [], laidByText := true, laidKinds := [.data], laidTests := true, laidLooks := .later }
def SpanTellsCardSaid : Prop := Claim7.holds Tryd.pinned (.plain (OpenSpec.ofChange spanTellsSpec)) spanTellsCard

/-- THE TIED CARD OF 'monoclelaw02.SpanParts'. -/
def spanPartsCard : Claim7 := { stood := { row := spanPartsRow, standIns := [], harness := (true, "976aad9f6f03122610a9785d53a1f55882d169dac09a6b6a73a9aa5ef3933005"), looks := false }, kinds := [], alts := [], laidByText := true, laidKinds := [.data], laidTests := true, laidLooks := .later }
def SpanPartsCardSaid : Prop := Claim7.holds Tryd.pinned (.plain (OpenSpec.ofChange spanPartsSpec)) spanPartsCard

/-- THE TIED CARD OF 'monoclelaw02.SpanKnown'. -/
def spanKnownCard : Claim7 := { stood := { row := spanKnownRow, standIns := [], harness := (true, "976aad9f6f03122610a9785d53a1f55882d169dac09a6b6a73a9aa5ef3933005"), looks := false }, kinds := [], alts := [], laidByText := true, laidKinds := [.data], laidTests := true, laidLooks := .later }
def SpanKnownCardSaid : Prop := Claim7.holds Tryd.pinned (.plain (OpenSpec.ofChange spanKnownSpec)) spanKnownCard

/-- THE SECOND FORM's CARD OF 'monoclelaw02.SpanMakes'. -/
def spanMakesUptoCard : Claim7 := { stood := { row := spanMakesUptoRow, standIns := [], harness := (true, "976aad9f6f03122610a9785d53a1f55882d169dac09a6b6a73a9aa5ef3933005"), looks := false }, kinds := [], alts := [], laidByText := true, laidKinds := [.data], laidTests := true, laidLooks := .later }
def SpanMakesUptoCardSaid : Prop := Claim7.holds Tryd.pinned (.plain (OpenSpec.upto spanMakesSpec)) spanMakesUptoCard

/-- THE SECOND FORM's CARD OF 'monoclelaw02.SpanSums'. -/
def spanSumsUptoCard : Claim7 := { stood := { row := spanSumsUptoRow, standIns := [], harness := (true, "976aad9f6f03122610a9785d53a1f55882d169dac09a6b6a73a9aa5ef3933005"), looks := false }, kinds := [], alts := [], laidByText := true, laidKinds := [.data], laidTests := true, laidLooks := .later }
def SpanSumsUptoCardSaid : Prop := Claim7.holds Tryd.pinned (.plain (OpenSpec.upto spanSumsSpec)) spanSumsUptoCard

/-- THE SECOND FORM's CARD OF 'monoclelaw02.SpanProducts'. -/
def spanProductsUptoCard : Claim7 := { stood := { row := spanProductsUptoRow, standIns := [], harness := (true, "976aad9f6f03122610a9785d53a1f55882d169dac09a6b6a73a9aa5ef3933005"), looks := false }, kinds := [], alts := [], laidByText := true, laidKinds := [.data], laidTests := true, laidLooks := .later }
def SpanProductsUptoCardSaid : Prop := Claim7.holds Tryd.pinned (.plain (OpenSpec.upto spanProductsSpec)) spanProductsUptoCard

/-- THE SECOND FORM's CARD OF 'monoclelaw02.SpanSets'. -/
def spanSetsUptoCard : Claim7 := { stood := { row := spanSetsUptoRow, standIns := [], harness := (true, "976aad9f6f03122610a9785d53a1f55882d169dac09a6b6a73a9aa5ef3933005"), looks := false }, kinds := [], alts := [], laidByText := true, laidKinds := [.data], laidTests := true, laidLooks := .later }
def SpanSetsUptoCardSaid : Prop := Claim7.holds Tryd.pinned (.plain (OpenSpec.upto spanSetsSpec)) spanSetsUptoCard

/-- THE SECOND FORM's CARD OF 'monoclelaw02.SpanNarrows'. -/
def spanNarrowsUptoCard : Claim7 := { stood := { row := spanNarrowsUptoRow, standIns := [], harness := (true, "976aad9f6f03122610a9785d53a1f55882d169dac09a6b6a73a9aa5ef3933005"), looks := false }, kinds := [], alts := [], laidByText := true, laidKinds := [.data], laidTests := true, laidLooks := .later }
def SpanNarrowsUptoCardSaid : Prop := Claim7.holds Tryd.pinned (.plain (OpenSpec.upto spanNarrowsSpec)) spanNarrowsUptoCard

/-- THE SECOND FORM's CARD OF 'monoclelaw02.SpanRings'. -/
def spanRingsUptoCard : Claim7 := { stood := { row := spanRingsUptoRow, standIns := [], harness := (true, "976aad9f6f03122610a9785d53a1f55882d169dac09a6b6a73a9aa5ef3933005"), looks := false }, kinds := [], alts := [], laidByText := true, laidKinds := [.data], laidTests := true, laidLooks := .later }
def SpanRingsUptoCardSaid : Prop := Claim7.holds Tryd.pinned (.plain (OpenSpec.upto spanRingsSpec)) spanRingsUptoCard

/-- THE SECOND FORM's CARD OF 'monoclelaw02.SpanTells'. -/
def spanTellsUptoCard : Claim7 := { stood := { row := spanTellsUptoRow, standIns := [], harness := (true, "976aad9f6f03122610a9785d53a1f55882d169dac09a6b6a73a9aa5ef3933005"), looks := false }, kinds := [], alts := [], laidByText := true, laidKinds := [.data], laidTests := true, laidLooks := .later }
def SpanTellsUptoCardSaid : Prop := Claim7.holds Tryd.pinned (.plain (OpenSpec.upto spanTellsSpec)) spanTellsUptoCard

/-- THE SECOND FORM's CARD OF 'monoclelaw02.SpanParts'. -/
def spanPartsUptoCard : Claim7 := { stood := { row := spanPartsUptoRow, standIns := [], harness := (true, "976aad9f6f03122610a9785d53a1f55882d169dac09a6b6a73a9aa5ef3933005"), looks := false }, kinds := [], alts := [], laidByText := true, laidKinds := [.data], laidTests := true, laidLooks := .later }
def SpanPartsUptoCardSaid : Prop := Claim7.holds Tryd.pinned (.plain (OpenSpec.upto spanPartsSpec)) spanPartsUptoCard

/-- THE SECOND FORM's CARD OF 'monoclelaw02.SpanKnown'. -/
def spanKnownUptoCard : Claim7 := { stood := { row := spanKnownUptoRow, standIns := [], harness := (true, "976aad9f6f03122610a9785d53a1f55882d169dac09a6b6a73a9aa5ef3933005"), looks := false }, kinds := [], alts := [], laidByText := true, laidKinds := [.data], laidTests := true, laidLooks := .later }
def SpanKnownUptoCardSaid : Prop := Claim7.holds Tryd.pinned (.plain (OpenSpec.upto spanKnownSpec)) spanKnownUptoCard
end Rows
end Go.Proofs.YtpdaigenffecmaaDoor
