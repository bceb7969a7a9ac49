/-
  DERIVED. GIVEN WITH THE SEED: THE CARDS: each row of YtfnkboilepgmoaaDoorRows.lean that lists a variable, with what it lists TIED to the program's text (the seventh form; the later family's looks); each row that meets fmt, with fmt's text TOLD by the authors' own Lean function (tested against real Go, not proved from fmt's source: count such statements apart). THE CARD IS WHAT COUNTS. Prove the row's statement (the work); the ties are given (YtfnkboilepgmoaaDoorTie.lean); close each card by the builder's one call (the guide's Derived/Test/ToyasCard.lean, 'card_holds'). Laid BY PROGRAM, IN A SANDBOX (cutbox-door.mjs). By AI agents, Wed Nov 11 2026. No macro, syntax, notation, axiom, sorry.
-/
import Derived.Test.YtfnkboilepgmoaaDoorRows
import GoSem.ClaimSeven
namespace Go.Proofs.YtfnkboilepgmoaaDoor
namespace Rows

/-- THE TIED CARD OF 'quoinlaw02.RunesOf'. -/
def runesOfCard : Claim7 := { stood := { row := runesOfRow, standIns := [], harness := (true, "858eae38c36fa535bc4adc20a6247c5c884fba3955728c3765da815b7ba146a1"), looks := false }, kinds := [], alts := [], laidByText := true, laidKinds := [.data, .data, .data], laidTests := true, laidLooks := .later }
def RunesOfCardSaid : Prop := Claim7.holds Tryd.pinned (.plain (OpenSpec.ofChange runesOfSpec)) runesOfCard

/-- THE TIED CARD OF 'quoinlaw02.RunesChecks'. -/
def runesChecksCard : Claim7 := { stood := { row := runesChecksRow, standIns := [], harness := (true, "858eae38c36fa535bc4adc20a6247c5c884fba3955728c3765da815b7ba146a1"), looks := false }, kinds := [], alts := [], laidByText := true, laidKinds := [.data, .data, .data], laidTests := true, laidLooks := .later }
def RunesChecksCardSaid : Prop := Claim7.holds Tryd.pinned (.plain (OpenSpec.ofChange runesChecksSpec)) runesChecksCard

/-- THE TIED CARD OF 'quoinlaw02.RunesWalks'. -/
def runesWalksCard : Claim7 := { stood := { row := runesWalksRow, standIns := [], harness := (true, "858eae38c36fa535bc4adc20a6247c5c884fba3955728c3765da815b7ba146a1"), looks := false }, kinds := [], alts := [], laidByText := true, laidKinds := [.data, .data, .data], laidTests := true, laidLooks := .later }
def RunesWalksCardSaid : Prop := Claim7.holds Tryd.pinned (.plain (OpenSpec.ofChange runesWalksSpec)) runesWalksCard

/-- THE TIED CARD OF 'quoinlaw02.RunesSets'. -/
def runesSetsCard : Claim7 := { stood := { row := runesSetsRow, standIns := [], harness := (true, "858eae38c36fa535bc4adc20a6247c5c884fba3955728c3765da815b7ba146a1"), looks := false }, kinds := [], alts := [], laidByText := true, laidKinds := [.data, .data, .data], laidTests := true, laidLooks := .later }
def RunesSetsCardSaid : Prop := Claim7.holds Tryd.pinned (.plain (OpenSpec.ofChange runesSetsSpec)) runesSetsCard

/-- THE TIED CARD OF 'quoinlaw02.RunesPairs'. -/
def runesPairsCard : Claim7 := { stood := { row := runesPairsRow, standIns := [], harness := (true, "858eae38c36fa535bc4adc20a6247c5c884fba3955728c3765da815b7ba146a1"), looks := false }, kinds := [], alts := [], laidByText := true, laidKinds := [.data, .data, .data], laidTests := true, laidLooks := .later }
def RunesPairsCardSaid : Prop := Claim7.holds Tryd.pinned (.plain (OpenSpec.ofChange runesPairsSpec)) runesPairsCard

/-- THE TIED CARD OF 'quoinlaw02.RunesAlgebra'. -/
def runesAlgebraCard : Claim7 := { stood := { row := runesAlgebraRow, standIns := [], harness := (true, "858eae38c36fa535bc4adc20a6247c5c884fba3955728c3765da815b7ba146a1"), looks := false }, kinds := [], alts := [], laidByText := true, laidKinds := [.data, .data, .data], laidTests := true, laidLooks := .later }
def RunesAlgebraCardSaid : Prop := Claim7.holds Tryd.pinned (.plain (OpenSpec.ofChange runesAlgebraSpec)) runesAlgebraCard

/-- THE TIED CARD OF 'quoinlaw02.RunesBack'. -/
def runesBackCard : Claim7 := { stood := { row := runesBackRow, standIns := [], harness := (true, "858eae38c36fa535bc4adc20a6247c5c884fba3955728c3765da815b7ba146a1"), looks := false }, kinds := [], alts := [], laidByText := true, laidKinds := [.data, .data, .data], laidTests := true, laidLooks := .later }
def RunesBackCardSaid : Prop := Claim7.holds Tryd.pinned (.plain (OpenSpec.ofChange runesBackSpec)) runesBackCard

/-- THE TIED CARD OF 'quoinlaw02.RunesCuts'. -/
def runesCutsCard : Claim7 := { stood := { row := runesCutsRow, standIns := [], harness := (true, "858eae38c36fa535bc4adc20a6247c5c884fba3955728c3765da815b7ba146a1"), looks := false }, kinds := [], alts := [], laidByText := true, laidKinds := [.data, .data, .data], laidTests := true, laidLooks := .later }
def RunesCutsCardSaid : Prop := Claim7.holds Tryd.pinned (.plain (OpenSpec.ofChange runesCutsSpec)) runesCutsCard

/-- THE TIED CARD OF 'quoinlaw02.RunesSplits'. -/
def runesSplitsCard : Claim7 := { stood := { row := runesSplitsRow, standIns := [], harness := (true, "858eae38c36fa535bc4adc20a6247c5c884fba3955728c3765da815b7ba146a1"), looks := false }, kinds := [], alts := [], laidByText := true, laidKinds := [.data, .data, .data], laidTests := true, laidLooks := .later }
def RunesSplitsCardSaid : Prop := Claim7.holds Tryd.pinned (.plain (OpenSpec.ofChange runesSplitsSpec)) runesSplitsCard

/-- THE TIED CARD OF 'quoinlaw02.RunesOwn'. -/
def runesOwnCard : Claim7 := { stood := { row := runesOwnRow, standIns := [], harness := (true, "858eae38c36fa535bc4adc20a6247c5c884fba3955728c3765da815b7ba146a1"), looks := false }, kinds := [], alts := [], laidByText := true, laidKinds := [.data, .data, .data], laidTests := true, laidLooks := .later }
def RunesOwnCardSaid : Prop := Claim7.holds Tryd.pinned (.plain (OpenSpec.ofChange runesOwnSpec)) runesOwnCard

/-- THE SECOND FORM's CARD OF 'quoinlaw02.RunesOf'. -/
def runesOfUptoCard : Claim7 := { stood := { row := runesOfUptoRow, standIns := [], harness := (true, "858eae38c36fa535bc4adc20a6247c5c884fba3955728c3765da815b7ba146a1"), looks := false }, kinds := [], alts := [], laidByText := true, laidKinds := [.data, .data, .data], laidTests := true, laidLooks := .later }
def RunesOfUptoCardSaid : Prop := Claim7.holds Tryd.pinned (.plain (OpenSpec.upto runesOfSpec)) runesOfUptoCard

/-- THE SECOND FORM's CARD OF 'quoinlaw02.RunesChecks'. -/
def runesChecksUptoCard : Claim7 := { stood := { row := runesChecksUptoRow, standIns := [], harness := (true, "858eae38c36fa535bc4adc20a6247c5c884fba3955728c3765da815b7ba146a1"), looks := false }, kinds := [], alts := [], laidByText := true, laidKinds := [.data, .data, .data], laidTests := true, laidLooks := .later }
def RunesChecksUptoCardSaid : Prop := Claim7.holds Tryd.pinned (.plain (OpenSpec.upto runesChecksSpec)) runesChecksUptoCard

/-- THE SECOND FORM's CARD OF 'quoinlaw02.RunesWalks'. -/
def runesWalksUptoCard : Claim7 := { stood := { row := runesWalksUptoRow, standIns := [], harness := (true, "858eae38c36fa535bc4adc20a6247c5c884fba3955728c3765da815b7ba146a1"), looks := false }, kinds := [], alts := [], laidByText := true, laidKinds := [.data, .data, .data], laidTests := true, laidLooks := .later }
def RunesWalksUptoCardSaid : Prop := Claim7.holds Tryd.pinned (.plain (OpenSpec.upto runesWalksSpec)) runesWalksUptoCard

/-- THE SECOND FORM's CARD OF 'quoinlaw02.RunesSets'. -/
def runesSetsUptoCard : Claim7 := { stood := { row := runesSetsUptoRow, standIns := [], harness := (true, "858eae38c36fa535bc4adc20a6247c5c884fba3955728c3765da815b7ba146a1"), looks := false }, kinds := [], alts := [], laidByText := true, laidKinds := [.data, .data, .data], laidTests := true, laidLooks := .later }
def RunesSetsUptoCardSaid : Prop := Claim7.holds Tryd.pinned (.plain (OpenSpec.upto runesSetsSpec)) runesSetsUptoCard

/-- THE SECOND FORM's CARD OF 'quoinlaw02.RunesPairs'. -/
def runesPairsUptoCard : Claim7 := { stood := { row := runesPairsUptoRow, standIns := [], harness := (true, "858eae38c36fa535bc4adc20a6247c5c884fba3955728c3765da815b7ba146a1"), looks := false }, kinds := [], alts := [], laidByText := true, laidKinds := [.data, .data, .data], laidTests := true, laidLooks := .later }
def RunesPairsUptoCardSaid : Prop := Claim7.holds Tryd.pinned (.plain (OpenSpec.upto runesPairsSpec)) runesPairsUptoCard

/-- THE SECOND FORM's CARD OF 'quoinlaw02.RunesAlgebra'. -/
def runesAlgebraUptoCard : Claim7 := { stood := { row := runesAlgebraUptoRow, standIns := [], harness := (true, "858eae38c36fa535bc4adc20a6247c5c884fba3955728c3765da815b7ba146a1"), looks := false }, kinds := [], alts := [], laidByText := true, laidKinds := [.data, .data, .data], laidTests := true, laidLooks := .later }
def RunesAlgebraUptoCardSaid : Prop := Claim7.holds Tryd.pinned (.plain (OpenSpec.upto runesAlgebraSpec)) runesAlgebraUptoCard

/-- THE SECOND FORM's CARD OF 'quoinlaw02.RunesBack'. -/
def runesBackUptoCard : Claim7 := { stood := { row := runesBackUptoRow, standIns := [], harness := (true, "858eae38c36fa535bc4adc20a6247c5c884fba3955728c3765da815b7ba146a1"), looks := false }, kinds := [], alts := [], laidByText := true, laidKinds := [.data, .data, .data], laidTests := true, laidLooks := .later }
def RunesBackUptoCardSaid : Prop := Claim7.holds Tryd.pinned (.plain (OpenSpec.upto runesBackSpec)) runesBackUptoCard

/-- THE SECOND FORM's CARD OF 'quoinlaw02.RunesCuts'. -/
def runesCutsUptoCard : Claim7 := { stood := { row := runesCutsUptoRow, standIns := [], harness := (true, "858eae38c36fa535bc4adc20a6247c5c884fba3955728c3765da815b7ba146a1"), looks := false }, kinds := [], alts := [], laidByText := true, laidKinds := [.data, .data, .data], laidTests := true, laidLooks := .later }
def RunesCutsUptoCardSaid : Prop := Claim7.holds Tryd.pinned (.plain (OpenSpec.upto runesCutsSpec)) runesCutsUptoCard

/-- THE SECOND FORM's CARD OF 'quoinlaw02.RunesSplits'. -/
def runesSplitsUptoCard : Claim7 := { stood := { row := runesSplitsUptoRow, standIns := [], harness := (true, "858eae38c36fa535bc4adc20a6247c5c884fba3955728c3765da815b7ba146a1"), looks := false }, kinds := [], alts := [], laidByText := true, laidKinds := [.data, .data, .data], laidTests := true, laidLooks := .later }
def RunesSplitsUptoCardSaid : Prop := Claim7.holds Tryd.pinned (.plain (OpenSpec.upto runesSplitsSpec)) runesSplitsUptoCard

/-- THE SECOND FORM's CARD OF 'quoinlaw02.RunesOwn'. -/
def runesOwnUptoCard : Claim7 := { stood := { row := runesOwnUptoRow, standIns := [], harness := (true, "858eae38c36fa535bc4adc20a6247c5c884fba3955728c3765da815b7ba146a1"), looks := false }, kinds := [], alts := [], laidByText := true, laidKinds := [.data, .data, .data], laidTests := true, laidLooks := .later }
def RunesOwnUptoCardSaid : Prop := Claim7.holds Tryd.pinned (.plain (OpenSpec.upto runesOwnSpec)) runesOwnUptoCard
end Rows
end Go.Proofs.YtfnkboilepgmoaaDoor
