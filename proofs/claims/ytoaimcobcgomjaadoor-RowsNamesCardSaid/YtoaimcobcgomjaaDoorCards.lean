/-
  DERIVED. GIVEN WITH THE SEED: THE CARDS: each row of YtoaimcobcgomjaaDoorRows.lean that lists a variable, with what it lists TIED to the program's text (the seventh form; the later family's looks); each row that meets fmt, with fmt's text TOLD by the authors' own Lean function (tested against real Go, not proved from fmt's source: count such statements apart). THE CARD IS WHAT COUNTS. Prove the row's statement (the work); the ties are given (YtoaimcobcgomjaaDoorTie.lean); close each card by the builder's one call (the guide's Derived/Test/ToyasCard.lean, 'card_holds'). Laid BY PROGRAM, IN A SANDBOX (cutbox-door.mjs). By AI agents, Wed Nov 11 2026. No macro, syntax, notation, axiom, sorry.
-/
import Derived.Test.YtoaimcobcgomjaaDoorRows
import GoSem.ClaimSeven
namespace Go.Proofs.YtoaimcobcgomjaaDoor
namespace Rows

/-- THE TIED CARD OF 'beadrolllaw02.ShaTells'. -/
def shaTellsCard : Claim7 := { stood := { row := shaTellsRow, standIns := [], harness := (true, "8344bbe9ee45525bd58f0ee1b7f82b45133fb9582a1eccc73c9e39edb740b275"), looks := false }, kinds := [], alts := [], laidByText := true, laidKinds := [.data], laidTests := true, laidLooks := .later }
def ShaTellsCardSaid : Prop := Claim7.holds Tryd.pinned (.plain (OpenSpec.ofChange shaTellsSpec)) shaTellsCard

/-- THE TIED CARD OF 'beadrolllaw13.RowsNames'. -/
def rowsNamesCard : Claim7 := { stood := { row := rowsNamesRow, standIns := [], harness := (true, "8344bbe9ee45525bd58f0ee1b7f82b45133fb9582a1eccc73c9e39edb740b275"), looks := false }, kinds := [], alts := [], laidByText := true, laidKinds := [.data], laidTests := true, laidLooks := .later }
def RowsNamesCardSaid : Prop := Claim7.holds Tryd.pinned (.plain (OpenSpec.ofChange rowsNamesSpec)) rowsNamesCard

/-- THE TIED CARD OF 'beadrolllaw13.RowsTrue'. -/
def rowsTrueCard : Claim7 := { stood := { row := rowsTrueRow, standIns := [], harness := (true, "8344bbe9ee45525bd58f0ee1b7f82b45133fb9582a1eccc73c9e39edb740b275"), looks := false }, kinds := [], alts := [], laidByText := true, laidKinds := [.data], laidTests := true, laidLooks := .later }
def RowsTrueCardSaid : Prop := Claim7.holds Tryd.pinned (.plain (OpenSpec.ofChange rowsTrueSpec)) rowsTrueCard

/-- THE TIED CARD OF 'beadrolllaw02.ShaParts'. -/
def shaPartsCard : Claim7 := { stood := { row := shaPartsRow, standIns := [], harness := (true, "8344bbe9ee45525bd58f0ee1b7f82b45133fb9582a1eccc73c9e39edb740b275"), looks := false }, kinds := [], alts := [], laidByText := true, laidKinds := [.data], laidTests := true, laidLooks := .later }
def ShaPartsCardSaid : Prop := Claim7.holds Tryd.pinned (.plain (OpenSpec.ofChange shaPartsSpec)) shaPartsCard

/-- THE TIED CARD OF 'beadrolllaw02.ShaNames'. -/
def shaNamesCard : Claim7 := { stood := { row := shaNamesRow, standIns := [], harness := (true, "8344bbe9ee45525bd58f0ee1b7f82b45133fb9582a1eccc73c9e39edb740b275"), looks := false }, kinds := [], alts := [], laidByText := true, laidKinds := [.data], laidTests := true, laidLooks := .later }
def ShaNamesCardSaid : Prop := Claim7.holds Tryd.pinned (.plain (OpenSpec.ofChange shaNamesSpec)) shaNamesCard

/-- THE TIED CARD OF 'beadrolllaw02.ShaBack'. -/
def shaBackCard : Claim7 := { stood := { row := shaBackRow, standIns := [], harness := (true, "8344bbe9ee45525bd58f0ee1b7f82b45133fb9582a1eccc73c9e39edb740b275"), looks := false }, kinds := [], alts := [], laidByText := true, laidKinds := [.data], laidTests := true, laidLooks := .later }
def ShaBackCardSaid : Prop := Claim7.holds Tryd.pinned (.plain (OpenSpec.ofChange shaBackSpec)) shaBackCard

/-- THE TIED CARD OF 'beadrolllaw13.RowsFit'. -/
def rowsFitCard : Claim7 := { stood := { row := rowsFitRow, standIns := [], harness := (true, "8344bbe9ee45525bd58f0ee1b7f82b45133fb9582a1eccc73c9e39edb740b275"), looks := false }, kinds := [], alts := [], laidByText := true, laidKinds := [.data], laidTests := true, laidLooks := .later }
def RowsFitCardSaid : Prop := Claim7.holds Tryd.pinned (.plain (OpenSpec.ofChange rowsFitSpec)) rowsFitCard

/-- THE TIED CARD OF 'beadrolllaw13.RowsJoin'. -/
def rowsJoinCard : Claim7 := { stood := { row := rowsJoinRow, standIns := [], harness := (true, "8344bbe9ee45525bd58f0ee1b7f82b45133fb9582a1eccc73c9e39edb740b275"), looks := false }, kinds := [], alts := [], laidByText := true, laidKinds := [.data], laidTests := true, laidLooks := .later }
def RowsJoinCardSaid : Prop := Claim7.holds Tryd.pinned (.plain (OpenSpec.ofChange rowsJoinSpec)) rowsJoinCard

/-- THE TIED CARD OF 'beadrolllaw13.RowsTell'. -/
def rowsTellCard : Claim7 := { stood := { row := rowsTellRow, standIns := [], harness := (true, "8344bbe9ee45525bd58f0ee1b7f82b45133fb9582a1eccc73c9e39edb740b275"), looks := false }, kinds := [], alts := [], laidByText := true, laidKinds := [.data], laidTests := true, laidLooks := .later }
def RowsTellCardSaid : Prop := Claim7.holds Tryd.pinned (.plain (OpenSpec.ofChange rowsTellSpec)) rowsTellCard

/-- THE SECOND FORM's CARD OF 'beadrolllaw02.ShaTells'. -/
def shaTellsUptoCard : Claim7 := { stood := { row := shaTellsUptoRow, standIns := [], harness := (true, "8344bbe9ee45525bd58f0ee1b7f82b45133fb9582a1eccc73c9e39edb740b275"), looks := false }, kinds := [], alts := [], laidByText := true, laidKinds := [.data], laidTests := true, laidLooks := .later }
def ShaTellsUptoCardSaid : Prop := Claim7.holds Tryd.pinned (.plain (OpenSpec.upto shaTellsSpec)) shaTellsUptoCard

/-- THE SECOND FORM's CARD OF 'beadrolllaw13.RowsNames'. -/
def rowsNamesUptoCard : Claim7 := { stood := { row := rowsNamesUptoRow, standIns := [], harness := (true, "8344bbe9ee45525bd58f0ee1b7f82b45133fb9582a1eccc73c9e39edb740b275"), looks := false }, kinds := [], alts := [], laidByText := true, laidKinds := [.data], laidTests := true, laidLooks := .later }
def RowsNamesUptoCardSaid : Prop := Claim7.holds Tryd.pinned (.plain (OpenSpec.upto rowsNamesSpec)) rowsNamesUptoCard

/-- THE SECOND FORM's CARD OF 'beadrolllaw13.RowsTrue'. -/
def rowsTrueUptoCard : Claim7 := { stood := { row := rowsTrueUptoRow, standIns := [], harness := (true, "8344bbe9ee45525bd58f0ee1b7f82b45133fb9582a1eccc73c9e39edb740b275"), looks := false }, kinds := [], alts := [], laidByText := true, laidKinds := [.data], laidTests := true, laidLooks := .later }
def RowsTrueUptoCardSaid : Prop := Claim7.holds Tryd.pinned (.plain (OpenSpec.upto rowsTrueSpec)) rowsTrueUptoCard

/-- THE SECOND FORM's CARD OF 'beadrolllaw02.ShaParts'. -/
def shaPartsUptoCard : Claim7 := { stood := { row := shaPartsUptoRow, standIns := [], harness := (true, "8344bbe9ee45525bd58f0ee1b7f82b45133fb9582a1eccc73c9e39edb740b275"), looks := false }, kinds := [], alts := [], laidByText := true, laidKinds := [.data], laidTests := true, laidLooks := .later }
def ShaPartsUptoCardSaid : Prop := Claim7.holds Tryd.pinned (.plain (OpenSpec.upto shaPartsSpec)) shaPartsUptoCard

/-- THE SECOND FORM's CARD OF 'beadrolllaw02.ShaNames'. -/
def shaNamesUptoCard : Claim7 := { stood := { row := shaNamesUptoRow, standIns := [], harness := (true, "8344bbe9ee45525bd58f0ee1b7f82b45133fb9582a1eccc73c9e39edb740b275"), looks := false }, kinds := [], alts := [], laidByText := true, laidKinds := [.data], laidTests := true, laidLooks := .later }
def ShaNamesUptoCardSaid : Prop := Claim7.holds Tryd.pinned (.plain (OpenSpec.upto shaNamesSpec)) shaNamesUptoCard

/-- THE SECOND FORM's CARD OF 'beadrolllaw02.ShaBack'. -/
def shaBackUptoCard : Claim7 := { stood := { row := shaBackUptoRow, standIns := [], harness := (true, "8344bbe9ee45525bd58f0ee1b7f82b45133fb9582a1eccc73c9e39edb740b275"), looks := false }, kinds := [], alts := [], laidByText := true, laidKinds := [.data], laidTests := true, laidLooks := .later }
def ShaBackUptoCardSaid : Prop := Claim7.holds Tryd.pinned (.plain (OpenSpec.upto shaBackSpec)) shaBackUptoCard

/-- THE SECOND FORM's CARD OF 'beadrolllaw13.RowsFit'. -/
def rowsFitUptoCard : Claim7 := { stood := { row := rowsFitUptoRow, standIns := [], harness := (true, "8344bbe9ee45525bd58f0ee1b7f82b45133fb9582a1eccc73c9e39edb740b275"), looks := false }, kinds := [], alts := [], laidByText := true, laidKinds := [.data], laidTests := true, laidLooks := .later }
def RowsFitUptoCardSaid : Prop := Claim7.holds Tryd.pinned (.plain (OpenSpec.upto rowsFitSpec)) rowsFitUptoCard

/-- THE SECOND FORM's CARD OF 'beadrolllaw13.RowsJoin'. -/
def rowsJoinUptoCard : Claim7 := { stood := { row := rowsJoinUptoRow, standIns := [], harness := (true, "8344bbe9ee45525bd58f0ee1b7f82b45133fb9582a1eccc73c9e39edb740b275"), looks := false }, kinds := [], alts := [], laidByText := true, laidKinds := [.data], laidTests := true, laidLooks := .later }
def RowsJoinUptoCardSaid : Prop := Claim7.holds Tryd.pinned (.plain (OpenSpec.upto rowsJoinSpec)) rowsJoinUptoCard

/-- THE SECOND FORM's CARD OF 'beadrolllaw13.RowsTell'. -/
def rowsTellUptoCard : Claim7 := { stood := { row := rowsTellUptoRow, standIns := [], harness := (true, "8344bbe9ee45525bd58f0ee1b7f82b45133fb9582a1eccc73c9e39edb740b275"), looks := false }, kinds := [], alts := [], laidByText := true, laidKinds := [.data], laidTests := true, laidLooks := .later }
def RowsTellUptoCardSaid : Prop := Claim7.holds Tryd.pinned (.plain (OpenSpec.upto rowsTellSpec)) rowsTellUptoCard
end Rows
end Go.Proofs.YtoaimcobcgomjaaDoor
