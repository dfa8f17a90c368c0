/-
  DERIVED. GIVEN WITH THE SEED: THE CARDS: each row of YtbkficgmjgbbeaaDoorRows.lean that lists a variable, with what it lists TIED to the program's text (the seventh form; the later family's looks); each row that meets fmt, with fmt's text TOLD by the authors' own Lean function (tested against real Go, not proved from fmt's source: count such statements apart). THE CARD IS WHAT COUNTS. Prove the row's statement (the work); the ties are given (YtbkficgmjgbbeaaDoorTie.lean); close each card by the builder's one call (the guide's Derived/Test/ToyasCard.lean, 'card_holds'). Laid BY PROGRAM, IN A SANDBOX (cutbox-door.mjs). By AI agents, Wed Nov 11 2026. No macro, syntax, notation, axiom, sorry.
-/
import Derived.Test.YtbkficgmjgbbeaaDoorRows
import GoSem.ClaimSeven
namespace Go.Proofs.YtbkficgmjgbbeaaDoor
namespace Rows

/-- THE TIED CARD OF 'cantonlaw16.BookPlays'. -/
def bookPlaysCard : Claim7 := { stood := { row := bookPlaysRow, standIns := [], harness := (true, "d340a669bb1bd576ff003d9942e92dead5b9d8fe92629a431ac0efb85d3bf13f"), looks := false }, kinds := [], alts := [], laidByText := true, laidKinds := [.data, .pinned], laidTests := true, laidLooks := .later }
def BookPlaysCardSaid : Prop := Claim7.holds Tryd.pinned (.plain (OpenSpec.ofChange bookPlaysSpec)) bookPlaysCard

/-- THE TIED CARD OF 'cantonlaw16.BookTwo'. -/
def bookTwoCard : Claim7 := { stood := { row := bookTwoRow, standIns := [], harness := (true, "d340a669bb1bd576ff003d9942e92dead5b9d8fe92629a431ac0efb85d3bf13f"), looks := false }, kinds := [], alts := [], laidByText := true, laidKinds := [.data, .pinned], laidTests := true, laidLooks := .later }
def BookTwoCardSaid : Prop := Claim7.holds Tryd.pinned (.plain (OpenSpec.ofChange bookTwoSpec)) bookTwoCard

/-- THE TIED CARD OF 'cantonlaw16.BookFull'. -/
def bookFullCard : Claim7 := { stood := { row := bookFullRow, standIns := [], harness := (true, "d340a669bb1bd576ff003d9942e92dead5b9d8fe92629a431ac0efb85d3bf13f"), looks := false }, kinds := [], alts := [], laidByText := true, laidKinds := [.data, .pinned], laidTests := true, laidLooks := .later }
def BookFullCardSaid : Prop := Claim7.holds Tryd.pinned (.plain (OpenSpec.ofChange bookFullSpec)) bookFullCard

/-- THE TIED CARD OF 'cantonlaw16.BookNewest'. -/
def bookNewestCard : Claim7 := { stood := { row := bookNewestRow, standIns := [], harness := (true, "d340a669bb1bd576ff003d9942e92dead5b9d8fe92629a431ac0efb85d3bf13f"), looks := false }, kinds := [], alts := [], laidByText := true, laidKinds := [.data, .pinned], laidTests := true, laidLooks := .later }
def BookNewestCardSaid : Prop := Claim7.holds Tryd.pinned (.plain (OpenSpec.ofChange bookNewestSpec)) bookNewestCard

/-- THE SECOND FORM's CARD OF 'cantonlaw16.BookPlays'. -/
def bookPlaysUptoCard : Claim7 := { stood := { row := bookPlaysUptoRow, standIns := [], harness := (true, "d340a669bb1bd576ff003d9942e92dead5b9d8fe92629a431ac0efb85d3bf13f"), looks := false }, kinds := [], alts := [], laidByText := true, laidKinds := [.data, .pinned], laidTests := true, laidLooks := .later }
def BookPlaysUptoCardSaid : Prop := Claim7.holds Tryd.pinned (.plain (OpenSpec.upto bookPlaysSpec)) bookPlaysUptoCard

/-- THE SECOND FORM's CARD OF 'cantonlaw16.BookTwo'. -/
def bookTwoUptoCard : Claim7 := { stood := { row := bookTwoUptoRow, standIns := [], harness := (true, "d340a669bb1bd576ff003d9942e92dead5b9d8fe92629a431ac0efb85d3bf13f"), looks := false }, kinds := [], alts := [], laidByText := true, laidKinds := [.data, .pinned], laidTests := true, laidLooks := .later }
def BookTwoUptoCardSaid : Prop := Claim7.holds Tryd.pinned (.plain (OpenSpec.upto bookTwoSpec)) bookTwoUptoCard

/-- THE SECOND FORM's CARD OF 'cantonlaw16.BookFull'. -/
def bookFullUptoCard : Claim7 := { stood := { row := bookFullUptoRow, standIns := [], harness := (true, "d340a669bb1bd576ff003d9942e92dead5b9d8fe92629a431ac0efb85d3bf13f"), looks := false }, kinds := [], alts := [], laidByText := true, laidKinds := [.data, .pinned], laidTests := true, laidLooks := .later }
def BookFullUptoCardSaid : Prop := Claim7.holds Tryd.pinned (.plain (OpenSpec.upto bookFullSpec)) bookFullUptoCard

/-- THE SECOND FORM's CARD OF 'cantonlaw16.BookNewest'. -/
def bookNewestUptoCard : Claim7 := { stood := { row := bookNewestUptoRow, standIns := [], harness := (true, "d340a669bb1bd576ff003d9942e92dead5b9d8fe92629a431ac0efb85d3bf13f"), looks := false }, kinds := [], alts := [], laidByText := true, laidKinds := [.data, .pinned], laidTests := true, laidLooks := .later }
def BookNewestUptoCardSaid : Prop := Claim7.holds Tryd.pinned (.plain (OpenSpec.upto bookNewestSpec)) bookNewestUptoCard
end Rows
end Go.Proofs.YtbkficgmjgbbeaaDoor
