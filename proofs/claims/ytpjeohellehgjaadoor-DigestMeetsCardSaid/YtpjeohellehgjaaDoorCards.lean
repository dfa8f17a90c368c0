/-
  DERIVED. GIVEN WITH THE SEED: THE CARDS: each row of YtpjeohellehgjaaDoorRows.lean that lists a variable, with what it lists TIED to the program's text (the seventh form; the later family's looks); each row that meets fmt, with fmt's text TOLD by the authors' own Lean function (tested against real Go, not proved from fmt's source: count such statements apart). THE CARD IS WHAT COUNTS. Prove the row's statement (the work); the ties are given (YtpjeohellehgjaaDoorTie.lean); close each card by the builder's one call (the guide's Derived/Test/ToyasCard.lean, 'card_holds'). Laid BY PROGRAM, IN A SANDBOX (cutbox-door.mjs). By AI agents, Wed Nov 11 2026. No macro, syntax, notation, axiom, sorry.
-/
import Derived.Test.YtpjeohellehgjaaDoorRows
import GoSem.ClaimSeven
namespace Go.Proofs.YtpjeohellehgjaaDoor
namespace Rows

/-- THE TIED CARD OF 'cantonlaw14.DigestAny'. -/
def digestAnyCard : Claim7 := { stood := { row := digestAnyRow, standIns := [], harness := (true, "66185d9deaeb697fa885d33992fcbf9f7ed9b33f563166d1bd320abc79c0d1d7"), looks := false }, kinds := [], alts := [], laidByText := true, laidKinds := [.data, .pinned], laidTests := true, laidLooks := .later }
def DigestAnyCardSaid : Prop := Claim7.holds Tryd.pinned (.plain (OpenSpec.ofChange digestAnySpec)) digestAnyCard

/-- THE TIED CARD OF 'cantonlaw14.DigestSelf'. -/
def digestSelfCard : Claim7 := { stood := { row := digestSelfRow, standIns := [], harness := (true, "66185d9deaeb697fa885d33992fcbf9f7ed9b33f563166d1bd320abc79c0d1d7"), looks := false }, kinds := [], alts := [], laidByText := true, laidKinds := [.data, .pinned], laidTests := true, laidLooks := .later }
def DigestSelfCardSaid : Prop := Claim7.holds Tryd.pinned (.plain (OpenSpec.ofChange digestSelfSpec)) digestSelfCard

/-- THE TIED CARD OF 'cantonlaw14.DigestMeets'. -/
def digestMeetsCard : Claim7 := { stood := { row := digestMeetsRow, standIns := [], harness := (true, "66185d9deaeb697fa885d33992fcbf9f7ed9b33f563166d1bd320abc79c0d1d7"), looks := false }, kinds := [], alts := [], laidByText := true, laidKinds := [.data, .pinned], laidTests := true, laidLooks := .later }
def DigestMeetsCardSaid : Prop := Claim7.holds Tryd.pinned (.plain (OpenSpec.ofChange digestMeetsSpec)) digestMeetsCard

/-- THE TIED CARD OF 'cantonlaw15.ElectAny'. -/
def electAnyCard : Claim7 := { stood := { row := electAnyRow, standIns := [], harness := (true, "66185d9deaeb697fa885d33992fcbf9f7ed9b33f563166d1bd320abc79c0d1d7"), looks := false }, kinds := [], alts := [], laidByText := true, laidKinds := [.data, .pinned], laidTests := true, laidLooks := .later }
def ElectAnyCardSaid : Prop := Claim7.holds Tryd.pinned (.plain (OpenSpec.ofChange electAnySpec)) electAnyCard

/-- THE TIED CARD OF 'cantonlaw15.ElectOne'. -/
def electOneCard : Claim7 := { stood := { row := electOneRow, standIns := [], harness := (true, "66185d9deaeb697fa885d33992fcbf9f7ed9b33f563166d1bd320abc79c0d1d7"), looks := false }, kinds := [], alts := [], laidByText := true, laidKinds := [.data, .pinned], laidTests := true, laidLooks := .later }
def ElectOneCardSaid : Prop := Claim7.holds Tryd.pinned (.plain (OpenSpec.ofChange electOneSpec)) electOneCard

/-- THE TIED CARD OF 'cantonlaw15.ElectLeast'. -/
def electLeastCard : Claim7 := { stood := { row := electLeastRow, standIns := [], harness := (true, "66185d9deaeb697fa885d33992fcbf9f7ed9b33f563166d1bd320abc79c0d1d7"), looks := false }, kinds := [], alts := [], laidByText := true, laidKinds := [.data, .pinned], laidTests := true, laidLooks := .later }
def ElectLeastCardSaid : Prop := Claim7.holds Tryd.pinned (.plain (OpenSpec.ofChange electLeastSpec)) electLeastCard

/-- THE SECOND FORM's CARD OF 'cantonlaw14.DigestAny'. -/
def digestAnyUptoCard : Claim7 := { stood := { row := digestAnyUptoRow, standIns := [], harness := (true, "66185d9deaeb697fa885d33992fcbf9f7ed9b33f563166d1bd320abc79c0d1d7"), looks := false }, kinds := [], alts := [], laidByText := true, laidKinds := [.data, .pinned], laidTests := true, laidLooks := .later }
def DigestAnyUptoCardSaid : Prop := Claim7.holds Tryd.pinned (.plain (OpenSpec.upto digestAnySpec)) digestAnyUptoCard

/-- THE SECOND FORM's CARD OF 'cantonlaw14.DigestSelf'. -/
def digestSelfUptoCard : Claim7 := { stood := { row := digestSelfUptoRow, standIns := [], harness := (true, "66185d9deaeb697fa885d33992fcbf9f7ed9b33f563166d1bd320abc79c0d1d7"), looks := false }, kinds := [], alts := [], laidByText := true, laidKinds := [.data, .pinned], laidTests := true, laidLooks := .later }
def DigestSelfUptoCardSaid : Prop := Claim7.holds Tryd.pinned (.plain (OpenSpec.upto digestSelfSpec)) digestSelfUptoCard

/-- THE SECOND FORM's CARD OF 'cantonlaw14.DigestMeets'. -/
def digestMeetsUptoCard : Claim7 := { stood := { row := digestMeetsUptoRow, standIns := [], harness := (true, "66185d9deaeb697fa885d33992fcbf9f7ed9b33f563166d1bd320abc79c0d1d7"), looks := false }, kinds := [], alts := [], laidByText := true, laidKinds := [.data, .pinned], laidTests := true, laidLooks := .later }
def DigestMeetsUptoCardSaid : Prop := Claim7.holds Tryd.pinned (.plain (OpenSpec.upto digestMeetsSpec)) digestMeetsUptoCard

/-- THE SECOND FORM's CARD OF 'cantonlaw15.ElectAny'. -/
def electAnyUptoCard : Claim7 := { stood := { row := electAnyUptoRow, standIns := [], harness := (true, "66185d9deaeb697fa885d33992fcbf9f7ed9b33f563166d1bd320abc79c0d1d7"), looks := false }, kinds := [], alts := [], laidByText := true, laidKinds := [.data, .pinned], laidTests := true, laidLooks := .later }
def ElectAnyUptoCardSaid : Prop := Claim7.holds Tryd.pinned (.plain (OpenSpec.upto electAnySpec)) electAnyUptoCard

/-- THE SECOND FORM's CARD OF 'cantonlaw15.ElectOne'. -/
def electOneUptoCard : Claim7 := { stood := { row := electOneUptoRow, standIns := [], harness := (true, "66185d9deaeb697fa885d33992fcbf9f7ed9b33f563166d1bd320abc79c0d1d7"), looks := false }, kinds := [], alts := [], laidByText := true, laidKinds := [.data, .pinned], laidTests := true, laidLooks := .later }
def ElectOneUptoCardSaid : Prop := Claim7.holds Tryd.pinned (.plain (OpenSpec.upto electOneSpec)) electOneUptoCard

/-- THE SECOND FORM's CARD OF 'cantonlaw15.ElectLeast'. -/
def electLeastUptoCard : Claim7 := { stood := { row := electLeastUptoRow, standIns := [], harness := (true, "66185d9deaeb697fa885d33992fcbf9f7ed9b33f563166d1bd320abc79c0d1d7"), looks := false }, kinds := [], alts := [], laidByText := true, laidKinds := [.data, .pinned], laidTests := true, laidLooks := .later }
def ElectLeastUptoCardSaid : Prop := Claim7.holds Tryd.pinned (.plain (OpenSpec.upto electLeastSpec)) electLeastUptoCard
end Rows
end Go.Proofs.YtpjeohellehgjaaDoor
