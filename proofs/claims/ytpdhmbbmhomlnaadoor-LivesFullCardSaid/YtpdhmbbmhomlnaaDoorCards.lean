/-
  DERIVED. GIVEN WITH THE SEED: THE CARDS: each row of YtpdhmbbmhomlnaaDoorRows.lean that lists a variable, with what it lists TIED to the program's text (the seventh form; the later family's looks); each row that meets fmt, with fmt's text TOLD by the authors' own Lean function (tested against real Go, not proved from fmt's source: count such statements apart). THE CARD IS WHAT COUNTS. Prove the row's statement (the work); the ties are given (YtpdhmbbmhomlnaaDoorTie.lean); close each card by the builder's one call (the guide's Derived/Test/ToyasCard.lean, 'card_holds'). Laid BY PROGRAM, IN A SANDBOX (cutbox-door.mjs). By AI agents, Wed Nov 11 2026. No macro, syntax, notation, axiom, sorry.
-/
import Derived.Test.YtpdhmbbmhomlnaaDoorRows
import GoSem.ClaimSeven
namespace Go.Proofs.YtpdhmbbmhomlnaaDoor
namespace Rows

/-- THE TIED CARD OF 'cantonlaw22.LivesPlay'. -/
def livesPlayCard : Claim7 := { stood := { row := livesPlayRow, standIns := [], harness := (true, "88d381e01cbc9d236507a65c0e81bcf978a3c0b6cf90d36e6c6fc551b81b24f8"), looks := false }, kinds := [], alts := [], laidByText := true, laidKinds := [.data, .pinned], laidTests := true, laidLooks := .later }
def LivesPlayCardSaid : Prop := Claim7.holds Tryd.pinned (.plain (OpenSpec.ofChange livesPlaySpec)) livesPlayCard

/-- THE TIED CARD OF 'cantonlaw22.LivesBytes'. -/
def livesBytesCard : Claim7 := { stood := { row := livesBytesRow, standIns := [], harness := (true, "88d381e01cbc9d236507a65c0e81bcf978a3c0b6cf90d36e6c6fc551b81b24f8"), looks := false }, kinds := [], alts := [], laidByText := true, laidKinds := [.data, .pinned], laidTests := true, laidLooks := .later }
def LivesBytesCardSaid : Prop := Claim7.holds Tryd.pinned (.plain (OpenSpec.ofChange livesBytesSpec)) livesBytesCard

/-- THE TIED CARD OF 'cantonlaw22.LivesRise'. -/
def livesRiseCard : Claim7 := { stood := { row := livesRiseRow, standIns := [], harness := (true, "88d381e01cbc9d236507a65c0e81bcf978a3c0b6cf90d36e6c6fc551b81b24f8"), looks := false }, kinds := [], alts := [], laidByText := true, laidKinds := [.data, .pinned], laidTests := true, laidLooks := .later }
def LivesRiseCardSaid : Prop := Claim7.holds Tryd.pinned (.plain (OpenSpec.ofChange livesRiseSpec)) livesRiseCard

/-- THE TIED CARD OF 'cantonlaw22.LivesFull'. -/
def livesFullCard : Claim7 := { stood := { row := livesFullRow, standIns := [], harness := (true, "88d381e01cbc9d236507a65c0e81bcf978a3c0b6cf90d36e6c6fc551b81b24f8"), looks := false }, kinds := [], alts := [], laidByText := true, laidKinds := [.data, .pinned], laidTests := true, laidLooks := .later }
def LivesFullCardSaid : Prop := Claim7.holds Tryd.pinned (.plain (OpenSpec.ofChange livesFullSpec)) livesFullCard

/-- THE SECOND FORM's CARD OF 'cantonlaw22.LivesPlay'. -/
def livesPlayUptoCard : Claim7 := { stood := { row := livesPlayUptoRow, standIns := [], harness := (true, "88d381e01cbc9d236507a65c0e81bcf978a3c0b6cf90d36e6c6fc551b81b24f8"), looks := false }, kinds := [], alts := [], laidByText := true, laidKinds := [.data, .pinned], laidTests := true, laidLooks := .later }
def LivesPlayUptoCardSaid : Prop := Claim7.holds Tryd.pinned (.plain (OpenSpec.upto livesPlaySpec)) livesPlayUptoCard

/-- THE SECOND FORM's CARD OF 'cantonlaw22.LivesBytes'. -/
def livesBytesUptoCard : Claim7 := { stood := { row := livesBytesUptoRow, standIns := [], harness := (true, "88d381e01cbc9d236507a65c0e81bcf978a3c0b6cf90d36e6c6fc551b81b24f8"), looks := false }, kinds := [], alts := [], laidByText := true, laidKinds := [.data, .pinned], laidTests := true, laidLooks := .later }
def LivesBytesUptoCardSaid : Prop := Claim7.holds Tryd.pinned (.plain (OpenSpec.upto livesBytesSpec)) livesBytesUptoCard

/-- THE SECOND FORM's CARD OF 'cantonlaw22.LivesRise'. -/
def livesRiseUptoCard : Claim7 := { stood := { row := livesRiseUptoRow, standIns := [], harness := (true, "88d381e01cbc9d236507a65c0e81bcf978a3c0b6cf90d36e6c6fc551b81b24f8"), looks := false }, kinds := [], alts := [], laidByText := true, laidKinds := [.data, .pinned], laidTests := true, laidLooks := .later }
def LivesRiseUptoCardSaid : Prop := Claim7.holds Tryd.pinned (.plain (OpenSpec.upto livesRiseSpec)) livesRiseUptoCard

/-- THE SECOND FORM's CARD OF 'cantonlaw22.LivesFull'. -/
def livesFullUptoCard : Claim7 := { stood := { row := livesFullUptoRow, standIns := [], harness := (true, "88d381e01cbc9d236507a65c0e81bcf978a3c0b6cf90d36e6c6fc551b81b24f8"), looks := false }, kinds := [], alts := [], laidByText := true, laidKinds := [.data, .pinned], laidTests := true, laidLooks := .later }
def LivesFullUptoCardSaid : Prop := Claim7.holds Tryd.pinned (.plain (OpenSpec.upto livesFullSpec)) livesFullUptoCard
end Rows
end Go.Proofs.YtpdhmbbmhomlnaaDoor
