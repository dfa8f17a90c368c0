/-
  DERIVED. GIVEN WITH THE SEED: THE CARDS: each row of YtnlfnkblhnnaoaaDoorRows.lean that lists a variable, with what it lists TIED to the program's text (the seventh form; the later family's looks); each row that meets fmt, with fmt's text TOLD by the authors' own Lean function (tested against real Go, not proved from fmt's source: count such statements apart). THE CARD IS WHAT COUNTS. Prove the row's statement (the work); the ties are given (YtnlfnkblhnnaoaaDoorTie.lean); close each card by the builder's one call (the guide's Derived/Test/ToyasCard.lean, 'card_holds'). Laid BY PROGRAM, IN A SANDBOX (cutbox-door.mjs). By AI agents, Wed Nov 11 2026. No macro, syntax, notation, axiom, sorry.
-/
import Derived.Test.YtnlfnkblhnnaoaaDoorRows
import GoSem.ClaimSeven
namespace Go.Proofs.YtnlfnkblhnnaoaaDoor
namespace Rows

/-- THE TIED CARD OF 'cantonlaw6.PathAny'. -/
def pathAnyCard : Claim7 := { stood := { row := pathAnyRow, standIns := [], harness := (true, "2ee8bb27dc4c8360cf0f174590fbc31753e8007ce933f22da0d888b103cbb68a"), looks := false }, kinds := [], alts := [], laidByText := true, laidKinds := [.data, .pinned], laidTests := true, laidLooks := .later }
def PathAnyCardSaid : Prop := Claim7.holds Tryd.pinned (.plain (OpenSpec.ofChange pathAnySpec)) pathAnyCard

/-- THE TIED CARD OF 'cantonlaw6.PathTwo'. -/
def pathTwoCard : Claim7 := { stood := { row := pathTwoRow, standIns := [], harness := (true, "2ee8bb27dc4c8360cf0f174590fbc31753e8007ce933f22da0d888b103cbb68a"), looks := false }, kinds := [], alts := [], laidByText := true, laidKinds := [.data, .pinned], laidTests := true, laidLooks := .later }
def PathTwoCardSaid : Prop := Claim7.holds Tryd.pinned (.plain (OpenSpec.ofChange pathTwoSpec)) pathTwoCard

/-- THE TIED CARD OF 'cantonlaw6.PathZones'. -/
def pathZonesCard : Claim7 := { stood := { row := pathZonesRow, standIns := [], harness := (true, "2ee8bb27dc4c8360cf0f174590fbc31753e8007ce933f22da0d888b103cbb68a"), looks := false }, kinds := [], alts := [], laidByText := true, laidKinds := [.data, .pinned], laidTests := true, laidLooks := .later }
def PathZonesCardSaid : Prop := Claim7.holds Tryd.pinned (.plain (OpenSpec.ofChange pathZonesSpec)) pathZonesCard

/-- THE TIED CARD OF 'cantonlaw6.PathCommon'. -/
def pathCommonCard : Claim7 := { stood := { row := pathCommonRow, standIns := [], harness := (true, "2ee8bb27dc4c8360cf0f174590fbc31753e8007ce933f22da0d888b103cbb68a"), looks := false }, kinds := [], alts := [], laidByText := true, laidKinds := [.data, .pinned], laidTests := true, laidLooks := .later }
def PathCommonCardSaid : Prop := Claim7.holds Tryd.pinned (.plain (OpenSpec.ofChange pathCommonSpec)) pathCommonCard

/-- THE TIED CARD OF 'cantonlaw6.PathStars'. -/
def pathStarsCard : Claim7 := { stood := { row := pathStarsRow, standIns := [], harness := (true, "2ee8bb27dc4c8360cf0f174590fbc31753e8007ce933f22da0d888b103cbb68a"), looks := false }, kinds := [], alts := [], laidByText := true, laidKinds := [.data, .pinned], laidTests := true, laidLooks := .later }
def PathStarsCardSaid : Prop := Claim7.holds Tryd.pinned (.plain (OpenSpec.ofChange pathStarsSpec)) pathStarsCard

/-- THE SECOND FORM's CARD OF 'cantonlaw6.PathAny'. -/
def pathAnyUptoCard : Claim7 := { stood := { row := pathAnyUptoRow, standIns := [], harness := (true, "2ee8bb27dc4c8360cf0f174590fbc31753e8007ce933f22da0d888b103cbb68a"), looks := false }, kinds := [], alts := [], laidByText := true, laidKinds := [.data, .pinned], laidTests := true, laidLooks := .later }
def PathAnyUptoCardSaid : Prop := Claim7.holds Tryd.pinned (.plain (OpenSpec.upto pathAnySpec)) pathAnyUptoCard

/-- THE SECOND FORM's CARD OF 'cantonlaw6.PathTwo'. -/
def pathTwoUptoCard : Claim7 := { stood := { row := pathTwoUptoRow, standIns := [], harness := (true, "2ee8bb27dc4c8360cf0f174590fbc31753e8007ce933f22da0d888b103cbb68a"), looks := false }, kinds := [], alts := [], laidByText := true, laidKinds := [.data, .pinned], laidTests := true, laidLooks := .later }
def PathTwoUptoCardSaid : Prop := Claim7.holds Tryd.pinned (.plain (OpenSpec.upto pathTwoSpec)) pathTwoUptoCard

/-- THE SECOND FORM's CARD OF 'cantonlaw6.PathZones'. -/
def pathZonesUptoCard : Claim7 := { stood := { row := pathZonesUptoRow, standIns := [], harness := (true, "2ee8bb27dc4c8360cf0f174590fbc31753e8007ce933f22da0d888b103cbb68a"), looks := false }, kinds := [], alts := [], laidByText := true, laidKinds := [.data, .pinned], laidTests := true, laidLooks := .later }
def PathZonesUptoCardSaid : Prop := Claim7.holds Tryd.pinned (.plain (OpenSpec.upto pathZonesSpec)) pathZonesUptoCard

/-- THE SECOND FORM's CARD OF 'cantonlaw6.PathCommon'. -/
def pathCommonUptoCard : Claim7 := { stood := { row := pathCommonUptoRow, standIns := [], harness := (true, "2ee8bb27dc4c8360cf0f174590fbc31753e8007ce933f22da0d888b103cbb68a"), looks := false }, kinds := [], alts := [], laidByText := true, laidKinds := [.data, .pinned], laidTests := true, laidLooks := .later }
def PathCommonUptoCardSaid : Prop := Claim7.holds Tryd.pinned (.plain (OpenSpec.upto pathCommonSpec)) pathCommonUptoCard

/-- THE SECOND FORM's CARD OF 'cantonlaw6.PathStars'. -/
def pathStarsUptoCard : Claim7 := { stood := { row := pathStarsUptoRow, standIns := [], harness := (true, "2ee8bb27dc4c8360cf0f174590fbc31753e8007ce933f22da0d888b103cbb68a"), looks := false }, kinds := [], alts := [], laidByText := true, laidKinds := [.data, .pinned], laidTests := true, laidLooks := .later }
def PathStarsUptoCardSaid : Prop := Claim7.holds Tryd.pinned (.plain (OpenSpec.upto pathStarsSpec)) pathStarsUptoCard
end Rows
end Go.Proofs.YtnlfnkblhnnaoaaDoor
