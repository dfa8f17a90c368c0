/-
  DERIVED. GIVEN WITH THE SEED: THE CARDS: each row of YtdnlenngbaaeaaaDoorRows.lean that lists a variable, with what it lists TIED to the program's text (the seventh form; the later family's looks); each row that meets fmt, with fmt's text TOLD by the authors' own Lean function (tested against real Go, not proved from fmt's source: count such statements apart). THE CARD IS WHAT COUNTS. Prove the row's statement (the work); the ties are given (YtdnlenngbaaeaaaDoorTie.lean); close each card by the builder's one call (the guide's Derived/Test/ToyasCard.lean, 'card_holds'). Laid BY PROGRAM, IN A SANDBOX (cutbox-door.mjs). By AI agents, Wed Nov 11 2026. No macro, syntax, notation, axiom, sorry.
-/
import Derived.Test.YtdnlenngbaaeaaaDoorRows
import GoSem.ClaimSeven
namespace Go.Proofs.YtdnlenngbaaeaaaDoor
namespace Rows

/-- THE TIED CARD OF 'cantonlaw2.ValueAny'. -/
def valueAnyCard : Claim7 := { stood := { row := valueAnyRow, standIns := [], harness := (true, "465696ffe422b9939366b2a3288652a82c89e882be6707bd3622676e3c9e36fc"), looks := true }, kinds := [], alts := [], laidByText := true, laidKinds := [.data, .data, .data, .data, .sentinel, .sentinel, .pinned], laidTests := true, laidLooks := .later }
def ValueAnyCardSaid : Prop := Claim7.holds Tryd.pinned (.plain (OpenSpec.ofChange valueAnySpec)) valueAnyCard

/-- THE TIED CARD OF 'cantonlaw2.ValueTexts'. -/
def valueTextsCard : Claim7 := { stood := { row := valueTextsRow, standIns := [], harness := (true, "465696ffe422b9939366b2a3288652a82c89e882be6707bd3622676e3c9e36fc"), looks := true }, kinds := [], alts := [], laidByText := true, laidKinds := [.data, .data, .data, .data, .sentinel, .sentinel, .pinned], laidTests := true, laidLooks := .later }
def ValueTextsCardSaid : Prop := Claim7.holds Tryd.pinned (.plain (OpenSpec.ofChange valueTextsSpec)) valueTextsCard

/-- THE TIED CARD OF 'cantonlaw2.ValueOrder'. -/
def valueOrderCard : Claim7 := { stood := { row := valueOrderRow, standIns := [], harness := (true, "465696ffe422b9939366b2a3288652a82c89e882be6707bd3622676e3c9e36fc"), looks := true }, kinds := [], alts := [], laidByText := true, laidKinds := [.data, .data, .data, .data, .sentinel, .sentinel, .pinned], laidTests := true, laidLooks := .later }
def ValueOrderCardSaid : Prop := Claim7.holds Tryd.pinned (.plain (OpenSpec.ofChange valueOrderSpec)) valueOrderCard

/-- THE TIED CARD OF 'cantonlaw2.ValueDivs'. -/
def valueDivsCard : Claim7 := { stood := { row := valueDivsRow, standIns := [], harness := (true, "465696ffe422b9939366b2a3288652a82c89e882be6707bd3622676e3c9e36fc"), looks := true }, kinds := [], alts := [], laidByText := true, laidKinds := [.data, .data, .data, .data, .sentinel, .sentinel, .pinned], laidTests := true, laidLooks := .later }
def ValueDivsCardSaid : Prop := Claim7.holds Tryd.pinned (.plain (OpenSpec.ofChange valueDivsSpec)) valueDivsCard

/-- THE TIED CARD OF 'cantonlaw2.ValueSums'. -/
def valueSumsCard : Claim7 := { stood := { row := valueSumsRow, standIns := [], harness := (true, "465696ffe422b9939366b2a3288652a82c89e882be6707bd3622676e3c9e36fc"), looks := true }, kinds := [], alts := [], laidByText := true, laidKinds := [.data, .data, .data, .data, .sentinel, .sentinel, .pinned], laidTests := true, laidLooks := .later }
def ValueSumsCardSaid : Prop := Claim7.holds Tryd.pinned (.plain (OpenSpec.ofChange valueSumsSpec)) valueSumsCard

/-- THE TIED CARD OF 'cantonlaw2.ValueEnds'. -/
def valueEndsCard : Claim7 := { stood := { row := valueEndsRow, standIns := [], harness := (true, "465696ffe422b9939366b2a3288652a82c89e882be6707bd3622676e3c9e36fc"), looks := true }, kinds := [], alts := [], laidByText := true, laidKinds := [.data, .data, .data, .data, .sentinel, .sentinel, .pinned], laidTests := true, laidLooks := .later }
def ValueEndsCardSaid : Prop := Claim7.holds Tryd.pinned (.plain (OpenSpec.ofChange valueEndsSpec)) valueEndsCard

/-- THE SECOND FORM's CARD OF 'cantonlaw2.ValueAny'. -/
def valueAnyUptoCard : Claim7 := { stood := { row := valueAnyUptoRow, standIns := [], harness := (true, "465696ffe422b9939366b2a3288652a82c89e882be6707bd3622676e3c9e36fc"), looks := true }, kinds := [], alts := [], laidByText := true, laidKinds := [.data, .data, .data, .data, .sentinel, .sentinel, .pinned], laidTests := true, laidLooks := .later }
def ValueAnyUptoCardSaid : Prop := Claim7.holds Tryd.pinned (.plain (OpenSpec.upto valueAnySpec)) valueAnyUptoCard

/-- THE SECOND FORM's CARD OF 'cantonlaw2.ValueTexts'. -/
def valueTextsUptoCard : Claim7 := { stood := { row := valueTextsUptoRow, standIns := [], harness := (true, "465696ffe422b9939366b2a3288652a82c89e882be6707bd3622676e3c9e36fc"), looks := true }, kinds := [], alts := [], laidByText := true, laidKinds := [.data, .data, .data, .data, .sentinel, .sentinel, .pinned], laidTests := true, laidLooks := .later }
def ValueTextsUptoCardSaid : Prop := Claim7.holds Tryd.pinned (.plain (OpenSpec.upto valueTextsSpec)) valueTextsUptoCard

/-- THE SECOND FORM's CARD OF 'cantonlaw2.ValueOrder'. -/
def valueOrderUptoCard : Claim7 := { stood := { row := valueOrderUptoRow, standIns := [], harness := (true, "465696ffe422b9939366b2a3288652a82c89e882be6707bd3622676e3c9e36fc"), looks := true }, kinds := [], alts := [], laidByText := true, laidKinds := [.data, .data, .data, .data, .sentinel, .sentinel, .pinned], laidTests := true, laidLooks := .later }
def ValueOrderUptoCardSaid : Prop := Claim7.holds Tryd.pinned (.plain (OpenSpec.upto valueOrderSpec)) valueOrderUptoCard

/-- THE SECOND FORM's CARD OF 'cantonlaw2.ValueDivs'. -/
def valueDivsUptoCard : Claim7 := { stood := { row := valueDivsUptoRow, standIns := [], harness := (true, "465696ffe422b9939366b2a3288652a82c89e882be6707bd3622676e3c9e36fc"), looks := true }, kinds := [], alts := [], laidByText := true, laidKinds := [.data, .data, .data, .data, .sentinel, .sentinel, .pinned], laidTests := true, laidLooks := .later }
def ValueDivsUptoCardSaid : Prop := Claim7.holds Tryd.pinned (.plain (OpenSpec.upto valueDivsSpec)) valueDivsUptoCard

/-- THE SECOND FORM's CARD OF 'cantonlaw2.ValueSums'. -/
def valueSumsUptoCard : Claim7 := { stood := { row := valueSumsUptoRow, standIns := [], harness := (true, "465696ffe422b9939366b2a3288652a82c89e882be6707bd3622676e3c9e36fc"), looks := true }, kinds := [], alts := [], laidByText := true, laidKinds := [.data, .data, .data, .data, .sentinel, .sentinel, .pinned], laidTests := true, laidLooks := .later }
def ValueSumsUptoCardSaid : Prop := Claim7.holds Tryd.pinned (.plain (OpenSpec.upto valueSumsSpec)) valueSumsUptoCard

/-- THE SECOND FORM's CARD OF 'cantonlaw2.ValueEnds'. -/
def valueEndsUptoCard : Claim7 := { stood := { row := valueEndsUptoRow, standIns := [], harness := (true, "465696ffe422b9939366b2a3288652a82c89e882be6707bd3622676e3c9e36fc"), looks := true }, kinds := [], alts := [], laidByText := true, laidKinds := [.data, .data, .data, .data, .sentinel, .sentinel, .pinned], laidTests := true, laidLooks := .later }
def ValueEndsUptoCardSaid : Prop := Claim7.holds Tryd.pinned (.plain (OpenSpec.upto valueEndsSpec)) valueEndsUptoCard
end Rows
end Go.Proofs.YtdnlenngbaaeaaaDoor
