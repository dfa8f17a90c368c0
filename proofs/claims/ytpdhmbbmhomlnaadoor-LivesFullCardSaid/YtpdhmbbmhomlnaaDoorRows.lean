/-
  NARROWER THAN 'FOR EVERY INPUT', by the rows' own cells (each row's printed sentence says how): LivesPlay: laid · LivesBytes: laid · LivesRise: laid · LivesFull: laid.
  DERIVED. THE GIVEN ROWS OF THIS SEAT. 4 by the template 'for every input the law returns true; each argument reads behind the call as it read before'; 0 by the template 'total and deterministic' (their statements: YtpdhmbbmhomlnaaDoorTotals.lean).
  GIVEN WITH THE SEED: the statements are not yours to turn. If you find one false, say at which input.
  Laid BY PROGRAM, IN A SANDBOX (cutbox-rows.mjs): the forced cells as the released guide's own fill.sh prints them over the translation fb9a406b592e7856… (all of the seat's roots in one cut). By AI agents, Wed Nov 11 2026. No macro, syntax, notation, axiom, sorry.
-/
import Derived.Test.YtpdhmbbmhomlnaaDoorChecked
import GoSem.PinnedTables
import GoSem.Claim
import GoSem.ClaimJoined
import GoSem.ClaimMapViews
import Derived.JoinedTies
import Derived.KernelRfl
namespace Go.Proofs.YtpdhmbbmhomlnaaDoor
/- THE CELL 'sum', in the pinned program and in every row, IS THE sha256 OF THE DUMP (.gsa) THAT YtpdhmbbmhomlnaaDoorProg.lean LOADS. Nothing in Lean hashes anything: it is a label: what it is worth is what the hold of that sum in a sandbox is worth. -/
noncomputable def Tryd.pinned : Pinned := { name := "ytpdhmbbmhomlnaadoor", sum := "fb9a406b592e7856519c7de2025f14b0c793eb33c52d97666cdd191262b0f064", checked := Tryd.checked }
namespace Rows
def none {H : Type} : Left H := { results := [], args := [] }

/- WHAT THE LISTED PACKAGE-LEVEL VARIABLES READ AS WHEN THE CALL BEGINS. Each datum BY PROGRAM (the guide's laid-datum.mjs) off the statement by which the dump's own 'gosem.cut.vars' lays the variable. In a bare row this is a premise. The card (YtpdhmbbmhomlnaaDoorCards.lean) ties it to the program's text. -/
def laid_unicode_utf8_acceptRanges {H : Type} : DataW H := .agg [.agg [.lit (.int .u8 128), .lit (.int .u8 191)], .agg [.lit (.int .u8 160), .lit (.int .u8 191)], .agg [.lit (.int .u8 128), .lit (.int .u8 159)], .agg [.lit (.int .u8 144), .lit (.int .u8 191)], .agg [.lit (.int .u8 128), .lit (.int .u8 143)], .agg [.lit (.int .u8 0), .lit (.int .u8 0)], .agg [.lit (.int .u8 0), .lit (.int .u8 0)], .agg [.lit (.int .u8 0), .lit (.int .u8 0)], .agg [.lit (.int .u8 0), .lit (.int .u8 0)], .agg [.lit (.int .u8 0), .lit (.int .u8 0)], .agg [.lit (.int .u8 0), .lit (.int .u8 0)], .agg [.lit (.int .u8 0), .lit (.int .u8 0)], .agg [.lit (.int .u8 0), .lit (.int .u8 0)], .agg [.lit (.int .u8 0), .lit (.int .u8 0)], .agg [.lit (.int .u8 0), .lit (.int .u8 0)], .agg [.lit (.int .u8 0), .lit (.int .u8 0)]]
/-- One of Go's own tables, pinned by name: the form's constant. -/
def laid_unicode_utf8_first : DataW Unit := Go.Pinned.utf8First

/-- 'cantonlaw22.LivesPlay': WHATEVER THE INPUT: true; the input reads as it did. -/
def livesPlaySpec : ChangeSpec := { name := "livesPlay", fn := fun _ => fun
  | [d1, d2] => { results := [.lit (.bool true)], args := [d1, d2] }
  | _ => none }
def livesPlayRow : OpenClaim := { program := "ytpdhmbbmhomlnaadoor", sum := "fb9a406b592e7856519c7de2025f14b0c793eb33c52d97666cdd191262b0f064", func := "canton/cantonlaw22.LivesPlay", spec := "livesPlay", inPlace := ["internal/bytealg.CountString", "internal/bytealg.IndexByteString", "internal/bytealg.IndexString", "slices.overlaps[canton/sorted.pair[string, int64]]"], unfollowed := true, recurses := true, named := ["unicode/utf8.first", "unicode/utf8.acceptRanges", "internal/bytealg.MaxLen"], apart := false, laid := [("unicode/utf8.acceptRanges", laid_unicode_utf8_acceptRanges), ("unicode/utf8.first", laid_unicode_utf8_first)] }
def LivesPlaySaid : Prop := livesPlayRow.holds Tryd.pinned (OpenSpec.ofChange livesPlaySpec)

/-- ITS FALSE NEIGHBOUR: 'it returns false'. Refute it at one input. -/
def livesPlayWrong : ChangeSpec := { name := "livesPlay", fn := fun _ => fun
  | [d1, d2] => { results := [.lit (.bool false)], args := [d1, d2] }
  | _ => none }
def LivesPlayWrongFalsely : Prop := livesPlayRow.holds Tryd.pinned (OpenSpec.ofChange livesPlayWrong)

/-- 'cantonlaw22.LivesBytes': WHATEVER THE INPUT: true; the input reads as it did. -/
def livesBytesSpec : ChangeSpec := { name := "livesBytes", fn := fun _ => fun
  | [d] => { results := [.lit (.bool true)], args := [d] }
  | _ => none }
def livesBytesRow : OpenClaim := { program := "ytpdhmbbmhomlnaadoor", sum := "fb9a406b592e7856519c7de2025f14b0c793eb33c52d97666cdd191262b0f064", func := "canton/cantonlaw22.LivesBytes", spec := "livesBytes", inPlace := ["internal/bytealg.CountString", "internal/bytealg.IndexByteString", "internal/bytealg.IndexString", "slices.overlaps[canton/sorted.pair[string, int64]]"], unfollowed := true, recurses := true, named := ["unicode/utf8.first", "unicode/utf8.acceptRanges", "internal/bytealg.MaxLen"], apart := false, laid := [("unicode/utf8.acceptRanges", laid_unicode_utf8_acceptRanges), ("unicode/utf8.first", laid_unicode_utf8_first)] }
def LivesBytesSaid : Prop := livesBytesRow.holds Tryd.pinned (OpenSpec.ofChange livesBytesSpec)

/-- ITS FALSE NEIGHBOUR: 'it returns false'. Refute it at one input. -/
def livesBytesWrong : ChangeSpec := { name := "livesBytes", fn := fun _ => fun
  | [d] => { results := [.lit (.bool false)], args := [d] }
  | _ => none }
def LivesBytesWrongFalsely : Prop := livesBytesRow.holds Tryd.pinned (OpenSpec.ofChange livesBytesWrong)

/-- 'cantonlaw22.LivesRise': WHATEVER THE INPUT: true; the input reads as it did. -/
def livesRiseSpec : ChangeSpec := { name := "livesRise", fn := fun _ => fun
  | [d1, d2] => { results := [.lit (.bool true)], args := [d1, d2] }
  | _ => none }
def livesRiseRow : OpenClaim := { program := "ytpdhmbbmhomlnaadoor", sum := "fb9a406b592e7856519c7de2025f14b0c793eb33c52d97666cdd191262b0f064", func := "canton/cantonlaw22.LivesRise", spec := "livesRise", inPlace := ["internal/bytealg.CountString", "internal/bytealg.IndexByteString", "internal/bytealg.IndexString", "slices.overlaps[canton/sorted.pair[string, int64]]"], unfollowed := true, recurses := true, named := ["unicode/utf8.first", "unicode/utf8.acceptRanges", "internal/bytealg.MaxLen"], apart := false, laid := [("unicode/utf8.acceptRanges", laid_unicode_utf8_acceptRanges), ("unicode/utf8.first", laid_unicode_utf8_first)] }
def LivesRiseSaid : Prop := livesRiseRow.holds Tryd.pinned (OpenSpec.ofChange livesRiseSpec)

/-- ITS FALSE NEIGHBOUR: 'it returns false'. Refute it at one input. -/
def livesRiseWrong : ChangeSpec := { name := "livesRise", fn := fun _ => fun
  | [d1, d2] => { results := [.lit (.bool false)], args := [d1, d2] }
  | _ => none }
def LivesRiseWrongFalsely : Prop := livesRiseRow.holds Tryd.pinned (OpenSpec.ofChange livesRiseWrong)

/-- 'cantonlaw22.LivesFull': WHATEVER THE INPUT: true; the input reads as it did. -/
def livesFullSpec : ChangeSpec := { name := "livesFull", fn := fun _ => fun
  | [d1, d2] => { results := [.lit (.bool true)], args := [d1, d2] }
  | _ => none }
def livesFullRow : OpenClaim := { program := "ytpdhmbbmhomlnaadoor", sum := "fb9a406b592e7856519c7de2025f14b0c793eb33c52d97666cdd191262b0f064", func := "canton/cantonlaw22.LivesFull", spec := "livesFull", inPlace := ["internal/bytealg.CountString", "internal/bytealg.IndexByteString", "internal/bytealg.IndexString", "slices.overlaps[canton/sorted.pair[string, int64]]"], unfollowed := true, recurses := true, named := ["unicode/utf8.first", "unicode/utf8.acceptRanges", "internal/bytealg.MaxLen"], apart := false, laid := [("unicode/utf8.acceptRanges", laid_unicode_utf8_acceptRanges), ("unicode/utf8.first", laid_unicode_utf8_first)] }
def LivesFullSaid : Prop := livesFullRow.holds Tryd.pinned (OpenSpec.ofChange livesFullSpec)

/-- ITS FALSE NEIGHBOUR: 'it returns false'. Refute it at one input. -/
def livesFullWrong : ChangeSpec := { name := "livesFull", fn := fun _ => fun
  | [d1, d2] => { results := [.lit (.bool false)], args := [d1, d2] }
  | _ => none }
def LivesFullWrongFalsely : Prop := livesFullRow.holds Tryd.pinned (OpenSpec.ofChange livesFullWrong)

/- THE SECOND FORM. 'bulk': how many values and letters a reading holds, each counted each time it is reached (what is shared counts as often as it is met; a slice's spare places count too). A statement '..UptoSaid' is the law's where the arguments, and the package variables that the reading takes, are together of bulk at most 1048576: NARROWER than '..Said'. Prove '..Said' where nothing that the law and all that it calls make is longer than what came in: it says more and counts as full. Else prove '..UptoSaid'. A law counts once. -/
mutual
def uptoBulk {H : Type} : DataW H → Nat
  | .lit (.string bytes) => bytes.length + 1
  | .lit _ => 1
  | .nil => 1
  | .ptr d => uptoBulk d + 1
  | .slice elems spare => uptoBulkAll elems + uptoBulkAll spare + 1
  | .agg parts => uptoBulkAll parts + 1
  | .iface _ d => uptoBulk d + 1
  | .map entries => uptoBulkEntries entries + 1
  | .held _ => 1
def uptoBulkAll {H : Type} : List (DataW H) → Nat
  | [] => 0
  | d :: r => uptoBulk d + uptoBulkAll r
def uptoBulkEntries {H : Type} : List (Lit × DataW H) → Nat
  | [] => 0
  | x :: r => uptoBulkEntry x + uptoBulkEntries r
def uptoBulkEntry {H : Type} : Lit × DataW H → Nat
  | (.string bytes, d) => bytes.length + uptoBulk d + 1
  | (_, d) => uptoBulk d + 1
 end
def uptoSmall : (H : Type) → List (DataW H) → Bool := fun _ ds => decide (uptoBulkAll ds ≤ 1048576)
def OpenSpec.upto (s : _root_.Go.ChangeSpec) : _root_.Go.OpenSpec := { _root_.Go.OpenSpec.ofChange s with cond := some uptoSmall }

/-- 'cantonlaw22.LivesPlay', WHERE WHAT IT READS IS OF BULK AT MOST 1048576: true; the input reads as it did. -/
def livesPlayUptoRow : OpenClaim := { program := "ytpdhmbbmhomlnaadoor", sum := "fb9a406b592e7856519c7de2025f14b0c793eb33c52d97666cdd191262b0f064", func := "canton/cantonlaw22.LivesPlay", spec := "livesPlay", inPlace := ["internal/bytealg.CountString", "internal/bytealg.IndexByteString", "internal/bytealg.IndexString", "slices.overlaps[canton/sorted.pair[string, int64]]"], unfollowed := true, recurses := true, named := ["unicode/utf8.first", "unicode/utf8.acceptRanges", "internal/bytealg.MaxLen"], apart := false, laid := [("unicode/utf8.acceptRanges", laid_unicode_utf8_acceptRanges), ("unicode/utf8.first", laid_unicode_utf8_first)], narrowed := true }
def LivesPlayUptoSaid : Prop := livesPlayUptoRow.holds Tryd.pinned (OpenSpec.upto livesPlaySpec)

/-- 'cantonlaw22.LivesBytes', WHERE WHAT IT READS IS OF BULK AT MOST 1048576: true; the input reads as it did. -/
def livesBytesUptoRow : OpenClaim := { program := "ytpdhmbbmhomlnaadoor", sum := "fb9a406b592e7856519c7de2025f14b0c793eb33c52d97666cdd191262b0f064", func := "canton/cantonlaw22.LivesBytes", spec := "livesBytes", inPlace := ["internal/bytealg.CountString", "internal/bytealg.IndexByteString", "internal/bytealg.IndexString", "slices.overlaps[canton/sorted.pair[string, int64]]"], unfollowed := true, recurses := true, named := ["unicode/utf8.first", "unicode/utf8.acceptRanges", "internal/bytealg.MaxLen"], apart := false, laid := [("unicode/utf8.acceptRanges", laid_unicode_utf8_acceptRanges), ("unicode/utf8.first", laid_unicode_utf8_first)], narrowed := true }
def LivesBytesUptoSaid : Prop := livesBytesUptoRow.holds Tryd.pinned (OpenSpec.upto livesBytesSpec)

/-- 'cantonlaw22.LivesRise', WHERE WHAT IT READS IS OF BULK AT MOST 1048576: true; the input reads as it did. -/
def livesRiseUptoRow : OpenClaim := { program := "ytpdhmbbmhomlnaadoor", sum := "fb9a406b592e7856519c7de2025f14b0c793eb33c52d97666cdd191262b0f064", func := "canton/cantonlaw22.LivesRise", spec := "livesRise", inPlace := ["internal/bytealg.CountString", "internal/bytealg.IndexByteString", "internal/bytealg.IndexString", "slices.overlaps[canton/sorted.pair[string, int64]]"], unfollowed := true, recurses := true, named := ["unicode/utf8.first", "unicode/utf8.acceptRanges", "internal/bytealg.MaxLen"], apart := false, laid := [("unicode/utf8.acceptRanges", laid_unicode_utf8_acceptRanges), ("unicode/utf8.first", laid_unicode_utf8_first)], narrowed := true }
def LivesRiseUptoSaid : Prop := livesRiseUptoRow.holds Tryd.pinned (OpenSpec.upto livesRiseSpec)

/-- 'cantonlaw22.LivesFull', WHERE WHAT IT READS IS OF BULK AT MOST 1048576: true; the input reads as it did. -/
def livesFullUptoRow : OpenClaim := { program := "ytpdhmbbmhomlnaadoor", sum := "fb9a406b592e7856519c7de2025f14b0c793eb33c52d97666cdd191262b0f064", func := "canton/cantonlaw22.LivesFull", spec := "livesFull", inPlace := ["internal/bytealg.CountString", "internal/bytealg.IndexByteString", "internal/bytealg.IndexString", "slices.overlaps[canton/sorted.pair[string, int64]]"], unfollowed := true, recurses := true, named := ["unicode/utf8.first", "unicode/utf8.acceptRanges", "internal/bytealg.MaxLen"], apart := false, laid := [("unicode/utf8.acceptRanges", laid_unicode_utf8_acceptRanges), ("unicode/utf8.first", laid_unicode_utf8_first)], narrowed := true }
def LivesFullUptoSaid : Prop := livesFullUptoRow.holds Tryd.pinned (OpenSpec.upto livesFullSpec)

end Rows
end Go.Proofs.YtpdhmbbmhomlnaaDoor
