/-
  NARROWER THAN 'FOR EVERY INPUT', by the rows' own cells (each row's printed sentence says how): DigestAny: laid · DigestSelf: laid · DigestMeets: laid · ElectAny: laid · ElectOne: laid · ElectLeast: laid.
  DERIVED. THE GIVEN ROWS OF THIS SEAT. 6 by the template 'for every input the law returns true; each argument reads behind the call as it read before'; 0 by the template 'total and deterministic' (their statements: YtpjeohellehgjaaDoorTotals.lean).
  GIVEN WITH THE SEED: the statements are not yours to turn. If you find one false, say at which input.
  Laid BY PROGRAM, IN A SANDBOX (cutbox-rows.mjs): the forced cells as the released guide's own fill.sh prints them over the translation 3229c05fd1dc89fb… (all of the seat's roots in one cut). By AI agents, Wed Nov 11 2026. No macro, syntax, notation, axiom, sorry.
-/
import Derived.Test.YtpjeohellehgjaaDoorChecked
import GoSem.PinnedTables
import GoSem.Claim
import GoSem.ClaimJoined
import GoSem.ClaimMapViews
import Derived.JoinedTies
import Derived.KernelRfl
namespace Go.Proofs.YtpjeohellehgjaaDoor
/- THE CELL 'sum', in the pinned program and in every row, IS THE sha256 OF THE DUMP (.gsa) THAT YtpjeohellehgjaaDoorProg.lean LOADS. Nothing in Lean hashes anything: it is a label: what it is worth is what the hold of that sum in a sandbox is worth. -/
noncomputable def Tryd.pinned : Pinned := { name := "ytpjeohellehgjaadoor", sum := "3229c05fd1dc89fb17c1e3e24363f26a7696055196b37e203fd8ba0d537089c3", checked := Tryd.checked }
namespace Rows
def none {H : Type} : Left H := { results := [], args := [] }

/- WHAT THE LISTED PACKAGE-LEVEL VARIABLES READ AS WHEN THE CALL BEGINS. Each datum BY PROGRAM (the guide's laid-datum.mjs) off the statement by which the dump's own 'gosem.cut.vars' lays the variable. In a bare row this is a premise. The card (YtpjeohellehgjaaDoorCards.lean) ties it to the program's text. -/
def laid_unicode_utf8_acceptRanges {H : Type} : DataW H := .agg [.agg [.lit (.int .u8 128), .lit (.int .u8 191)], .agg [.lit (.int .u8 160), .lit (.int .u8 191)], .agg [.lit (.int .u8 128), .lit (.int .u8 159)], .agg [.lit (.int .u8 144), .lit (.int .u8 191)], .agg [.lit (.int .u8 128), .lit (.int .u8 143)], .agg [.lit (.int .u8 0), .lit (.int .u8 0)], .agg [.lit (.int .u8 0), .lit (.int .u8 0)], .agg [.lit (.int .u8 0), .lit (.int .u8 0)], .agg [.lit (.int .u8 0), .lit (.int .u8 0)], .agg [.lit (.int .u8 0), .lit (.int .u8 0)], .agg [.lit (.int .u8 0), .lit (.int .u8 0)], .agg [.lit (.int .u8 0), .lit (.int .u8 0)], .agg [.lit (.int .u8 0), .lit (.int .u8 0)], .agg [.lit (.int .u8 0), .lit (.int .u8 0)], .agg [.lit (.int .u8 0), .lit (.int .u8 0)], .agg [.lit (.int .u8 0), .lit (.int .u8 0)]]
/-- One of Go's own tables, pinned by name: the form's constant. -/
def laid_unicode_utf8_first : DataW Unit := Go.Pinned.utf8First

/-- 'cantonlaw14.DigestAny': WHATEVER THE INPUT: true; the input reads as it did. -/
def digestAnySpec : ChangeSpec := { name := "digestAny", fn := fun _ => fun
  | [d1, d2, d3] => { results := [.lit (.bool true)], args := [d1, d2, d3] }
  | _ => none }
def digestAnyRow : OpenClaim := { program := "ytpjeohellehgjaadoor", sum := "3229c05fd1dc89fb17c1e3e24363f26a7696055196b37e203fd8ba0d537089c3", func := "canton/cantonlaw14.DigestAny", spec := "digestAny", inPlace := ["internal/bytealg.CountString", "internal/bytealg.IndexByteString", "internal/bytealg.IndexString"], unfollowed := true, recurses := true, named := ["unicode/utf8.first", "unicode/utf8.acceptRanges", "internal/bytealg.MaxLen"], apart := false, laid := [("unicode/utf8.acceptRanges", laid_unicode_utf8_acceptRanges), ("unicode/utf8.first", laid_unicode_utf8_first)] }
def DigestAnySaid : Prop := digestAnyRow.holds Tryd.pinned (OpenSpec.ofChange digestAnySpec)

/-- ITS FALSE NEIGHBOUR: 'it returns false'. Refute it at one input. -/
def digestAnyWrong : ChangeSpec := { name := "digestAny", fn := fun _ => fun
  | [d1, d2, d3] => { results := [.lit (.bool false)], args := [d1, d2, d3] }
  | _ => none }
def DigestAnyWrongFalsely : Prop := digestAnyRow.holds Tryd.pinned (OpenSpec.ofChange digestAnyWrong)

/-- 'cantonlaw14.DigestSelf': WHATEVER THE INPUT: true; the input reads as it did. -/
def digestSelfSpec : ChangeSpec := { name := "digestSelf", fn := fun _ => fun
  | [d1, d2] => { results := [.lit (.bool true)], args := [d1, d2] }
  | _ => none }
def digestSelfRow : OpenClaim := { program := "ytpjeohellehgjaadoor", sum := "3229c05fd1dc89fb17c1e3e24363f26a7696055196b37e203fd8ba0d537089c3", func := "canton/cantonlaw14.DigestSelf", spec := "digestSelf", inPlace := ["internal/bytealg.CountString", "internal/bytealg.IndexByteString", "internal/bytealg.IndexString"], unfollowed := true, recurses := true, named := ["unicode/utf8.first", "unicode/utf8.acceptRanges", "internal/bytealg.MaxLen"], apart := false, laid := [("unicode/utf8.acceptRanges", laid_unicode_utf8_acceptRanges), ("unicode/utf8.first", laid_unicode_utf8_first)] }
def DigestSelfSaid : Prop := digestSelfRow.holds Tryd.pinned (OpenSpec.ofChange digestSelfSpec)

/-- ITS FALSE NEIGHBOUR: 'it returns false'. Refute it at one input. -/
def digestSelfWrong : ChangeSpec := { name := "digestSelf", fn := fun _ => fun
  | [d1, d2] => { results := [.lit (.bool false)], args := [d1, d2] }
  | _ => none }
def DigestSelfWrongFalsely : Prop := digestSelfRow.holds Tryd.pinned (OpenSpec.ofChange digestSelfWrong)

/-- 'cantonlaw14.DigestMeets': WHATEVER THE INPUT: true; the input reads as it did. -/
def digestMeetsSpec : ChangeSpec := { name := "digestMeets", fn := fun _ => fun
  | [d1, d2] => { results := [.lit (.bool true)], args := [d1, d2] }
  | _ => none }
def digestMeetsRow : OpenClaim := { program := "ytpjeohellehgjaadoor", sum := "3229c05fd1dc89fb17c1e3e24363f26a7696055196b37e203fd8ba0d537089c3", func := "canton/cantonlaw14.DigestMeets", spec := "digestMeets", inPlace := ["internal/bytealg.CountString", "internal/bytealg.IndexByteString", "internal/bytealg.IndexString"], unfollowed := true, recurses := true, named := ["unicode/utf8.first", "unicode/utf8.acceptRanges", "internal/bytealg.MaxLen"], apart := false, laid := [("unicode/utf8.acceptRanges", laid_unicode_utf8_acceptRanges), ("unicode/utf8.first", laid_unicode_utf8_first)] }
def DigestMeetsSaid : Prop := digestMeetsRow.holds Tryd.pinned (OpenSpec.ofChange digestMeetsSpec)

/-- ITS FALSE NEIGHBOUR: 'it returns false'. Refute it at one input. -/
def digestMeetsWrong : ChangeSpec := { name := "digestMeets", fn := fun _ => fun
  | [d1, d2] => { results := [.lit (.bool false)], args := [d1, d2] }
  | _ => none }
def DigestMeetsWrongFalsely : Prop := digestMeetsRow.holds Tryd.pinned (OpenSpec.ofChange digestMeetsWrong)

/-- 'cantonlaw15.ElectAny': WHATEVER THE INPUT: true; the input reads as it did. -/
def electAnySpec : ChangeSpec := { name := "electAny", fn := fun _ => fun
  | [d] => { results := [.lit (.bool true)], args := [d] }
  | _ => none }
def electAnyRow : OpenClaim := { program := "ytpjeohellehgjaadoor", sum := "3229c05fd1dc89fb17c1e3e24363f26a7696055196b37e203fd8ba0d537089c3", func := "canton/cantonlaw15.ElectAny", spec := "electAny", inPlace := ["internal/bytealg.CountString", "internal/bytealg.IndexByteString", "internal/bytealg.IndexString"], unfollowed := true, recurses := true, named := ["unicode/utf8.first", "unicode/utf8.acceptRanges", "internal/bytealg.MaxLen"], apart := false, laid := [("unicode/utf8.acceptRanges", laid_unicode_utf8_acceptRanges), ("unicode/utf8.first", laid_unicode_utf8_first)] }
def ElectAnySaid : Prop := electAnyRow.holds Tryd.pinned (OpenSpec.ofChange electAnySpec)

/-- ITS FALSE NEIGHBOUR: 'it returns false'. Refute it at one input. -/
def electAnyWrong : ChangeSpec := { name := "electAny", fn := fun _ => fun
  | [d] => { results := [.lit (.bool false)], args := [d] }
  | _ => none }
def ElectAnyWrongFalsely : Prop := electAnyRow.holds Tryd.pinned (OpenSpec.ofChange electAnyWrong)

/-- 'cantonlaw15.ElectOne': WHATEVER THE INPUT: true; the input reads as it did. -/
def electOneSpec : ChangeSpec := { name := "electOne", fn := fun _ => fun
  | [d1, d2] => { results := [.lit (.bool true)], args := [d1, d2] }
  | _ => none }
def electOneRow : OpenClaim := { program := "ytpjeohellehgjaadoor", sum := "3229c05fd1dc89fb17c1e3e24363f26a7696055196b37e203fd8ba0d537089c3", func := "canton/cantonlaw15.ElectOne", spec := "electOne", inPlace := ["internal/bytealg.CountString", "internal/bytealg.IndexByteString", "internal/bytealg.IndexString"], unfollowed := true, recurses := true, named := ["unicode/utf8.first", "unicode/utf8.acceptRanges", "internal/bytealg.MaxLen"], apart := false, laid := [("unicode/utf8.acceptRanges", laid_unicode_utf8_acceptRanges), ("unicode/utf8.first", laid_unicode_utf8_first)] }
def ElectOneSaid : Prop := electOneRow.holds Tryd.pinned (OpenSpec.ofChange electOneSpec)

/-- ITS FALSE NEIGHBOUR: 'it returns false'. Refute it at one input. -/
def electOneWrong : ChangeSpec := { name := "electOne", fn := fun _ => fun
  | [d1, d2] => { results := [.lit (.bool false)], args := [d1, d2] }
  | _ => none }
def ElectOneWrongFalsely : Prop := electOneRow.holds Tryd.pinned (OpenSpec.ofChange electOneWrong)

/-- 'cantonlaw15.ElectLeast': WHATEVER THE INPUT: true; the input reads as it did. -/
def electLeastSpec : ChangeSpec := { name := "electLeast", fn := fun _ => fun
  | [d] => { results := [.lit (.bool true)], args := [d] }
  | _ => none }
def electLeastRow : OpenClaim := { program := "ytpjeohellehgjaadoor", sum := "3229c05fd1dc89fb17c1e3e24363f26a7696055196b37e203fd8ba0d537089c3", func := "canton/cantonlaw15.ElectLeast", spec := "electLeast", inPlace := ["internal/bytealg.CountString", "internal/bytealg.IndexByteString", "internal/bytealg.IndexString"], unfollowed := true, recurses := true, named := ["unicode/utf8.first", "unicode/utf8.acceptRanges", "internal/bytealg.MaxLen"], apart := false, laid := [("unicode/utf8.acceptRanges", laid_unicode_utf8_acceptRanges), ("unicode/utf8.first", laid_unicode_utf8_first)] }
def ElectLeastSaid : Prop := electLeastRow.holds Tryd.pinned (OpenSpec.ofChange electLeastSpec)

/-- ITS FALSE NEIGHBOUR: 'it returns false'. Refute it at one input. -/
def electLeastWrong : ChangeSpec := { name := "electLeast", fn := fun _ => fun
  | [d] => { results := [.lit (.bool false)], args := [d] }
  | _ => none }
def ElectLeastWrongFalsely : Prop := electLeastRow.holds Tryd.pinned (OpenSpec.ofChange electLeastWrong)

/- THE SECOND FORM. 'bulk': how many values and letters a reading holds, each counted each time it is reached (what is shared counts as often as it is met; a slice's spare places count too). A statement '..UptoSaid' is the law's where the arguments, and the package variables that the reading takes, are together of bulk at most 1048576: NARROWER than '..Said'. Prove '..Said' where nothing that the law and all that it calls make is longer than what came in: it says more and counts as full. Else prove '..UptoSaid'. A law counts once. -/
mutual
def uptoBulk {H : Type} : DataW H → Nat
  | .lit (.string bytes) => bytes.length + 1
  | .lit _ => 1
  | .nil => 1
  | .ptr d => uptoBulk d + 1
  | .slice elems spare => uptoBulkAll elems + uptoBulkAll spare + 1
  | .agg parts => uptoBulkAll parts + 1
  | .iface _ d => uptoBulk d + 1
  | .map entries => uptoBulkEntries entries + 1
  | .held _ => 1
def uptoBulkAll {H : Type} : List (DataW H) → Nat
  | [] => 0
  | d :: r => uptoBulk d + uptoBulkAll r
def uptoBulkEntries {H : Type} : List (Lit × DataW H) → Nat
  | [] => 0
  | x :: r => uptoBulkEntry x + uptoBulkEntries r
def uptoBulkEntry {H : Type} : Lit × DataW H → Nat
  | (.string bytes, d) => bytes.length + uptoBulk d + 1
  | (_, d) => uptoBulk d + 1
 end
def uptoSmall : (H : Type) → List (DataW H) → Bool := fun _ ds => decide (uptoBulkAll ds ≤ 1048576)
def OpenSpec.upto (s : _root_.Go.ChangeSpec) : _root_.Go.OpenSpec := { _root_.Go.OpenSpec.ofChange s with cond := some uptoSmall }

/-- 'cantonlaw14.DigestAny', WHERE WHAT IT READS IS OF BULK AT MOST 1048576: true; the input reads as it did. -/
def digestAnyUptoRow : OpenClaim := { program := "ytpjeohellehgjaadoor", sum := "3229c05fd1dc89fb17c1e3e24363f26a7696055196b37e203fd8ba0d537089c3", func := "canton/cantonlaw14.DigestAny", spec := "digestAny", inPlace := ["internal/bytealg.CountString", "internal/bytealg.IndexByteString", "internal/bytealg.IndexString"], unfollowed := true, recurses := true, named := ["unicode/utf8.first", "unicode/utf8.acceptRanges", "internal/bytealg.MaxLen"], apart := false, laid := [("unicode/utf8.acceptRanges", laid_unicode_utf8_acceptRanges), ("unicode/utf8.first", laid_unicode_utf8_first)], narrowed := true }
def DigestAnyUptoSaid : Prop := digestAnyUptoRow.holds Tryd.pinned (OpenSpec.upto digestAnySpec)

/-- 'cantonlaw14.DigestSelf', WHERE WHAT IT READS IS OF BULK AT MOST 1048576: true; the input reads as it did. -/
def digestSelfUptoRow : OpenClaim := { program := "ytpjeohellehgjaadoor", sum := "3229c05fd1dc89fb17c1e3e24363f26a7696055196b37e203fd8ba0d537089c3", func := "canton/cantonlaw14.DigestSelf", spec := "digestSelf", inPlace := ["internal/bytealg.CountString", "internal/bytealg.IndexByteString", "internal/bytealg.IndexString"], unfollowed := true, recurses := true, named := ["unicode/utf8.first", "unicode/utf8.acceptRanges", "internal/bytealg.MaxLen"], apart := false, laid := [("unicode/utf8.acceptRanges", laid_unicode_utf8_acceptRanges), ("unicode/utf8.first", laid_unicode_utf8_first)], narrowed := true }
def DigestSelfUptoSaid : Prop := digestSelfUptoRow.holds Tryd.pinned (OpenSpec.upto digestSelfSpec)

/-- 'cantonlaw14.DigestMeets', WHERE WHAT IT READS IS OF BULK AT MOST 1048576: true; the input reads as it did. -/
def digestMeetsUptoRow : OpenClaim := { program := "ytpjeohellehgjaadoor", sum := "3229c05fd1dc89fb17c1e3e24363f26a7696055196b37e203fd8ba0d537089c3", func := "canton/cantonlaw14.DigestMeets", spec := "digestMeets", inPlace := ["internal/bytealg.CountString", "internal/bytealg.IndexByteString", "internal/bytealg.IndexString"], unfollowed := true, recurses := true, named := ["unicode/utf8.first", "unicode/utf8.acceptRanges", "internal/bytealg.MaxLen"], apart := false, laid := [("unicode/utf8.acceptRanges", laid_unicode_utf8_acceptRanges), ("unicode/utf8.first", laid_unicode_utf8_first)], narrowed := true }
def DigestMeetsUptoSaid : Prop := digestMeetsUptoRow.holds Tryd.pinned (OpenSpec.upto digestMeetsSpec)

/-- 'cantonlaw15.ElectAny', WHERE WHAT IT READS IS OF BULK AT MOST 1048576: true; the input reads as it did. -/
def electAnyUptoRow : OpenClaim := { program := "ytpjeohellehgjaadoor", sum := "3229c05fd1dc89fb17c1e3e24363f26a7696055196b37e203fd8ba0d537089c3", func := "canton/cantonlaw15.ElectAny", spec := "electAny", inPlace := ["internal/bytealg.CountString", "internal/bytealg.IndexByteString", "internal/bytealg.IndexString"], unfollowed := true, recurses := true, named := ["unicode/utf8.first", "unicode/utf8.acceptRanges", "internal/bytealg.MaxLen"], apart := false, laid := [("unicode/utf8.acceptRanges", laid_unicode_utf8_acceptRanges), ("unicode/utf8.first", laid_unicode_utf8_first)], narrowed := true }
def ElectAnyUptoSaid : Prop := electAnyUptoRow.holds Tryd.pinned (OpenSpec.upto electAnySpec)

/-- 'cantonlaw15.ElectOne', WHERE WHAT IT READS IS OF BULK AT MOST 1048576: true; the input reads as it did. -/
def electOneUptoRow : OpenClaim := { program := "ytpjeohellehgjaadoor", sum := "3229c05fd1dc89fb17c1e3e24363f26a7696055196b37e203fd8ba0d537089c3", func := "canton/cantonlaw15.ElectOne", spec := "electOne", inPlace := ["internal/bytealg.CountString", "internal/bytealg.IndexByteString", "internal/bytealg.IndexString"], unfollowed := true, recurses := true, named := ["unicode/utf8.first", "unicode/utf8.acceptRanges", "internal/bytealg.MaxLen"], apart := false, laid := [("unicode/utf8.acceptRanges", laid_unicode_utf8_acceptRanges), ("unicode/utf8.first", laid_unicode_utf8_first)], narrowed := true }
def ElectOneUptoSaid : Prop := electOneUptoRow.holds Tryd.pinned (OpenSpec.upto electOneSpec)

/-- 'cantonlaw15.ElectLeast', WHERE WHAT IT READS IS OF BULK AT MOST 1048576: true; the input reads as it did. -/
def electLeastUptoRow : OpenClaim := { program := "ytpjeohellehgjaadoor", sum := "3229c05fd1dc89fb17c1e3e24363f26a7696055196b37e203fd8ba0d537089c3", func := "canton/cantonlaw15.ElectLeast", spec := "electLeast", inPlace := ["internal/bytealg.CountString", "internal/bytealg.IndexByteString", "internal/bytealg.IndexString"], unfollowed := true, recurses := true, named := ["unicode/utf8.first", "unicode/utf8.acceptRanges", "internal/bytealg.MaxLen"], apart := false, laid := [("unicode/utf8.acceptRanges", laid_unicode_utf8_acceptRanges), ("unicode/utf8.first", laid_unicode_utf8_first)], narrowed := true }
def ElectLeastUptoSaid : Prop := electLeastUptoRow.holds Tryd.pinned (OpenSpec.upto electLeastSpec)

end Rows
end Go.Proofs.YtpjeohellehgjaaDoor
