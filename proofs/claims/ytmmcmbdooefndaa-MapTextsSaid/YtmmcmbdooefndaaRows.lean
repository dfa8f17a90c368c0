/-
  No cell of these rows narrows 'for every input' (looked for: loops, veiled, ifaces, maps, wideKeys, modest, calm, conditions, laid).
  DERIVED. THE GIVEN ROWS OF THIS SEAT. 4 by the template 'for every input the law returns true; each argument reads behind the call as it read before'; 0 by the template 'total and deterministic' (their statements: YtmmcmbdooefndaaTotals.lean).
  GIVEN WITH THE SEED: the statements are not yours to turn. If you find one false, say at which input.
  Laid BY PROGRAM, IN A SANDBOX (cutbox-rows.mjs): the forced cells as the released guide's own fill.sh prints them over the translation 1e45c9e83ce0bec3… (all of the seat's roots in one cut). By AI agents, Wed Nov 11 2026. No macro, syntax, notation, axiom, sorry.
-/
import Derived.Test.YtmmcmbdooefndaaChecked
import GoSem.Claim
import GoSem.ClaimJoined
import GoSem.ClaimMapViews
import Derived.JoinedTies
import Derived.KernelRfl
namespace Go.Proofs.Ytmmcmbdooefndaa
/- THE CELL 'sum', in the pinned program and in every row, IS THE sha256 OF THE DUMP (.gsa) THAT YtmmcmbdooefndaaProg.lean LOADS. Nothing in Lean hashes anything: it is a label: what it is worth is what the hold of that sum in a sandbox is worth. -/
noncomputable def Try.pinned : Pinned := { name := "ytmmcmbdooefndaa", sum := "1e45c9e83ce0bec3a24b16b88ee0d568b566ce248ea98195d69ddee259227adb", checked := Try.checked }
namespace Rows
def none {H : Type} : Left H := { results := [], args := [] }

/-- 'cantonlaw1.MapTexts': WHATEVER THE INPUT: true; the input reads as it did. -/
def mapTextsSpec : ChangeSpec := { name := "mapTexts", fn := fun _ => fun
  | [d1, d2, d3] => { results := [.lit (.bool true)], args := [d1, d2, d3] }
  | _ => none }
def mapTextsRow : OpenClaim := { program := "ytmmcmbdooefndaa", sum := "1e45c9e83ce0bec3a24b16b88ee0d568b566ce248ea98195d69ddee259227adb", func := "canton/cantonlaw1.MapTexts", spec := "mapTexts", inPlace := ["slices.overlaps[canton/sorted.pair[string, int]]"], unfollowed := true, recurses := true, apart := false }
def MapTextsSaid : Prop := mapTextsRow.holds Try.pinned (OpenSpec.ofChange mapTextsSpec)

/-- ITS FALSE NEIGHBOUR: 'it returns false'. Refute it at one input. -/
def mapTextsWrong : ChangeSpec := { name := "mapTexts", fn := fun _ => fun
  | [d1, d2, d3] => { results := [.lit (.bool false)], args := [d1, d2, d3] }
  | _ => none }
def MapTextsWrongFalsely : Prop := mapTextsRow.holds Try.pinned (OpenSpec.ofChange mapTextsWrong)

/-- 'cantonlaw1.MapInts': WHATEVER THE INPUT: true; the input reads as it did. -/
def mapIntsSpec : ChangeSpec := { name := "mapInts", fn := fun _ => fun
  | [d1, d2] => { results := [.lit (.bool true)], args := [d1, d2] }
  | _ => none }
def mapIntsRow : OpenClaim := { program := "ytmmcmbdooefndaa", sum := "1e45c9e83ce0bec3a24b16b88ee0d568b566ce248ea98195d69ddee259227adb", func := "canton/cantonlaw1.MapInts", spec := "mapInts", inPlace := ["slices.overlaps[canton/sorted.pair[string, int]]", "slices.overlaps[canton/sorted.pair[int64, string]]"], unfollowed := true, recurses := true, apart := false }
def MapIntsSaid : Prop := mapIntsRow.holds Try.pinned (OpenSpec.ofChange mapIntsSpec)

/-- ITS FALSE NEIGHBOUR: 'it returns false'. Refute it at one input. -/
def mapIntsWrong : ChangeSpec := { name := "mapInts", fn := fun _ => fun
  | [d1, d2] => { results := [.lit (.bool false)], args := [d1, d2] }
  | _ => none }
def MapIntsWrongFalsely : Prop := mapIntsRow.holds Try.pinned (OpenSpec.ofChange mapIntsWrong)

/-- 'cantonlaw1.MapPlaces': WHATEVER THE INPUT: true; the input reads as it did. -/
def mapPlacesSpec : ChangeSpec := { name := "mapPlaces", fn := fun _ => fun
  | [d] => { results := [.lit (.bool true)], args := [d] }
  | _ => none }
def mapPlacesRow : OpenClaim := { program := "ytmmcmbdooefndaa", sum := "1e45c9e83ce0bec3a24b16b88ee0d568b566ce248ea98195d69ddee259227adb", func := "canton/cantonlaw1.MapPlaces", spec := "mapPlaces", inPlace := ["slices.overlaps[canton/sorted.pair[string, int]]", "slices.overlaps[canton/sorted.pair[string, bool]]"], unfollowed := true, recurses := true, apart := false }
def MapPlacesSaid : Prop := mapPlacesRow.holds Try.pinned (OpenSpec.ofChange mapPlacesSpec)

/-- ITS FALSE NEIGHBOUR: 'it returns false'. Refute it at one input. -/
def mapPlacesWrong : ChangeSpec := { name := "mapPlaces", fn := fun _ => fun
  | [d] => { results := [.lit (.bool false)], args := [d] }
  | _ => none }
def MapPlacesWrongFalsely : Prop := mapPlacesRow.holds Try.pinned (OpenSpec.ofChange mapPlacesWrong)

/-- 'cantonlaw1.MapTwins': WHATEVER THE INPUT: true; the input reads as it did. -/
def mapTwinsSpec : ChangeSpec := { name := "mapTwins", fn := fun _ => fun
  | [d1, d2] => { results := [.lit (.bool true)], args := [d1, d2] }
  | _ => none }
def mapTwinsRow : OpenClaim := { program := "ytmmcmbdooefndaa", sum := "1e45c9e83ce0bec3a24b16b88ee0d568b566ce248ea98195d69ddee259227adb", func := "canton/cantonlaw1.MapTwins", spec := "mapTwins", inPlace := ["slices.overlaps[canton/sorted.pair[string, int]]"], unfollowed := true, recurses := true, apart := false }
def MapTwinsSaid : Prop := mapTwinsRow.holds Try.pinned (OpenSpec.ofChange mapTwinsSpec)

/-- ITS FALSE NEIGHBOUR: 'it returns false'. Refute it at one input. -/
def mapTwinsWrong : ChangeSpec := { name := "mapTwins", fn := fun _ => fun
  | [d1, d2] => { results := [.lit (.bool false)], args := [d1, d2] }
  | _ => none }
def MapTwinsWrongFalsely : Prop := mapTwinsRow.holds Try.pinned (OpenSpec.ofChange mapTwinsWrong)

/- THE SECOND FORM. 'bulk': how many values and letters a reading holds, each counted each time it is reached (what is shared counts as often as it is met; a slice's spare places count too). A statement '..UptoSaid' is the law's where the arguments, and the package variables that the reading takes, are together of bulk at most 1048576: NARROWER than '..Said'. Prove '..Said' where nothing that the law and all that it calls make is longer than what came in: it says more and counts as full. Else prove '..UptoSaid'. A law counts once. -/
mutual
def uptoBulk {H : Type} : DataW H → Nat
  | .lit (.string bytes) => bytes.length + 1
  | .lit _ => 1
  | .nil => 1
  | .ptr d => uptoBulk d + 1
  | .slice elems spare => uptoBulkAll elems + uptoBulkAll spare + 1
  | .agg parts => uptoBulkAll parts + 1
  | .iface _ d => uptoBulk d + 1
  | .map entries => uptoBulkEntries entries + 1
  | .held _ => 1
def uptoBulkAll {H : Type} : List (DataW H) → Nat
  | [] => 0
  | d :: r => uptoBulk d + uptoBulkAll r
def uptoBulkEntries {H : Type} : List (Lit × DataW H) → Nat
  | [] => 0
  | x :: r => uptoBulkEntry x + uptoBulkEntries r
def uptoBulkEntry {H : Type} : Lit × DataW H → Nat
  | (.string bytes, d) => bytes.length + uptoBulk d + 1
  | (_, d) => uptoBulk d + 1
 end
def uptoSmall : (H : Type) → List (DataW H) → Bool := fun _ ds => decide (uptoBulkAll ds ≤ 1048576)
def OpenSpec.upto (s : _root_.Go.ChangeSpec) : _root_.Go.OpenSpec := { _root_.Go.OpenSpec.ofChange s with cond := some uptoSmall }

/-- 'cantonlaw1.MapTexts', WHERE WHAT IT READS IS OF BULK AT MOST 1048576: true; the input reads as it did. -/
def mapTextsUptoRow : OpenClaim := { program := "ytmmcmbdooefndaa", sum := "1e45c9e83ce0bec3a24b16b88ee0d568b566ce248ea98195d69ddee259227adb", func := "canton/cantonlaw1.MapTexts", spec := "mapTexts", inPlace := ["slices.overlaps[canton/sorted.pair[string, int]]"], unfollowed := true, recurses := true, apart := false, narrowed := true }
def MapTextsUptoSaid : Prop := mapTextsUptoRow.holds Try.pinned (OpenSpec.upto mapTextsSpec)

/-- 'cantonlaw1.MapInts', WHERE WHAT IT READS IS OF BULK AT MOST 1048576: true; the input reads as it did. -/
def mapIntsUptoRow : OpenClaim := { program := "ytmmcmbdooefndaa", sum := "1e45c9e83ce0bec3a24b16b88ee0d568b566ce248ea98195d69ddee259227adb", func := "canton/cantonlaw1.MapInts", spec := "mapInts", inPlace := ["slices.overlaps[canton/sorted.pair[string, int]]", "slices.overlaps[canton/sorted.pair[int64, string]]"], unfollowed := true, recurses := true, apart := false, narrowed := true }
def MapIntsUptoSaid : Prop := mapIntsUptoRow.holds Try.pinned (OpenSpec.upto mapIntsSpec)

/-- 'cantonlaw1.MapPlaces', WHERE WHAT IT READS IS OF BULK AT MOST 1048576: true; the input reads as it did. -/
def mapPlacesUptoRow : OpenClaim := { program := "ytmmcmbdooefndaa", sum := "1e45c9e83ce0bec3a24b16b88ee0d568b566ce248ea98195d69ddee259227adb", func := "canton/cantonlaw1.MapPlaces", spec := "mapPlaces", inPlace := ["slices.overlaps[canton/sorted.pair[string, int]]", "slices.overlaps[canton/sorted.pair[string, bool]]"], unfollowed := true, recurses := true, apart := false, narrowed := true }
def MapPlacesUptoSaid : Prop := mapPlacesUptoRow.holds Try.pinned (OpenSpec.upto mapPlacesSpec)

/-- 'cantonlaw1.MapTwins', WHERE WHAT IT READS IS OF BULK AT MOST 1048576: true; the input reads as it did. -/
def mapTwinsUptoRow : OpenClaim := { program := "ytmmcmbdooefndaa", sum := "1e45c9e83ce0bec3a24b16b88ee0d568b566ce248ea98195d69ddee259227adb", func := "canton/cantonlaw1.MapTwins", spec := "mapTwins", inPlace := ["slices.overlaps[canton/sorted.pair[string, int]]"], unfollowed := true, recurses := true, apart := false, narrowed := true }
def MapTwinsUptoSaid : Prop := mapTwinsUptoRow.holds Try.pinned (OpenSpec.upto mapTwinsSpec)

end Rows
end Go.Proofs.Ytmmcmbdooefndaa
