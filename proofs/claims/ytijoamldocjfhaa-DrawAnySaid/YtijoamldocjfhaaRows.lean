/-
  No cell of these rows narrows 'for every input' (looked for: loops, veiled, ifaces, maps, wideKeys, modest, calm, conditions, laid).
  DERIVED. THE GIVEN ROWS OF THIS SEAT. 4 by the template 'for every input the law returns true; each argument reads behind the call as it read before'; 0 by the template 'total and deterministic' (their statements: YtijoamldocjfhaaTotals.lean).
  GIVEN WITH THE SEED: the statements are not yours to turn. If you find one false, say at which input.
  Laid BY PROGRAM, IN A SANDBOX (cutbox-rows.mjs): the forced cells as the released guide's own fill.sh prints them over the translation d756fa454480ec70… (all of the seat's roots in one cut). By AI agents, Wed Nov 11 2026. No macro, syntax, notation, axiom, sorry.
-/
import Derived.Test.YtijoamldocjfhaaChecked
import GoSem.Claim
import GoSem.ClaimJoined
import GoSem.ClaimMapViews
import Derived.JoinedTies
import Derived.KernelRfl
namespace Go.Proofs.Ytijoamldocjfhaa
/- THE CELL 'sum', in the pinned program and in every row, IS THE sha256 OF THE DUMP (.gsa) THAT YtijoamldocjfhaaProg.lean LOADS. Nothing in Lean hashes anything: it is a label: what it is worth is what the hold of that sum in a sandbox is worth. -/
noncomputable def Try.pinned : Pinned := { name := "ytijoamldocjfhaa", sum := "d756fa454480ec70d0508fa6afa2d17571d20de1a5aee5b98dbcd4a0041fa2a4", checked := Try.checked }
namespace Rows
def none {H : Type} : Left H := { results := [], args := [] }

/-- 'cantonlaw17.DrawAny': WHATEVER THE INPUT: true; the input reads as it did. -/
def drawAnySpec : ChangeSpec := { name := "drawAny", fn := fun _ => fun
  | [d1, d2, d3] => { results := [.lit (.bool true)], args := [d1, d2, d3] }
  | _ => none }
def drawAnyRow : OpenClaim := { program := "ytijoamldocjfhaa", sum := "d756fa454480ec70d0508fa6afa2d17571d20de1a5aee5b98dbcd4a0041fa2a4", func := "canton/cantonlaw17.DrawAny", spec := "drawAny", apart := false }
def DrawAnySaid : Prop := drawAnyRow.holds Try.pinned (OpenSpec.ofChange drawAnySpec)

/-- ITS FALSE NEIGHBOUR: 'it returns false'. Refute it at one input. -/
def drawAnyWrong : ChangeSpec := { name := "drawAny", fn := fun _ => fun
  | [d1, d2, d3] => { results := [.lit (.bool false)], args := [d1, d2, d3] }
  | _ => none }
def DrawAnyWrongFalsely : Prop := drawAnyRow.holds Try.pinned (OpenSpec.ofChange drawAnyWrong)

/-- 'cantonlaw17.DrawCovers': WHATEVER THE INPUT: true; the input reads as it did. -/
def drawCoversSpec : ChangeSpec := { name := "drawCovers", fn := fun _ => fun
  | [d1, d2] => { results := [.lit (.bool true)], args := [d1, d2] }
  | _ => none }
def drawCoversRow : OpenClaim := { program := "ytijoamldocjfhaa", sum := "d756fa454480ec70d0508fa6afa2d17571d20de1a5aee5b98dbcd4a0041fa2a4", func := "canton/cantonlaw17.DrawCovers", spec := "drawCovers", apart := false }
def DrawCoversSaid : Prop := drawCoversRow.holds Try.pinned (OpenSpec.ofChange drawCoversSpec)

/-- ITS FALSE NEIGHBOUR: 'it returns false'. Refute it at one input. -/
def drawCoversWrong : ChangeSpec := { name := "drawCovers", fn := fun _ => fun
  | [d1, d2] => { results := [.lit (.bool false)], args := [d1, d2] }
  | _ => none }
def DrawCoversWrongFalsely : Prop := drawCoversRow.holds Try.pinned (OpenSpec.ofChange drawCoversWrong)

/-- 'cantonlaw17.DrawTurns': WHATEVER THE INPUT: true; the input reads as it did. -/
def drawTurnsSpec : ChangeSpec := { name := "drawTurns", fn := fun _ => fun
  | [d1, d2] => { results := [.lit (.bool true)], args := [d1, d2] }
  | _ => none }
def drawTurnsRow : OpenClaim := { program := "ytijoamldocjfhaa", sum := "d756fa454480ec70d0508fa6afa2d17571d20de1a5aee5b98dbcd4a0041fa2a4", func := "canton/cantonlaw17.DrawTurns", spec := "drawTurns", apart := false }
def DrawTurnsSaid : Prop := drawTurnsRow.holds Try.pinned (OpenSpec.ofChange drawTurnsSpec)

/-- ITS FALSE NEIGHBOUR: 'it returns false'. Refute it at one input. -/
def drawTurnsWrong : ChangeSpec := { name := "drawTurns", fn := fun _ => fun
  | [d1, d2] => { results := [.lit (.bool false)], args := [d1, d2] }
  | _ => none }
def DrawTurnsWrongFalsely : Prop := drawTurnsRow.holds Try.pinned (OpenSpec.ofChange drawTurnsWrong)

/-- 'cantonlaw17.DrawMixes': WHATEVER THE INPUT: true; the input reads as it did. -/
def drawMixesSpec : ChangeSpec := { name := "drawMixes", fn := fun _ => fun
  | [d1, d2] => { results := [.lit (.bool true)], args := [d1, d2] }
  | _ => none }
def drawMixesRow : OpenClaim := { program := "ytijoamldocjfhaa", sum := "d756fa454480ec70d0508fa6afa2d17571d20de1a5aee5b98dbcd4a0041fa2a4", func := "canton/cantonlaw17.DrawMixes", spec := "drawMixes", apart := false }
def DrawMixesSaid : Prop := drawMixesRow.holds Try.pinned (OpenSpec.ofChange drawMixesSpec)

/-- ITS FALSE NEIGHBOUR: 'it returns false'. Refute it at one input. -/
def drawMixesWrong : ChangeSpec := { name := "drawMixes", fn := fun _ => fun
  | [d1, d2] => { results := [.lit (.bool false)], args := [d1, d2] }
  | _ => none }
def DrawMixesWrongFalsely : Prop := drawMixesRow.holds Try.pinned (OpenSpec.ofChange drawMixesWrong)

/- THE SECOND FORM. 'bulk': how many values and letters a reading holds, each counted each time it is reached (what is shared counts as often as it is met; a slice's spare places count too). A statement '..UptoSaid' is the law's where the arguments, and the package variables that the reading takes, are together of bulk at most 1048576: NARROWER than '..Said'. Prove '..Said' where nothing that the law and all that it calls make is longer than what came in: it says more and counts as full. Else prove '..UptoSaid'. A law counts once. -/
mutual
def uptoBulk {H : Type} : DataW H → Nat
  | .lit (.string bytes) => bytes.length + 1
  | .lit _ => 1
  | .nil => 1
  | .ptr d => uptoBulk d + 1
  | .slice elems spare => uptoBulkAll elems + uptoBulkAll spare + 1
  | .agg parts => uptoBulkAll parts + 1
  | .iface _ d => uptoBulk d + 1
  | .map entries => uptoBulkEntries entries + 1
  | .held _ => 1
def uptoBulkAll {H : Type} : List (DataW H) → Nat
  | [] => 0
  | d :: r => uptoBulk d + uptoBulkAll r
def uptoBulkEntries {H : Type} : List (Lit × DataW H) → Nat
  | [] => 0
  | x :: r => uptoBulkEntry x + uptoBulkEntries r
def uptoBulkEntry {H : Type} : Lit × DataW H → Nat
  | (.string bytes, d) => bytes.length + uptoBulk d + 1
  | (_, d) => uptoBulk d + 1
 end
def uptoSmall : (H : Type) → List (DataW H) → Bool := fun _ ds => decide (uptoBulkAll ds ≤ 1048576)
def OpenSpec.upto (s : _root_.Go.ChangeSpec) : _root_.Go.OpenSpec := { _root_.Go.OpenSpec.ofChange s with cond := some uptoSmall }

/-- 'cantonlaw17.DrawAny', WHERE WHAT IT READS IS OF BULK AT MOST 1048576: true; the input reads as it did. -/
def drawAnyUptoRow : OpenClaim := { program := "ytijoamldocjfhaa", sum := "d756fa454480ec70d0508fa6afa2d17571d20de1a5aee5b98dbcd4a0041fa2a4", func := "canton/cantonlaw17.DrawAny", spec := "drawAny", apart := false, narrowed := true }
def DrawAnyUptoSaid : Prop := drawAnyUptoRow.holds Try.pinned (OpenSpec.upto drawAnySpec)

/-- 'cantonlaw17.DrawCovers', WHERE WHAT IT READS IS OF BULK AT MOST 1048576: true; the input reads as it did. -/
def drawCoversUptoRow : OpenClaim := { program := "ytijoamldocjfhaa", sum := "d756fa454480ec70d0508fa6afa2d17571d20de1a5aee5b98dbcd4a0041fa2a4", func := "canton/cantonlaw17.DrawCovers", spec := "drawCovers", apart := false, narrowed := true }
def DrawCoversUptoSaid : Prop := drawCoversUptoRow.holds Try.pinned (OpenSpec.upto drawCoversSpec)

/-- 'cantonlaw17.DrawTurns', WHERE WHAT IT READS IS OF BULK AT MOST 1048576: true; the input reads as it did. -/
def drawTurnsUptoRow : OpenClaim := { program := "ytijoamldocjfhaa", sum := "d756fa454480ec70d0508fa6afa2d17571d20de1a5aee5b98dbcd4a0041fa2a4", func := "canton/cantonlaw17.DrawTurns", spec := "drawTurns", apart := false, narrowed := true }
def DrawTurnsUptoSaid : Prop := drawTurnsUptoRow.holds Try.pinned (OpenSpec.upto drawTurnsSpec)

/-- 'cantonlaw17.DrawMixes', WHERE WHAT IT READS IS OF BULK AT MOST 1048576: true; the input reads as it did. -/
def drawMixesUptoRow : OpenClaim := { program := "ytijoamldocjfhaa", sum := "d756fa454480ec70d0508fa6afa2d17571d20de1a5aee5b98dbcd4a0041fa2a4", func := "canton/cantonlaw17.DrawMixes", spec := "drawMixes", apart := false, narrowed := true }
def DrawMixesUptoSaid : Prop := drawMixesUptoRow.holds Try.pinned (OpenSpec.upto drawMixesSpec)

end Rows
end Go.Proofs.Ytijoamldocjfhaa
