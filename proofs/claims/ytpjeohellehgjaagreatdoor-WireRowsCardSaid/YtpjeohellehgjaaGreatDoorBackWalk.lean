/- WireBack, WireRows as calls with arguments that are read. -/
import Derived.Test.YtpjeohellehgjaaGreatDoorBackLaw
import Derived.Test.YtpjeohellehgjaaGreatDoorZG
set_option linter.unusedVariables false
set_option linter.unusedSimpArgs false
namespace Go.Proofs.YtpjeohellehgjaaGreatDoor
open Go.RowKit Go.Cn Go.Cn.Num Go.ChangeShapes Go.WideShapes
theorem wireBack_walk (x : RowD) (A : Option Addr) (c : Nat) (hs : List AttH) (w : World) (hm : MaxAt w) (h : RowArg w A x hs) :
    Calls Tryz.prog 3 #[rowV x.1 x.2.1 A hs.length c] w fun e w' => e = .returned (.bool true) ∧ Below w.heap.size w w' :=
  callK_ret fun R hR => wireBack_any hm h.atts (by rw [h.map]; exact h.ok) (fun w' q => hR _ (Qt.below q))
theorem wireRows_walk (A : Option Addr) (cap : Nat) (l : List RowD) (w : World) (hm : MaxAt w) (g : l.length ≤ cap) (m : cap ≤ 9223372036854775807) (r : RRow 6 RRowD w A l) :
    Calls Tryz.prog 4 #[.slice A l.length cap] w fun e w' => e = .returned (.bool true) ∧ Below w.heap.size w w' := by
  obtain ⟨rs, h1, h2, h3, h4⟩ := rows_arg r
  rw [← h1]
  exact callK_ret fun R hR => wireRows_any hm h3 h4 (fun w' q => hR _ (Qt.below q))
end Go.Proofs.YtpjeohellehgjaaGreatDoor
