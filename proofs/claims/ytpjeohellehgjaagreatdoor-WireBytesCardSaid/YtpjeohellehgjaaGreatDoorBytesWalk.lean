/- WireBytes as a call with an argument that is read. -/
import Derived.Test.YtpjeohellehgjaaGreatDoorBytesLaw
import Derived.Test.YtpjeohellehgjaaGreatDoorZG
set_option linter.unusedVariables false
set_option linter.unusedSimpArgs false
namespace Go.Proofs.YtpjeohellehgjaaGreatDoor
open Go.RowKit Go.Cn Go.Cn.Num Go.ChangeShapes Go.WideShapes
theorem wireBytes_walk (A : Option Addr) (cap : Nat) (l : List Int) (w : World) (hm : MaxAt w) (g : l.length ≤ cap) (m : cap ≤ 9223372036854775807) (r : RRow 1 (RInt .u8) w A l) :
    Calls Tryz.prog 5 #[.slice A l.length cap] w fun e w' => e = .returned (.bool true) ∧ Below w.heap.size w w' := by
  obtain ⟨hr, hlen⟩ := bytes_of r
  rw [← hlen] at g ⊢
  exact callK_ret fun R hR => wireBytes_any hm hr g (fun w' q => hR _ (Qt.below q))
end Go.Proofs.YtpjeohellehgjaaGreatDoor
