/- DigestMeets as a call with arguments that are read. -/
import Derived.Test.YtpjeohellehgjaaDoorMeetLaw
import Derived.Test.YtpjeohellehgjaaDoorZE
set_option linter.unusedVariables false
set_option linter.unusedSimpArgs false
namespace Go.Proofs.YtpjeohellehgjaaDoor
open Go.RowKit Go.Cn Go.Cn.Num Go.ChangeShapes Go.WideShapes
theorem digestMeets_walk (A : Option Addr) (ca : Nat) (l : List RowD) (B : Option Addr) (cb : Nat) (o : List RowD) (w : World) (hm : MaxAt w) (g : l.length ≤ ca) (m : ca ≤ 9223372036854775807) (r : RRow 6 RRowD w A l) (g1 : o.length ≤ cb) (m1 : cb ≤ 9223372036854775807) (r1 : RRow 6 RRowD w B o) :
    Calls Tryd.prog 5 #[.slice A l.length ca, .slice B o.length cb] w fun e w' => e = .returned (.bool true) ∧ Below w.heap.size w w' := by
  obtain ⟨rs, h1, h2, h3, h4⟩ := rows_arg r
  obtain ⟨rs2, k1, k2, k3, k4⟩ := rows_arg r1
  rw [← h1, ← k1]
  exact callK_ret fun R hR => digestMeets_any hm h3 k3 (fun w' q => hR _ (Qt.below q))
end Go.Proofs.YtpjeohellehgjaaDoor
