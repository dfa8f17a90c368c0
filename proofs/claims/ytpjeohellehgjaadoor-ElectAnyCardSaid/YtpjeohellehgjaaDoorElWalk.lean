/- ElectAny as a call with arguments that are read. -/
import Derived.Test.YtpjeohellehgjaaDoorElLaw
import Derived.Test.YtpjeohellehgjaaDoorZE
set_option linter.unusedVariables false
set_option linter.unusedSimpArgs false
namespace Go.Proofs.YtpjeohellehgjaaDoor
open Go.RowKit Go.Cn Go.Cn.Num Go.ChangeShapes Go.WideShapes
theorem electAny_walk (A : Option Addr) (ca : Nat) (l : List RowD) (w : World) (hm : MaxAt w) (g : l.length ≤ ca) (m : ca ≤ 9223372036854775807) (r : RRow 6 RRowD w A l) :
    Calls Tryd.prog 6 #[.slice A l.length ca] w fun e w' => e = .returned (.bool true) ∧ Below w.heap.size w w' := by
  obtain ⟨rs, h1, h2, h3, h4⟩ := rows_arg r
  rw [← h1]
  exact callK_ret fun R hR => electAny_any hm h3 (fun w' q => hR _ (Qt.below q))
end Go.Proofs.YtpjeohellehgjaaDoor
