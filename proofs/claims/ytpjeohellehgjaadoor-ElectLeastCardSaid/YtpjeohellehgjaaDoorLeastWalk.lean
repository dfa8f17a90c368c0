/- ElectLeast as a call with arguments that are read. -/
import Derived.Test.YtpjeohellehgjaaDoorLeastLaw
import Derived.Test.YtpjeohellehgjaaDoorZE
set_option linter.unusedVariables false
set_option linter.unusedSimpArgs false
namespace Go.Proofs.YtpjeohellehgjaaDoor
open Go.RowKit Go.Cn Go.Cn.Num Go.ChangeShapes Go.WideShapes
theorem electLeast_walk (A : Option Addr) (ca : Nat) (l : List Int) (w : World) (hm : MaxAt w) (g : l.length ≤ ca) (m : ca ≤ 9223372036854775807) (r : RRow 1 (RInt .i64) w A l) :
    Calls Tryd.prog 8 #[.slice A l.length ca] w fun e w' => e = .returned (.bool true) ∧ Below w.heap.size w w' :=
  callK_ret fun R hR => electLeast_any hm (Reads.of_row (enc := fun z => Value.int .i64 z) rint_one r) (fun w' q => hR _ (Qt.below q))
end Go.Proofs.YtpjeohellehgjaaDoor
