/- DigestAny as a call with arguments that are read. -/
import Derived.Test.YtpjeohellehgjaaDoorAnyLaw
import Derived.Test.YtpjeohellehgjaaDoorZE
set_option linter.unusedVariables false
set_option linter.unusedSimpArgs false
namespace Go.Proofs.YtpjeohellehgjaaDoor
open Go.RowKit Go.Cn Go.Cn.Num Go.ChangeShapes Go.WideShapes
theorem digestAny_walk (A : Option Addr) (ca : Nat) (l : List RowD) (B : Option Addr) (cb : Nat) (o : List MarkD) (C : Option Addr) (cc : Nat) (ks : List ByteArray) (w : World) (hm : MaxAt w) (g : l.length ≤ ca) (m : ca ≤ 9223372036854775807) (r : RRow 6 RRowD w A l) (g1 : o.length ≤ cb) (m1 : cb ≤ 9223372036854775807) (r1 : RRow 5 RMark w B o) (g2 : ks.length ≤ cc) (m2 : cc ≤ 9223372036854775807) (r2 : RRow 1 RStr w C ks) :
    Calls Tryd.prog 3 #[.slice A l.length ca, .slice B o.length cb, .slice C ks.length cc] w fun e w' => e = .returned (.bool true) ∧ Below w.heap.size w w' := by
  obtain ⟨rs, h1, h2, h3, h4⟩ := rows_arg r
  rw [← h1]
  exact callK_ret fun R hR => digestAny_any hm h3 (marks_arg r1) (keys_arg r2) (fun w' q => hR _ (Qt.below q))
end Go.Proofs.YtpjeohellehgjaaDoor
