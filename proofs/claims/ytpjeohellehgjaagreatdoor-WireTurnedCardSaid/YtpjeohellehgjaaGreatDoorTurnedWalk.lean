/- WireTurned as a call with arguments that are read. -/
import Derived.Test.YtpjeohellehgjaaGreatDoorTurnedLaw
import Derived.Test.YtpjeohellehgjaaGreatDoorZG
set_option linter.unusedVariables false
set_option linter.unusedSimpArgs false
namespace Go.Proofs.YtpjeohellehgjaaGreatDoor
open Go.RowKit Go.Cn Go.Cn.Num Go.ChangeShapes Go.WideShapes
theorem wireTurned_walk (x : RowD) (A : Option Addr) (c : Nat) (hs : List AttH) (at' t : Int) (w : World) (hm : MaxAt w) (h : RowArg w A x hs) (a0 : 0 ≤ at') (a1 : at' ≤ 65535) (t0 : 0 ≤ t) (t1 : t ≤ 255) :
    Calls Tryz.prog 7 #[rowV x.1 x.2.1 A hs.length c, .int .u16 at', .int .u8 t] w fun e w' => e = .returned (.bool true) ∧ Below w.heap.size w w' := by
  obtain ⟨n, rfl⟩ : ∃ n : UInt8, t = (n.toNat : Int) := ⟨UInt8.ofNat t.toNat, by simp; omega⟩
  exact callK_ret fun R hR => wireTurned_any hm h.atts (by rw [h.map]; exact h.ok) a0 a1 (fun w' q => hR _ (Qt.below q))
end Go.Proofs.YtpjeohellehgjaaGreatDoor
