/- More equations of V's operations: a guard over what was not made. -/
import Derived.Test.YtpjeohellehgjaaDoorV2
set_option linter.unusedVariables false
set_option linter.unusedSimpArgs false
namespace Go.Cn
open Go.RowKit
theorem guardK_u {b : Bool} {op : (Value → World → Prop) → World → Prop} {K : Value → World → Prop} {w : World} : GuardK undef b op K w = K undef w := by cases b <;> rfl
theorem takeG_u {b : Bool} {op : (Value → Prop) → Prop} {K : Value → Prop} : TakeG undef b op K = K undef := by cases b <;> rfl
theorem wrap_in64 {n : Int} (h : 0 ≤ n ∧ n ≤ 18446744073709551615) : IntKind.u64.wrap n = n := by simp [IntKind.wrap, IntKind.bits, IntKind.signed]; omega
theorem take_nil {P : Program} {S : World → Prop} {a : Addr} {K : Value → Prop} (h : K (.pointer (some a))) : TakeO P S (nilSem (.pointer (some a))) (@hid _ ⟨K⟩) := ⟨_, fun w _ => (by unfold nilSem execOp; simp), h⟩
end Go.Cn
