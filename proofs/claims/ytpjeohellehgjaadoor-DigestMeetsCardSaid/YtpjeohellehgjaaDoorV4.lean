/- The equations of V2 that hold by unfolding, once more, with proofs that the kernel does not unfold again. -/
import Derived.Test.YtpjeohellehgjaaDoorV3
set_option linter.unusedVariables false
set_option linter.unusedSimpArgs false
namespace Go.Cn
open Go.RowKit
theorem hid1' {f : Value → Prop} {v : Value} : @hid (Value → Prop) ⟨f⟩ v = f v := propext Iff.rfl
theorem hid2' {f : Value → World → Prop} {v : Value} {w : World} : @hid (Value → World → Prop) ⟨f⟩ v w = f v w := propext Iff.rfl
theorem optK_some' {v : Value} {k : Value → Prop} {raw : Prop} : OptK (some v) (@hid _ ⟨k⟩) raw = k v := propext Iff.rfl
theorem fzK_false' {A raw : Prop} : FzK false (@hid _ ⟨A⟩) raw = A := propext Iff.rfl
theorem brK_true' {A B : Prop} : BrK (.bool true) (@hid _ ⟨A⟩) (@hid _ ⟨B⟩) = A := propext Iff.rfl
theorem brK_false' {A B : Prop} : BrK (.bool false) (@hid _ ⟨A⟩) (@hid _ ⟨B⟩) = B := propext Iff.rfl
theorem guardK_tt' {op : (Value → World → Prop) → World → Prop} {K : Value → World → Prop} {w : World} : GuardK (.bool true) true op K w = op K w := propext Iff.rfl
theorem guardK_ff' {op : (Value → World → Prop) → World → Prop} {K : Value → World → Prop} {w : World} : GuardK (.bool false) false op K w = op K w := propext Iff.rfl
theorem guardK_tf' {op : (Value → World → Prop) → World → Prop} {K : Value → World → Prop} {w : World} : GuardK (.bool true) false op K w = K undef w := propext Iff.rfl
theorem guardK_ft' {op : (Value → World → Prop) → World → Prop} {K : Value → World → Prop} {w : World} : GuardK (.bool false) true op K w = K undef w := propext Iff.rfl
theorem takeG_tt' {op : (Value → Prop) → Prop} {K : Value → Prop} : TakeG (.bool true) true op K = op K := propext Iff.rfl
theorem takeG_ff' {op : (Value → Prop) → Prop} {K : Value → Prop} : TakeG (.bool false) false op K = op K := propext Iff.rfl
theorem takeG_tf' {op : (Value → Prop) → Prop} {K : Value → Prop} : TakeG (.bool true) false op K = K undef := propext Iff.rfl
theorem takeG_ft' {op : (Value → Prop) → Prop} {K : Value → Prop} : TakeG (.bool false) true op K = K undef := propext Iff.rfl
theorem pickK_t' {P : Program} {a b : Value} {K : Value → World → Prop} {w : World} : PickK P (.bool true) a b K w = K a w := propext Iff.rfl
theorem pickK_f' {P : Program} {a b : Value} {K : Value → World → Prop} {w : World} : PickK P (.bool false) a b K w = K b w := propext Iff.rfl
theorem pickT_t' {a b : Value} {K : Value → Prop} : PickT (.bool true) a b K = K a := propext Iff.rfl
theorem pickT_f' {a b : Value} {K : Value → Prop} : PickT (.bool false) a b K = K b := propext Iff.rfl
theorem extract2_0' {P : Program} (a b : Value) (K : Value → World → Prop) (w : World) : ExtractK P (.tuple #[a, b]) 0 K w = K a w := propext Iff.rfl
theorem extract2_1' {P : Program} (a b : Value) (K : Value → World → Prop) (w : World) : ExtractK P (.tuple #[a, b]) 1 K w = K b w := propext Iff.rfl
theorem extract3_0' {P : Program} (a b c : Value) (K : Value → World → Prop) (w : World) : ExtractK P (.tuple #[a, b, c]) 0 K w = K a w := propext Iff.rfl
theorem extract3_1' {P : Program} (a b c : Value) (K : Value → World → Prop) (w : World) : ExtractK P (.tuple #[a, b, c]) 1 K w = K b w := propext Iff.rfl
theorem extract3_2' {P : Program} (a b c : Value) (K : Value → World → Prop) (w : World) : ExtractK P (.tuple #[a, b, c]) 2 K w = K c w := propext Iff.rfl
end Go.Cn
