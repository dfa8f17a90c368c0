import Derived.Test.YtpdhmbbmhomlnaaDoorRows
import Derived.Test.YtpdhmbbmhomlnaaDoorV3
set_option linter.unusedVariables false
set_option linter.unusedSimpArgs false
set_option maxRecDepth 100000
namespace Go.Proofs.YtpdhmbbmhomlnaaDoor
open Go.RowKit Go.Cn
theorem klen22 (A : Option Addr) (n c : Nat) (K : Value → World → Prop) (w : World) : BuiltinK Tryd.prog .len #[22] 3 #[false] #[(.slice A n c)] K w = K (.int .i64 (n : Int)) w := by
  unfold BuiltinK; (first | (go_simp; rfl) | (go_simp; done))

theorem hlen22 (A : Option Addr) (n c : Nat) {K : Value → Prop} {w1 : World} : TakeO Tryd.prog (fun w' => w' = w1) (builtin .len #[22] 3 #[false] #[(.slice A n c)]) K = K (.int .i64 (n : Int)) := by
  exact here_o (fun w => by (first | (go_simp; rfl) | (go_simp; done)))

theorem kbgtr3 (x y : Int) (K : Value → World → Prop) (w : World) : BinK Tryd.prog .gtr 3 (.int .i64 x) (.int .i64 y) K w = K (.bool (decide (y < x))) w := by
  unfold BinK; (first | (go_simp; rfl) | (go_simp; done))

theorem klen9 (s : ByteArray) (K : Value → World → Prop) (w : World) : BuiltinK Tryd.prog .len #[9] 3 #[false] #[(.string s)] K w = K (.int .i64 (s.size : Int)) w := by
  unfold BuiltinK; (first | (go_simp; rfl) | (go_simp; done))

theorem hlen9 (s : ByteArray) {K : Value → Prop} {w1 : World} : TakeO Tryd.prog (fun w' => w' = w1) (builtin .len #[9] 3 #[false] #[(.string s)]) K = K (.int .i64 (s.size : Int)) := by
  exact here_o (fun w => by (first | (go_simp; rfl) | (go_simp; done)))

theorem kblss3 (x y : Int) (K : Value → World → Prop) (w : World) : BinK Tryd.prog .lss 3 (.int .i64 x) (.int .i64 y) K w = K (.bool (decide (x < y))) w := by
  unfold BinK; (first | (go_simp; rfl) | (go_simp; done))

theorem kia22 (g o n c : Nat) (i : Int) (h : 0 ≤ i ∧ i < (n : Int)) (K : Value → World → Prop) (w : World) : IndexAtK Tryd.prog 22 (.slice (some ⟨g, o, none⟩) n c) (.int .i64 i) K w = K (.pointer (some ⟨g, o + i.toNat, none⟩)) w := by
  obtain ⟨h0, h1⟩ := h
  unfold IndexAtK; (first | (go_simp; rfl) | (go_simp; done))

theorem kld9 (a : Addr) (K : Value → World → Prop) (w : World) : LoadK Tryd.prog 9 (.pointer (some a)) K w = OptK (w.cell? a) (@hid _ ⟨fun v => K v w⟩) (LoadRaw Tryd.prog 9 a K w) := by
  exact loadK_eq Tryd.underlying9 rfl a K w

theorem kbneq3 (x y : Int) (K : Value → World → Prop) (w : World) : BinK Tryd.prog .neq 3 (.int .i64 x) (.int .i64 y) K w = K (.bool (x != y)) w := by
  unfold BinK; (first | (go_simp; rfl) | (go_simp; done))

theorem kbneq2 (x y : Int) (K : Value → World → Prop) (w : World) : BinK Tryd.prog .neq 2 (.int .i64 x) (.int .i64 y) K w = K (.bool (x != y)) w := by
  unfold BinK; (first | (go_simp; rfl) | (go_simp; done))

theorem kbrem3 (x y : Int) (h : 0 ≤ x ∧ 1 ≤ y ∧ x ≤ 9223372036854775807) (K : Value → World → Prop) (w : World) : BinK Tryd.prog .rem 3 (.int .i64 x) (.int .i64 y) K w = K (.int .i64 (x % y)) w := by
  obtain ⟨h0, h1, h2⟩ := h
  have h3 : ¬ y = 0 := by omega
  have h4 : x.tmod y = x % y := Int.tmod_eq_emod_of_nonneg h0
  have h5 : x.tdiv y = x / y := Int.tdiv_eq_ediv_of_nonneg h0
  have h6 : 0 ≤ x / y := Int.ediv_nonneg h0 (by omega)
  have h7 : x / y ≤ x := Int.ediv_le_self y h0
  unfold BinK; (first | (go_simp; rw [wrap_in (by omega)]; exact Iff.rfl) | (go_simp; rfl) | (go_simp; done))

theorem kbeql3 (x y : Int) (K : Value → World → Prop) (w : World) : BinK Tryd.prog .eql 3 (.int .i64 x) (.int .i64 y) K w = K (.bool (x == y)) w := by
  unfold BinK; (first | (go_simp; rfl) | (go_simp; done))

theorem kbneq9 (x y : ByteArray) (K : Value → World → Prop) (w : World) : BinK Tryd.prog .neq 9 (.string x) (.string y) K w = K (.bool (!(x.toList == y.toList))) w := by
  unfold BinK; (first | (go_simp; rfl) | (go_simp; done))

theorem kbeql24n (a : Addr) (K : Value → World → Prop) (w : World) : BinK Tryd.prog .eql 24 (.pointer (some a)) (.pointer none) K w = K (.bool false) w := by
  unfold BinK; (first | (go_simp; rfl) | (go_simp; done))

theorem kbadd3 (x y : Int) (K : Value → World → Prop) (w : World) : BinK Tryd.prog .add 3 (.int .i64 x) (.int .i64 y) K w = K (.int .i64 (IntKind.i64.wrap (x + y))) w := by
  unfold BinK; (first | (go_simp; rfl) | (go_simp; done))

theorem klen26 (A : Option Addr) (n c : Nat) (K : Value → World → Prop) (w : World) : BuiltinK Tryd.prog .len #[26] 3 #[false] #[(.slice A n c)] K w = K (.int .i64 (n : Int)) w := by
  unfold BuiltinK; (first | (go_simp; rfl) | (go_simp; done))

theorem hlen26 (A : Option Addr) (n c : Nat) {K : Value → Prop} {w1 : World} : TakeO Tryd.prog (fun w' => w' = w1) (builtin .len #[26] 3 #[false] #[(.slice A n c)]) K = K (.int .i64 (n : Int)) := by
  exact here_o (fun w => by (first | (go_simp; rfl) | (go_simp; done)))

theorem kia26 (g o n c : Nat) (i : Int) (h : 0 ≤ i ∧ i < (n : Int)) (K : Value → World → Prop) (w : World) : IndexAtK Tryd.prog 26 (.slice (some ⟨g, o, none⟩) n c) (.int .i64 i) K w = K (.pointer (some ⟨g, o + i.toNat * 2, none⟩)) w := by
  obtain ⟨h0, h1⟩ := h
  unfold IndexAtK; (first | (go_simp; rfl) | (go_simp; done))

theorem kfa39_0 (g o : Nat) (K : Value → World → Prop) (w : World) : FieldAtK Tryd.prog 39 (.pointer (some ⟨g, o, none⟩)) 0 K w = K (.pointer (some ⟨g, o, none⟩)) w := by
  unfold FieldAtK; (first | (go_simp; rfl) | (go_simp; done))

theorem kfa39_1 (g o : Nat) (K : Value → World → Prop) (w : World) : FieldAtK Tryd.prog 39 (.pointer (some ⟨g, o, none⟩)) 1 K w = K (.pointer (some ⟨g, o + 1, none⟩)) w := by
  unfold FieldAtK; (first | (go_simp; rfl) | (go_simp; done))

theorem kld2 (a : Addr) (K : Value → World → Prop) (w : World) : LoadK Tryd.prog 2 (.pointer (some a)) K w = OptK (w.cell? a) (@hid _ ⟨fun v => K v w⟩) (LoadRaw Tryd.prog 2 a K w) := by
  exact loadK_eq Tryd.underlying2 rfl a K w

theorem kbeql2 (x y : Int) (K : Value → World → Prop) (w : World) : BinK Tryd.prog .eql 2 (.int .i64 x) (.int .i64 y) K w = K (.bool (x == y)) w := by
  unfold BinK; (first | (go_simp; rfl) | (go_simp; done))

theorem klen32 (A : Option Addr) (n c : Nat) (K : Value → World → Prop) (w : World) : BuiltinK Tryd.prog .len #[32] 3 #[false] #[(.slice A n c)] K w = K (.int .i64 (n : Int)) w := by
  unfold BuiltinK; (first | (go_simp; rfl) | (go_simp; done))

theorem hlen32 (A : Option Addr) (n c : Nat) {K : Value → Prop} {w1 : World} : TakeO Tryd.prog (fun w' => w' = w1) (builtin .len #[32] 3 #[false] #[(.slice A n c)]) K = K (.int .i64 (n : Int)) := by
  exact here_o (fun w => by (first | (go_simp; rfl) | (go_simp; done)))

theorem kbs43_2_0_1 (v0A : Option Addr) (v0n v0c : Nat) (v1A : Option Addr) (v1n v1c : Nat) (K : Value → World → Prop) (w : World) : BuildSliceK Tryd.prog 43 2 #[(0, (.slice v0A v0n v0c)), (1, (.slice v1A v1n v1c))] K w = K (.slice (some ⟨w.heap.size, 0, none⟩) 2 2) (w.alloc (.cells #[(.slice v0A v0n v0c), (.slice v1A v1n v1c)] 32)) := by
  unfold BuildSliceK; (first | (go_simp; rfl) | (go_simp; done))

theorem kia43 (g o n c : Nat) (i : Int) (h : 0 ≤ i ∧ i < (n : Int)) (K : Value → World → Prop) (w : World) : IndexAtK Tryd.prog 43 (.slice (some ⟨g, o, none⟩) n c) (.int .i64 i) K w = K (.pointer (some ⟨g, o + i.toNat, none⟩)) w := by
  obtain ⟨h0, h1⟩ := h
  unfold IndexAtK; (first | (go_simp; rfl) | (go_simp; done))

theorem kld32 (a : Addr) (K : Value → World → Prop) (w : World) : LoadK Tryd.prog 32 (.pointer (some a)) K w = OptK (w.cell? a) (@hid _ ⟨fun v => K v w⟩) (LoadRaw Tryd.prog 32 a K w) := by
  exact loadK_eq Tryd.underlying32 rfl a K w

theorem kbneq24n (a : Addr) (K : Value → World → Prop) (w : World) : BinK Tryd.prog .neq 24 (.pointer (some a)) (.pointer none) K w = K (.bool true) w := by
  unfold BinK; (first | (go_simp; rfl) | (go_simp; done))

theorem kbneq4 (x y : Bool) (K : Value → World → Prop) (w : World) : BinK Tryd.prog .neq 4 (.bool x) (.bool y) K w = K (.bool (x != y)) w := by
  cases x <;> cases y <;> (unfold BinK; (first | (go_simp; rfl) | (go_simp; done)))

theorem kbleq2 (x y : Int) (K : Value → World → Prop) (w : World) : BinK Tryd.prog .leq 2 (.int .i64 x) (.int .i64 y) K w = K (.bool (decide (x ≤ y))) w := by
  unfold BinK; (first | (go_simp; rfl) | (go_simp; done))

theorem kbrem5 (x y : Int) (h : 0 ≤ x ∧ 1 ≤ y ∧ x ≤ 255) (K : Value → World → Prop) (w : World) : BinK Tryd.prog .rem 5 (.int .u8 x) (.int .u8 y) K w = K (.int .u8 (x % y)) w := by
  obtain ⟨h0, h1, h2⟩ := h
  have h3 : ¬ y = 0 := by omega
  have h4 : x.tmod y = x % y := Int.tmod_eq_emod_of_nonneg h0
  have h5 : x.tdiv y = x / y := Int.tdiv_eq_ediv_of_nonneg h0
  have h6 : 0 ≤ x / y := Int.ediv_nonneg h0 (by omega)
  have h7 : x / y ≤ x := Int.ediv_le_self y h0
  unfold BinK; (first | (go_simp; rw [wrap_in (by omega)]; exact Iff.rfl) | (go_simp; rfl) | (go_simp; done))

theorem kcv5_3 (x : Int) (K : Value → World → Prop) (w : World) : ConvK Tryd.prog 5 3 (.int .u8 x) K w = K (.int .i64 (IntKind.i64.wrap x)) w := by
  unfold ConvK; (first | (go_simp; rfl) | (go_simp; done))

theorem kbquo3 (x y : Int) (h : 0 ≤ x ∧ 1 ≤ y ∧ x ≤ 9223372036854775807) (K : Value → World → Prop) (w : World) : BinK Tryd.prog .quo 3 (.int .i64 x) (.int .i64 y) K w = K (.int .i64 (x / y)) w := by
  obtain ⟨h0, h1, h2⟩ := h
  have h3 : ¬ y = 0 := by omega
  have h4 : x.tmod y = x % y := Int.tmod_eq_emod_of_nonneg h0
  have h5 : x.tdiv y = x / y := Int.tdiv_eq_ediv_of_nonneg h0
  have h6 : 0 ≤ x / y := Int.ediv_nonneg h0 (by omega)
  have h7 : x / y ≤ x := Int.ediv_le_self y h0
  unfold BinK; (first | (go_simp; rw [wrap_in (by omega)]; exact Iff.rfl) | (go_simp; rfl) | (go_simp; done))

theorem kcv3_5 (x : Int) (K : Value → World → Prop) (w : World) : ConvK Tryd.prog 3 5 (.int .i64 x) K w = K (.int .u8 (IntKind.u8.wrap x)) w := by
  unfold ConvK; (first | (go_simp; rfl) | (go_simp; done))

theorem kbs32_2_0_1 (v0 : Int) (v1 : Int) (K : Value → World → Prop) (w : World) : BuildSliceK Tryd.prog 32 2 #[(0, (.int .u8 v0)), (1, (.int .u8 v1))] K w = K (.slice (some ⟨w.heap.size, 0, none⟩) 2 2) (w.alloc (.cells #[(.int .u8 v0), (.int .u8 v1)] 5)) := by
  unfold BuildSliceK; (first | (go_simp; rfl) | (go_simp; done))

theorem kbgeq3 (x y : Int) (K : Value → World → Prop) (w : World) : BinK Tryd.prog .geq 3 (.int .i64 x) (.int .i64 y) K w = K (.bool (decide (y ≤ x))) w := by
  unfold BinK; (first | (go_simp; rfl) | (go_simp; done))

theorem kbs32_5_0_1_2_3_4 (v0 : Int) (v1 : Int) (v2 : Int) (v3 : Int) (v4 : Int) (K : Value → World → Prop) (w : World) : BuildSliceK Tryd.prog 32 5 #[(0, (.int .u8 v0)), (1, (.int .u8 v1)), (2, (.int .u8 v2)), (3, (.int .u8 v3)), (4, (.int .u8 v4))] K w = K (.slice (some ⟨w.heap.size, 0, none⟩) 5 5) (w.alloc (.cells #[(.int .u8 v0), (.int .u8 v1), (.int .u8 v2), (.int .u8 v3), (.int .u8 v4)] 5)) := by
  unfold BuildSliceK; (first | (go_simp; rfl) | (go_simp; done))

theorem kbd52_0 (v0 : Option Addr) (K : Value → World → Prop) (w : World) : BuildK Tryd.prog 52 #[(0, (.pointer v0))] K w = K (.agg #[(.pointer v0)]) w := by
  unfold BuildK; (first | (go_simp; rfl) | (go_simp; done))

theorem kbx52 (v_0 : Option Addr) (K : Value → World → Prop) (w : World) : BoxK Tryd.prog 52 (.agg #[(.pointer v_0)]) K w = K (.pointer (some ⟨w.heap.size, 0, none⟩)) (w.alloc (.cells #[(.pointer v_0)] 52)) := by
  unfold BoxK; (first | (go_simp; rfl) | (go_simp; done))

theorem kblss9 (x y : ByteArray) (K : Value → World → Prop) (w : World) : BinK Tryd.prog .lss 9 (.string x) (.string y) K w = K (.bool (Op.bytesLess x.toList y.toList)) w := by
  unfold BinK; (first | (go_simp; rfl) | (go_simp; done))

theorem kbeql9 (x y : ByteArray) (K : Value → World → Prop) (w : World) : BinK Tryd.prog .eql 9 (.string x) (.string y) K w = K (.bool (x.toList == y.toList)) w := by
  unfold BinK; (first | (go_simp; rfl) | (go_simp; done))

theorem kbgeq2 (x y : Int) (K : Value → World → Prop) (w : World) : BinK Tryd.prog .geq 2 (.int .i64 x) (.int .i64 y) K w = K (.bool (decide (y ≤ x))) w := by
  unfold BinK; (first | (go_simp; rfl) | (go_simp; done))

theorem kbd39_0_1 (v0 : ByteArray) (v1 : Int) (K : Value → World → Prop) (w : World) : BuildK Tryd.prog 39 #[(0, (.string v0)), (1, (.int .i64 v1))] K w = K (.agg #[(.string v0), (.int .i64 v1)]) w := by
  unfold BuildK; (first | (go_simp; rfl) | (go_simp; done))

theorem kal39 (K : Value → World → Prop) (w : World) : AllocK Tryd.prog 39 K w = K (.pointer (some ⟨w.heap.size, 0, none⟩)) (w.alloc (.cells #[.string ByteArray.empty, .int .i64 0] 39)) := by
  unfold AllocK; (first | (go_simp; rfl) | (go_simp; done))

theorem kst39f (v_0 : ByteArray) (v_1 : Int) (z0 z1 : Value) (K : Value → World → Prop) (w : World) : StoreK Tryd.prog 39 (.pointer (some ⟨w.heap.size, 0, none⟩)) (.agg #[(.string v_0), (.int .i64 v_1)]) K (w.alloc (.cells #[z0, z1] 39)) = K undef (w.alloc (.cells #[(.string v_0), (.int .i64 v_1)] 39)) := by
  unfold StoreK; (first | (go_simp; rfl) | (go_simp; done))

theorem kbs26_0  (K : Value → World → Prop) (w : World) : BuildSliceK Tryd.prog 26 0 #[] K w = K (.slice (some ⟨w.heap.size, 0, none⟩) 0 0) (w.alloc (.cells #[] 39)) := by
  unfold BuildSliceK; (first | (go_simp; rfl) | (go_simp; done))

theorem ksl26_010z (K : Value → World → Prop) (w : World) : SliceK Tryd.prog 26 (.slice none 0 0) none (some (.int .i64 0)) none K w = K (.slice none 0 0) w := by
  unfold SliceK; (first | (go_simp; rfl) | (go_simp; done) | (go_simp; split <;> simp_all))

theorem ksl26_010 (g o n c : Nat) (h : Int) (hb : 0 ≤ h ∧ h ≤ (c : Int)) (K : Value → World → Prop) (w : World) : SliceK Tryd.prog 26 (.slice (some ⟨g, o, none⟩) n c) none (some (.int .i64 h)) none K w = K (.slice (some ⟨g, o, none⟩) h.toNat c) w := by
  obtain ⟨q0, q1⟩ := hb
  unfold SliceK; (first | (go_simp; rfl) | (go_simp; done) | (go_simp; split <;> simp_all))

theorem kbadd2 (x y : Int) (K : Value → World → Prop) (w : World) : BinK Tryd.prog .add 2 (.int .i64 x) (.int .i64 y) K w = K (.int .i64 (IntKind.i64.wrap (x + y))) w := by
  unfold BinK; (first | (go_simp; rfl) | (go_simp; done))

theorem kst2 (g o : Nat) (v : Int) (K : Value → World → Prop) (w : World) : StoreK Tryd.prog 2 (.pointer (some ⟨g, o, none⟩)) (.int .i64 v) K w = OptK (w.cell? ⟨g, o, none⟩) (@hid _ ⟨fun _ => FzK (w.frozen? ⟨g, o, none⟩) (@hid _ ⟨K undef (w.setCell ⟨g, o, none⟩ (.int .i64 v))⟩) (StoreRaw Tryd.prog 2 ⟨g, o, none⟩ (.int .i64 v) K w)⟩) (StoreRaw Tryd.prog 2 ⟨g, o, none⟩ (.int .i64 v) K w) := by
  cases h0 : w.cell? ⟨g, o, none⟩ with
  | none => rfl
  | some x =>
  cases f0 : w.frozen? ⟨g, o, none⟩ with
  | true => rfl
  | false =>
  simp only [optK_some, fzK_false]
  unfold StoreK; (first | (go_simp; rfl) | (go_simp; done))

theorem kld39 (g o : Nat) (K : Value → World → Prop) (w : World) : LoadK Tryd.prog 39 (.pointer (some ⟨g, o, none⟩)) K w = OptK (w.cell? ⟨g, o, none⟩) (@hid _ ⟨fun v0 => OptK (w.cell? ⟨g, o + 1, none⟩) (@hid _ ⟨fun v1 => K (.agg #[v0, v1]) w⟩) (LoadRaw Tryd.prog 39 ⟨g, o, none⟩ K w)⟩) (LoadRaw Tryd.prog 39 ⟨g, o, none⟩ K w) := by
  cases h0 : w.cell? ⟨g, o, none⟩ with
  | none => rfl
  | some v0 =>
  cases h1 : w.cell? ⟨g, o + 1, none⟩ with
  | none => rfl
  | some v1 =>
  simp only [optK_some]
  unfold LoadK; (first | (go_simp; rfl) | (go_simp; done))

theorem kbs26_1_0 (v0_0 : ByteArray) (v0_1 : Int) (K : Value → World → Prop) (w : World) : BuildSliceK Tryd.prog 26 1 #[(0, .agg #[(.string v0_0), (.int .i64 v0_1)])] K w = K (.slice (some ⟨w.heap.size, 0, none⟩) 1 1) (w.alloc (.cells #[(.string v0_0), (.int .i64 v0_1)] 39)) := by
  unfold BuildSliceK; (first | (go_simp; rfl) | (go_simp; done))

theorem ksl26_100z (K : Value → World → Prop) (w : World) : SliceK Tryd.prog 26 (.slice none 0 0) (some (.int .i64 0)) none none K w = K (.slice none 0 0) w := by
  unfold SliceK; (first | (go_simp; rfl) | (go_simp; done) | (go_simp; split <;> simp_all))

theorem ksl26_100 (g o n c : Nat) (l : Int) (hb : 0 ≤ l ∧ l ≤ (n : Int)) (K : Value → World → Prop) (w : World) : SliceK Tryd.prog 26 (.slice (some ⟨g, o, none⟩) n c) (some (.int .i64 l)) none none K w = K (.slice (if c = l.toNat then some ⟨g, o, none⟩ else some ⟨g, o + l.toNat * 2, none⟩) (n - l.toNat) (c - l.toNat)) w := by
  obtain ⟨q0, q1⟩ := hb
  unfold SliceK; (first | (go_simp; rfl) | (go_simp; done) | (go_simp; split <;> simp_all))

theorem kfa52_0 (g o : Nat) (K : Value → World → Prop) (w : World) : FieldAtK Tryd.prog 52 (.pointer (some ⟨g, o, none⟩)) 0 K w = K (.pointer (some ⟨g, o, none⟩)) w := by
  unfold FieldAtK; (first | (go_simp; rfl) | (go_simp; done))

theorem kld49 (a : Addr) (K : Value → World → Prop) (w : World) : LoadK Tryd.prog 49 (.pointer (some a)) K w = OptK (w.cell? a) (@hid _ ⟨fun v => K v w⟩) (LoadRaw Tryd.prog 49 a K w) := by
  exact loadK_eq Tryd.underlying49 rfl a K w

theorem kbd60_  (K : Value → World → Prop) (w : World) : BuildK Tryd.prog 60 #[] K w = K (.agg #[.slice none 0 0]) w := by
  unfold BuildK; (first | (go_simp; rfl) | (go_simp; done))

theorem kbx60 (v_0A : Option Addr) (v_0n v_0c : Nat) (K : Value → World → Prop) (w : World) : BoxK Tryd.prog 60 (.agg #[(.slice v_0A v_0n v_0c)]) K w = K (.pointer (some ⟨w.heap.size, 0, none⟩)) (w.alloc (.cells #[(.slice v_0A v_0n v_0c)] 60)) := by
  unfold BoxK; (first | (go_simp; rfl) | (go_simp; done))

theorem kbs92_1_0 (v0 : Int) (K : Value → World → Prop) (w : World) : BuildSliceK Tryd.prog 92 1 #[(0, (.int .i64 v0))] K w = K (.slice (some ⟨w.heap.size, 0, none⟩) 1 1) (w.alloc (.cells #[(.int .i64 v0)] 2)) := by
  unfold BuildSliceK; (first | (go_simp; rfl) | (go_simp; done))

theorem kbs22_1_0 (v0 : ByteArray) (K : Value → World → Prop) (w : World) : BuildSliceK Tryd.prog 22 1 #[(0, (.string v0))] K w = K (.slice (some ⟨w.heap.size, 0, none⟩) 1 1) (w.alloc (.cells #[(.string v0)] 9)) := by
  unfold BuildSliceK; (first | (go_simp; rfl) | (go_simp; done))

theorem kbneq29 (x y : Int) (K : Value → World → Prop) (w : World) : BinK Tryd.prog .neq 29 (.int .i64 x) (.int .i64 y) K w = K (.bool (x != y)) w := by
  unfold BinK; (first | (go_simp; rfl) | (go_simp; done))

theorem kbs32_0  (K : Value → World → Prop) (w : World) : BuildSliceK Tryd.prog 32 0 #[] K w = K (.slice (some ⟨w.heap.size, 0, none⟩) 0 0) (w.alloc (.cells #[] 5)) := by
  unfold BuildSliceK; (first | (go_simp; rfl) | (go_simp; done))

theorem kcv72_5 (x : Int) (K : Value → World → Prop) (w : World) : ConvK Tryd.prog 72 5 (.int .u32 x) K w = K (.int .u8 (IntKind.u8.wrap x)) w := by
  unfold ConvK; (first | (go_simp; rfl) | (go_simp; done))

theorem kbshr72_i32 (x y : Int) (h : 0 ≤ y) (K : Value → World → Prop) (w : World) : BinK Tryd.prog .shr 72 (.int .u32 x) (.int .i32 y) K w = K (.int .u32 (x / 2 ^ min y.toNat 32)) w := by
  unfold BinK; (first | (go_simp; rfl) | (go_simp; done))

theorem kbshr72_i64 (x y : Int) (h : 0 ≤ y) (K : Value → World → Prop) (w : World) : BinK Tryd.prog .shr 72 (.int .u32 x) (.int .i64 y) K w = K (.int .u32 (x / 2 ^ min y.toNat 32)) w := by
  unfold BinK; (first | (go_simp; rfl) | (go_simp; done))

theorem kbshr72_u32 (x y : Int) (h : 0 ≤ y) (K : Value → World → Prop) (w : World) : BinK Tryd.prog .shr 72 (.int .u32 x) (.int .u32 y) K w = K (.int .u32 (x / 2 ^ min y.toNat 32)) w := by
  unfold BinK; (first | (go_simp; rfl) | (go_simp; done))

theorem kbshr72_u64 (x y : Int) (h : 0 ≤ y) (K : Value → World → Prop) (w : World) : BinK Tryd.prog .shr 72 (.int .u32 x) (.int .u64 y) K w = K (.int .u32 (x / 2 ^ min y.toNat 32)) w := by
  unfold BinK; (first | (go_simp; rfl) | (go_simp; done))

theorem kbshr72_u8 (x y : Int) (h : 0 ≤ y) (K : Value → World → Prop) (w : World) : BinK Tryd.prog .shr 72 (.int .u32 x) (.int .u8 y) K w = K (.int .u32 (x / 2 ^ min y.toNat 32)) w := by
  unfold BinK; (first | (go_simp; rfl) | (go_simp; done))

theorem kbs32_4_0_1_2_3 (v0 : Int) (v1 : Int) (v2 : Int) (v3 : Int) (K : Value → World → Prop) (w : World) : BuildSliceK Tryd.prog 32 4 #[(0, (.int .u8 v0)), (1, (.int .u8 v1)), (2, (.int .u8 v2)), (3, (.int .u8 v3))] K w = K (.slice (some ⟨w.heap.size, 0, none⟩) 4 4) (w.alloc (.cells #[(.int .u8 v0), (.int .u8 v1), (.int .u8 v2), (.int .u8 v3)] 5)) := by
  unfold BuildSliceK; (first | (go_simp; rfl) | (go_simp; done))

theorem kbd79_0 (v0A : Option Addr) (v0n v0c : Nat) (K : Value → World → Prop) (w : World) : BuildK Tryd.prog 79 #[(0, (.slice v0A v0n v0c))] K w = K (.agg #[(.slice v0A v0n v0c), .int .i64 0, .int .i64 0]) w := by
  unfold BuildK; (first | (go_simp; rfl) | (go_simp; done))

theorem kbx79 (v_0A : Option Addr) (v_0n v_0c : Nat) (v_1 : Int) (v_2 : Int) (K : Value → World → Prop) (w : World) : BoxK Tryd.prog 79 (.agg #[(.slice v_0A v_0n v_0c), (.int .i64 v_1), (.int .i64 v_2)]) K w = K (.pointer (some ⟨w.heap.size, 0, none⟩)) (w.alloc (.cells #[(.slice v_0A v_0n v_0c), (.int .i64 v_1), (.int .i64 v_2)] 79)) := by
  unfold BoxK; (first | (go_simp; rfl) | (go_simp; done))

theorem kfa79_2 (g o : Nat) (K : Value → World → Prop) (w : World) : FieldAtK Tryd.prog 79 (.pointer (some ⟨g, o, none⟩)) 2 K w = K (.pointer (some ⟨g, o + 2, none⟩)) w := by
  unfold FieldAtK; (first | (go_simp; rfl) | (go_simp; done))

theorem kld3 (a : Addr) (K : Value → World → Prop) (w : World) : LoadK Tryd.prog 3 (.pointer (some a)) K w = OptK (w.cell? a) (@hid _ ⟨fun v => K v w⟩) (LoadRaw Tryd.prog 3 a K w) := by
  exact loadK_eq Tryd.underlying3 rfl a K w

theorem kblss2 (x y : Int) (K : Value → World → Prop) (w : World) : BinK Tryd.prog .lss 2 (.int .i64 x) (.int .i64 y) K w = K (.bool (decide (x < y))) w := by
  unfold BinK; (first | (go_simp; rfl) | (go_simp; done))

theorem kbgtr2 (x y : Int) (K : Value → World → Prop) (w : World) : BinK Tryd.prog .gtr 2 (.int .i64 x) (.int .i64 y) K w = K (.bool (decide (y < x))) w := by
  unfold BinK; (first | (go_simp; rfl) | (go_simp; done))

theorem kbd39_0 (v0 : ByteArray) (K : Value → World → Prop) (w : World) : BuildK Tryd.prog 39 #[(0, (.string v0))] K w = K (.agg #[(.string v0), .int .i64 0]) w := by
  unfold BuildK; (first | (go_simp; rfl) | (go_simp; done))

theorem kbsub3 (x y : Int) (K : Value → World → Prop) (w : World) : BinK Tryd.prog .sub 3 (.int .i64 x) (.int .i64 y) K w = K (.int .i64 (IntKind.i64.wrap (x - y))) w := by
  unfold BinK; (first | (go_simp; rfl) | (go_simp; done))

theorem kbgeq9 (x y : ByteArray) (K : Value → World → Prop) (w : World) : BinK Tryd.prog .geq 9 (.string x) (.string y) K w = K (.bool (!(Op.bytesLess x.toList y.toList))) w := by
  unfold BinK; (first | (go_simp; rfl) | (go_simp; done))

theorem kbd84_  (K : Value → World → Prop) (w : World) : BuildK Tryd.prog 84 #[] K w = K (.agg #[.slice none 0 0]) w := by
  unfold BuildK; (first | (go_simp; rfl) | (go_simp; done))

theorem kbx84 (v_0A : Option Addr) (v_0n v_0c : Nat) (K : Value → World → Prop) (w : World) : BoxK Tryd.prog 84 (.agg #[(.slice v_0A v_0n v_0c)]) K w = K (.pointer (some ⟨w.heap.size, 0, none⟩)) (w.alloc (.cells #[(.slice v_0A v_0n v_0c)] 84)) := by
  unfold BoxK; (first | (go_simp; rfl) | (go_simp; done))

theorem kfa84_0 (g o : Nat) (K : Value → World → Prop) (w : World) : FieldAtK Tryd.prog 84 (.pointer (some ⟨g, o, none⟩)) 0 K w = K (.pointer (some ⟨g, o, none⟩)) w := by
  unfold FieldAtK; (first | (go_simp; rfl) | (go_simp; done))

theorem kld82 (a : Addr) (K : Value → World → Prop) (w : World) : LoadK Tryd.prog 82 (.pointer (some a)) K w = OptK (w.cell? a) (@hid _ ⟨fun v => K v w⟩) (LoadRaw Tryd.prog 82 a K w) := by
  exact loadK_eq Tryd.underlying82 rfl a K w

theorem kia82 (g o n c : Nat) (i : Int) (h : 0 ≤ i ∧ i < (n : Int)) (K : Value → World → Prop) (w : World) : IndexAtK Tryd.prog 82 (.slice (some ⟨g, o, none⟩) n c) (.int .i64 i) K w = K (.pointer (some ⟨g, o + i.toNat * 2, none⟩)) w := by
  obtain ⟨h0, h1⟩ := h
  unfold IndexAtK; (first | (go_simp; rfl) | (go_simp; done))

theorem kfa90_1 (g o : Nat) (K : Value → World → Prop) (w : World) : FieldAtK Tryd.prog 90 (.pointer (some ⟨g, o, none⟩)) 1 K w = K (.pointer (some ⟨g, o + 1, none⟩)) w := by
  unfold FieldAtK; (first | (go_simp; rfl) | (go_simp; done))

theorem klen82 (A : Option Addr) (n c : Nat) (K : Value → World → Prop) (w : World) : BuiltinK Tryd.prog .len #[82] 3 #[false] #[(.slice A n c)] K w = K (.int .i64 (n : Int)) w := by
  unfold BuiltinK; (first | (go_simp; rfl) | (go_simp; done))

theorem hlen82 (A : Option Addr) (n c : Nat) {K : Value → Prop} {w1 : World} : TakeO Tryd.prog (fun w' => w' = w1) (builtin .len #[82] 3 #[false] #[(.slice A n c)]) K = K (.int .i64 (n : Int)) := by
  exact here_o (fun w => by (first | (go_simp; rfl) | (go_simp; done)))

theorem kbd90_0_1 (v0 : ByteArray) (v1 : Int) (K : Value → World → Prop) (w : World) : BuildK Tryd.prog 90 #[(0, (.string v0)), (1, (.int .i64 v1))] K w = K (.agg #[(.string v0), (.int .i64 v1)]) w := by
  unfold BuildK; (first | (go_simp; rfl) | (go_simp; done))

theorem kbs82_1_0 (v0_0 : ByteArray) (v0_1 : Int) (K : Value → World → Prop) (w : World) : BuildSliceK Tryd.prog 82 1 #[(0, .agg #[(.string v0_0), (.int .i64 v0_1)])] K w = K (.slice (some ⟨w.heap.size, 0, none⟩) 1 1) (w.alloc (.cells #[(.string v0_0), (.int .i64 v0_1)] 90)) := by
  unfold BuildSliceK; (first | (go_simp; rfl) | (go_simp; done))

theorem kst82 (g o : Nat) (vA : Option Addr) (vn vc : Nat) (K : Value → World → Prop) (w : World) : StoreK Tryd.prog 82 (.pointer (some ⟨g, o, none⟩)) (.slice vA vn vc) K w = OptK (w.cell? ⟨g, o, none⟩) (@hid _ ⟨fun _ => FzK (w.frozen? ⟨g, o, none⟩) (@hid _ ⟨K undef (w.setCell ⟨g, o, none⟩ (.slice vA vn vc))⟩) (StoreRaw Tryd.prog 82 ⟨g, o, none⟩ (.slice vA vn vc) K w)⟩) (StoreRaw Tryd.prog 82 ⟨g, o, none⟩ (.slice vA vn vc) K w) := by
  cases h0 : w.cell? ⟨g, o, none⟩ with
  | none => rfl
  | some x =>
  cases f0 : w.frozen? ⟨g, o, none⟩ with
  | true => rfl
  | false =>
  simp only [optK_some, fzK_false]
  unfold StoreK; (first | (go_simp; rfl) | (go_simp; done))

theorem klen92 (A : Option Addr) (n c : Nat) (K : Value → World → Prop) (w : World) : BuiltinK Tryd.prog .len #[92] 3 #[false] #[(.slice A n c)] K w = K (.int .i64 (n : Int)) w := by
  unfold BuiltinK; (first | (go_simp; rfl) | (go_simp; done))

theorem hlen92 (A : Option Addr) (n c : Nat) {K : Value → Prop} {w1 : World} : TakeO Tryd.prog (fun w' => w' = w1) (builtin .len #[92] 3 #[false] #[(.slice A n c)]) K = K (.int .i64 (n : Int)) := by
  exact here_o (fun w => by (first | (go_simp; rfl) | (go_simp; done)))

theorem kia92 (g o n c : Nat) (i : Int) (h : 0 ≤ i ∧ i < (n : Int)) (K : Value → World → Prop) (w : World) : IndexAtK Tryd.prog 92 (.slice (some ⟨g, o, none⟩) n c) (.int .i64 i) K w = K (.pointer (some ⟨g, o + i.toNat, none⟩)) w := by
  obtain ⟨h0, h1⟩ := h
  unfold IndexAtK; (first | (go_simp; rfl) | (go_simp; done))

theorem kcv2_93 (x : Int) (K : Value → World → Prop) (w : World) : ConvK Tryd.prog 2 93 (.int .i64 x) K w = K (.int .u64 (IntKind.u64.wrap x)) w := by
  unfold ConvK; (first | (go_simp; rfl) | (go_simp; done))

theorem kbshl93_i32 (x y : Int) (h : 0 ≤ y) (K : Value → World → Prop) (w : World) : BinK Tryd.prog .shl 93 (.int .u64 x) (.int .i32 y) K w = K (.int .u64 (IntKind.u64.wrap (x * 2 ^ min y.toNat 64))) w := by
  unfold BinK; (first | (go_simp; rfl) | (go_simp; done))

theorem kbshl93_i64 (x y : Int) (h : 0 ≤ y) (K : Value → World → Prop) (w : World) : BinK Tryd.prog .shl 93 (.int .u64 x) (.int .i64 y) K w = K (.int .u64 (IntKind.u64.wrap (x * 2 ^ min y.toNat 64))) w := by
  unfold BinK; (first | (go_simp; rfl) | (go_simp; done))

theorem kbshl93_u32 (x y : Int) (h : 0 ≤ y) (K : Value → World → Prop) (w : World) : BinK Tryd.prog .shl 93 (.int .u64 x) (.int .u32 y) K w = K (.int .u64 (IntKind.u64.wrap (x * 2 ^ min y.toNat 64))) w := by
  unfold BinK; (first | (go_simp; rfl) | (go_simp; done))

theorem kbshl93_u64 (x y : Int) (h : 0 ≤ y) (K : Value → World → Prop) (w : World) : BinK Tryd.prog .shl 93 (.int .u64 x) (.int .u64 y) K w = K (.int .u64 (IntKind.u64.wrap (x * 2 ^ min y.toNat 64))) w := by
  unfold BinK; (first | (go_simp; rfl) | (go_simp; done))

theorem kbshl93_u8 (x y : Int) (h : 0 ≤ y) (K : Value → World → Prop) (w : World) : BinK Tryd.prog .shl 93 (.int .u64 x) (.int .u8 y) K w = K (.int .u64 (IntKind.u64.wrap (x * 2 ^ min y.toNat 64))) w := by
  unfold BinK; (first | (go_simp; rfl) | (go_simp; done))

theorem kbshr2_i32 (x y : Int) (h : 0 ≤ y) (K : Value → World → Prop) (w : World) : BinK Tryd.prog .shr 2 (.int .i64 x) (.int .i32 y) K w = K (.int .i64 (x / 2 ^ min y.toNat 64)) w := by
  unfold BinK; (first | (go_simp; rfl) | (go_simp; done))

theorem kbshr2_i64 (x y : Int) (h : 0 ≤ y) (K : Value → World → Prop) (w : World) : BinK Tryd.prog .shr 2 (.int .i64 x) (.int .i64 y) K w = K (.int .i64 (x / 2 ^ min y.toNat 64)) w := by
  unfold BinK; (first | (go_simp; rfl) | (go_simp; done))

theorem kbshr2_u32 (x y : Int) (h : 0 ≤ y) (K : Value → World → Prop) (w : World) : BinK Tryd.prog .shr 2 (.int .i64 x) (.int .u32 y) K w = K (.int .i64 (x / 2 ^ min y.toNat 64)) w := by
  unfold BinK; (first | (go_simp; rfl) | (go_simp; done))

theorem kbshr2_u64 (x y : Int) (h : 0 ≤ y) (K : Value → World → Prop) (w : World) : BinK Tryd.prog .shr 2 (.int .i64 x) (.int .u64 y) K w = K (.int .i64 (x / 2 ^ min y.toNat 64)) w := by
  unfold BinK; (first | (go_simp; rfl) | (go_simp; done))

theorem kbshr2_u8 (x y : Int) (h : 0 ≤ y) (K : Value → World → Prop) (w : World) : BinK Tryd.prog .shr 2 (.int .i64 x) (.int .u8 y) K w = K (.int .i64 (x / 2 ^ min y.toNat 64)) w := by
  unfold BinK; (first | (go_simp; rfl) | (go_simp; done))

theorem kbxor93 (x y : Int) (K : Value → World → Prop) (w : World) : BinK Tryd.prog .xor 93 (.int .u64 x) (.int .u64 y) K w = K (.int .u64 (bits .xor .u64 x y)) w := by
  unfold BinK; (first | (go_simp; rfl) | (go_simp; done))

theorem kbgeq93 (x y : Int) (K : Value → World → Prop) (w : World) : BinK Tryd.prog .geq 93 (.int .u64 x) (.int .u64 y) K w = K (.bool (decide (y ≤ x))) w := by
  unfold BinK; (first | (go_simp; rfl) | (go_simp; done))

theorem kfa60_0 (g o : Nat) (K : Value → World → Prop) (w : World) : FieldAtK Tryd.prog 60 (.pointer (some ⟨g, o, none⟩)) 0 K w = K (.pointer (some ⟨g, o, none⟩)) w := by
  unfold FieldAtK; (first | (go_simp; rfl) | (go_simp; done))

theorem kcv93_5 (x : Int) (K : Value → World → Prop) (w : World) : ConvK Tryd.prog 93 5 (.int .u64 x) K w = K (.int .u8 (IntKind.u8.wrap x)) w := by
  unfold ConvK; (first | (go_simp; rfl) | (go_simp; done))

theorem kbor5 (x y : Int) (K : Value → World → Prop) (w : World) : BinK Tryd.prog .or 5 (.int .u8 x) (.int .u8 y) K w = K (.int .u8 (bits .or .u8 x y)) w := by
  unfold BinK; (first | (go_simp; rfl) | (go_simp; done))

theorem kbs32_1_0 (v0 : Int) (K : Value → World → Prop) (w : World) : BuildSliceK Tryd.prog 32 1 #[(0, (.int .u8 v0))] K w = K (.slice (some ⟨w.heap.size, 0, none⟩) 1 1) (w.alloc (.cells #[(.int .u8 v0)] 5)) := by
  unfold BuildSliceK; (first | (go_simp; rfl) | (go_simp; done))

theorem kst32 (g o : Nat) (vA : Option Addr) (vn vc : Nat) (K : Value → World → Prop) (w : World) : StoreK Tryd.prog 32 (.pointer (some ⟨g, o, none⟩)) (.slice vA vn vc) K w = OptK (w.cell? ⟨g, o, none⟩) (@hid _ ⟨fun _ => FzK (w.frozen? ⟨g, o, none⟩) (@hid _ ⟨K undef (w.setCell ⟨g, o, none⟩ (.slice vA vn vc))⟩) (StoreRaw Tryd.prog 32 ⟨g, o, none⟩ (.slice vA vn vc) K w)⟩) (StoreRaw Tryd.prog 32 ⟨g, o, none⟩ (.slice vA vn vc) K w) := by
  cases h0 : w.cell? ⟨g, o, none⟩ with
  | none => rfl
  | some x =>
  cases f0 : w.frozen? ⟨g, o, none⟩ with
  | true => rfl
  | false =>
  simp only [optK_some, fzK_false]
  unfold StoreK; (first | (go_simp; rfl) | (go_simp; done))

theorem kbshr93_i32 (x y : Int) (h : 0 ≤ y) (K : Value → World → Prop) (w : World) : BinK Tryd.prog .shr 93 (.int .u64 x) (.int .i32 y) K w = K (.int .u64 (x / 2 ^ min y.toNat 64)) w := by
  unfold BinK; (first | (go_simp; rfl) | (go_simp; done))

theorem kbshr93_i64 (x y : Int) (h : 0 ≤ y) (K : Value → World → Prop) (w : World) : BinK Tryd.prog .shr 93 (.int .u64 x) (.int .i64 y) K w = K (.int .u64 (x / 2 ^ min y.toNat 64)) w := by
  unfold BinK; (first | (go_simp; rfl) | (go_simp; done))

theorem kbshr93_u32 (x y : Int) (h : 0 ≤ y) (K : Value → World → Prop) (w : World) : BinK Tryd.prog .shr 93 (.int .u64 x) (.int .u32 y) K w = K (.int .u64 (x / 2 ^ min y.toNat 64)) w := by
  unfold BinK; (first | (go_simp; rfl) | (go_simp; done))

theorem kbshr93_u64 (x y : Int) (h : 0 ≤ y) (K : Value → World → Prop) (w : World) : BinK Tryd.prog .shr 93 (.int .u64 x) (.int .u64 y) K w = K (.int .u64 (x / 2 ^ min y.toNat 64)) w := by
  unfold BinK; (first | (go_simp; rfl) | (go_simp; done))

theorem kbshr93_u8 (x y : Int) (h : 0 ≤ y) (K : Value → World → Prop) (w : World) : BinK Tryd.prog .shr 93 (.int .u64 x) (.int .u8 y) K w = K (.int .u64 (x / 2 ^ min y.toNat 64)) w := by
  unfold BinK; (first | (go_simp; rfl) | (go_simp; done))

theorem kal90 (K : Value → World → Prop) (w : World) : AllocK Tryd.prog 90 K w = K (.pointer (some ⟨w.heap.size, 0, none⟩)) (w.alloc (.cells #[.string ByteArray.empty, .int .i64 0] 90)) := by
  unfold AllocK; (first | (go_simp; rfl) | (go_simp; done))

theorem kfa90_0 (g o : Nat) (K : Value → World → Prop) (w : World) : FieldAtK Tryd.prog 90 (.pointer (some ⟨g, o, none⟩)) 0 K w = K (.pointer (some ⟨g, o, none⟩)) w := by
  unfold FieldAtK; (first | (go_simp; rfl) | (go_simp; done))

theorem kbmul3 (x y : Int) (K : Value → World → Prop) (w : World) : BinK Tryd.prog .mul 3 (.int .i64 x) (.int .i64 y) K w = K (.int .i64 (IntKind.i64.wrap (x * y))) w := by
  unfold BinK; (first | (go_simp; rfl) | (go_simp; done))

theorem kbsub2 (x y : Int) (K : Value → World → Prop) (w : World) : BinK Tryd.prog .sub 2 (.int .i64 x) (.int .i64 y) K w = K (.int .i64 (IntKind.i64.wrap (x - y))) w := by
  unfold BinK; (first | (go_simp; rfl) | (go_simp; done))

theorem kbor93 (x y : Int) (K : Value → World → Prop) (w : World) : BinK Tryd.prog .or 93 (.int .u64 x) (.int .u64 y) K w = K (.int .u64 (bits .or .u64 x y)) w := by
  unfold BinK; (first | (go_simp; rfl) | (go_simp; done))

theorem kband93 (x y : Int) (K : Value → World → Prop) (w : World) : BinK Tryd.prog .and 93 (.int .u64 x) (.int .u64 y) K w = K (.int .u64 (bits .and .u64 x y)) w := by
  unfold BinK; (first | (go_simp; rfl) | (go_simp; done))

theorem ksl32_010z (K : Value → World → Prop) (w : World) : SliceK Tryd.prog 32 (.slice none 0 0) none (some (.int .i64 0)) none K w = K (.slice none 0 0) w := by
  unfold SliceK; (first | (go_simp; rfl) | (go_simp; done) | (go_simp; split <;> simp_all))

theorem ksl32_010 (g o n c : Nat) (h : Int) (hb : 0 ≤ h ∧ h ≤ (c : Int)) (K : Value → World → Prop) (w : World) : SliceK Tryd.prog 32 (.slice (some ⟨g, o, none⟩) n c) none (some (.int .i64 h)) none K w = K (.slice (some ⟨g, o, none⟩) h.toNat c) w := by
  obtain ⟨q0, q1⟩ := hb
  unfold SliceK; (first | (go_simp; rfl) | (go_simp; done) | (go_simp; split <;> simp_all))

theorem kbd97_0_1 (v0 : ByteArray) (v1 : Int) (K : Value → World → Prop) (w : World) : BuildK Tryd.prog 97 #[(0, (.string v0)), (1, (.int .i64 v1))] K w = K (.agg #[(.string v0), (.int .i64 v1)]) w := by
  unfold BuildK; (first | (go_simp; rfl) | (go_simp; done))

theorem kbs95_1_0 (v0_0 : ByteArray) (v0_1 : Int) (K : Value → World → Prop) (w : World) : BuildSliceK Tryd.prog 95 1 #[(0, .agg #[(.string v0_0), (.int .i64 v0_1)])] K w = K (.slice (some ⟨w.heap.size, 0, none⟩) 1 1) (w.alloc (.cells #[(.string v0_0), (.int .i64 v0_1)] 97)) := by
  unfold BuildSliceK; (first | (go_simp; rfl) | (go_simp; done))

theorem klen95 (A : Option Addr) (n c : Nat) (K : Value → World → Prop) (w : World) : BuiltinK Tryd.prog .len #[95] 3 #[false] #[(.slice A n c)] K w = K (.int .i64 (n : Int)) w := by
  unfold BuiltinK; (first | (go_simp; rfl) | (go_simp; done))

theorem hlen95 (A : Option Addr) (n c : Nat) {K : Value → Prop} {w1 : World} : TakeO Tryd.prog (fun w' => w' = w1) (builtin .len #[95] 3 #[false] #[(.slice A n c)]) K = K (.int .i64 (n : Int)) := by
  exact here_o (fun w => by (first | (go_simp; rfl) | (go_simp; done)))

theorem kia95 (g o n c : Nat) (i : Int) (h : 0 ≤ i ∧ i < (n : Int)) (K : Value → World → Prop) (w : World) : IndexAtK Tryd.prog 95 (.slice (some ⟨g, o, none⟩) n c) (.int .i64 i) K w = K (.pointer (some ⟨g, o + i.toNat * 2, none⟩)) w := by
  obtain ⟨h0, h1⟩ := h
  unfold IndexAtK; (first | (go_simp; rfl) | (go_simp; done))

theorem kld97 (g o : Nat) (K : Value → World → Prop) (w : World) : LoadK Tryd.prog 97 (.pointer (some ⟨g, o, none⟩)) K w = OptK (w.cell? ⟨g, o, none⟩) (@hid _ ⟨fun v0 => OptK (w.cell? ⟨g, o + 1, none⟩) (@hid _ ⟨fun v1 => K (.agg #[v0, v1]) w⟩) (LoadRaw Tryd.prog 97 ⟨g, o, none⟩ K w)⟩) (LoadRaw Tryd.prog 97 ⟨g, o, none⟩ K w) := by
  cases h0 : w.cell? ⟨g, o, none⟩ with
  | none => rfl
  | some v0 =>
  cases h1 : w.cell? ⟨g, o + 1, none⟩ with
  | none => rfl
  | some v1 =>
  simp only [optK_some]
  unfold LoadK; (first | (go_simp; rfl) | (go_simp; done))

theorem kal97 (K : Value → World → Prop) (w : World) : AllocK Tryd.prog 97 K w = K (.pointer (some ⟨w.heap.size, 0, none⟩)) (w.alloc (.cells #[.string ByteArray.empty, .int .i64 0] 97)) := by
  unfold AllocK; (first | (go_simp; rfl) | (go_simp; done))

theorem kst97f (v_0 : ByteArray) (v_1 : Int) (z0 z1 : Value) (K : Value → World → Prop) (w : World) : StoreK Tryd.prog 97 (.pointer (some ⟨w.heap.size, 0, none⟩)) (.agg #[(.string v_0), (.int .i64 v_1)]) K (w.alloc (.cells #[z0, z1] 97)) = K undef (w.alloc (.cells #[(.string v_0), (.int .i64 v_1)] 97)) := by
  unfold StoreK; (first | (go_simp; rfl) | (go_simp; done))

theorem kfa97_0 (g o : Nat) (K : Value → World → Prop) (w : World) : FieldAtK Tryd.prog 97 (.pointer (some ⟨g, o, none⟩)) 0 K w = K (.pointer (some ⟨g, o, none⟩)) w := by
  unfold FieldAtK; (first | (go_simp; rfl) | (go_simp; done))

theorem kbleq9 (x y : ByteArray) (K : Value → World → Prop) (w : World) : BinK Tryd.prog .leq 9 (.string x) (.string y) K w = K (.bool (Op.bytesLess x.toList y.toList || x.toList == y.toList)) w := by
  unfold BinK; (first | (go_simp; rfl) | (go_simp; done))

theorem kfa97_1 (g o : Nat) (K : Value → World → Prop) (w : World) : FieldAtK Tryd.prog 97 (.pointer (some ⟨g, o, none⟩)) 1 K w = K (.pointer (some ⟨g, o + 1, none⟩)) w := by
  unfold FieldAtK; (first | (go_simp; rfl) | (go_simp; done))

theorem kbd99_0 (v0A : Option Addr) (v0n v0c : Nat) (K : Value → World → Prop) (w : World) : BuildK Tryd.prog 99 #[(0, (.slice v0A v0n v0c))] K w = K (.agg #[(.slice v0A v0n v0c), .int .i64 0]) w := by
  unfold BuildK; (first | (go_simp; rfl) | (go_simp; done))

theorem kbx99 (v_0A : Option Addr) (v_0n v_0c : Nat) (v_1 : Int) (K : Value → World → Prop) (w : World) : BoxK Tryd.prog 99 (.agg #[(.slice v_0A v_0n v_0c), (.int .i64 v_1)]) K w = K (.pointer (some ⟨w.heap.size, 0, none⟩)) (w.alloc (.cells #[(.slice v_0A v_0n v_0c), (.int .i64 v_1)] 99)) := by
  unfold BoxK; (first | (go_simp; rfl) | (go_simp; done))

theorem kia32 (g o n c : Nat) (i : Int) (h : 0 ≤ i ∧ i < (n : Int)) (K : Value → World → Prop) (w : World) : IndexAtK Tryd.prog 32 (.slice (some ⟨g, o, none⟩) n c) (.int .i64 i) K w = K (.pointer (some ⟨g, o + i.toNat, none⟩)) w := by
  obtain ⟨h0, h1⟩ := h
  unfold IndexAtK; (first | (go_simp; rfl) | (go_simp; done))

theorem kld5 (a : Addr) (K : Value → World → Prop) (w : World) : LoadK Tryd.prog 5 (.pointer (some a)) K w = OptK (w.cell? a) (@hid _ ⟨fun v => K v w⟩) (LoadRaw Tryd.prog 5 a K w) := by
  exact loadK_eq Tryd.underlying5 rfl a K w

theorem kcv5_72 (x : Int) (K : Value → World → Prop) (w : World) : ConvK Tryd.prog 5 72 (.int .u8 x) K w = K (.int .u32 (IntKind.u32.wrap x)) w := by
  unfold ConvK; (first | (go_simp; rfl) | (go_simp; done))

theorem kbxor72 (x y : Int) (K : Value → World → Prop) (w : World) : BinK Tryd.prog .xor 72 (.int .u32 x) (.int .u32 y) K w = K (.int .u32 (bits .xor .u32 x y)) w := by
  unfold BinK; (first | (go_simp; rfl) | (go_simp; done))

theorem kband72 (x y : Int) (K : Value → World → Prop) (w : World) : BinK Tryd.prog .and 72 (.int .u32 x) (.int .u32 y) K w = K (.int .u32 (bits .and .u32 x y)) w := by
  unfold BinK; (first | (go_simp; rfl) | (go_simp; done))

theorem kbeql72 (x y : Int) (K : Value → World → Prop) (w : World) : BinK Tryd.prog .eql 72 (.int .u32 x) (.int .u32 y) K w = K (.bool (x == y)) w := by
  unfold BinK; (first | (go_simp; rfl) | (go_simp; done))

theorem kuxor72 (x : Int) (K : Value → World → Prop) (w : World) : UnK Tryd.prog .xor (.int .u32 x) K w = K (.int .u32 (bits .xor .u32 (if IntKind.u32.signed then -1 else IntKind.u32.max) x)) w := by
  unfold UnK; (first | (go_simp; rfl) | (go_simp; done))

theorem kfa79_1 (g o : Nat) (K : Value → World → Prop) (w : World) : FieldAtK Tryd.prog 79 (.pointer (some ⟨g, o, none⟩)) 1 K w = K (.pointer (some ⟨g, o + 1, none⟩)) w := by
  unfold FieldAtK; (first | (go_simp; rfl) | (go_simp; done))

theorem kfa79_0 (g o : Nat) (K : Value → World → Prop) (w : World) : FieldAtK Tryd.prog 79 (.pointer (some ⟨g, o, none⟩)) 0 K w = K (.pointer (some ⟨g, o, none⟩)) w := by
  unfold FieldAtK; (first | (go_simp; rfl) | (go_simp; done))

theorem kst3 (g o : Nat) (v : Int) (K : Value → World → Prop) (w : World) : StoreK Tryd.prog 3 (.pointer (some ⟨g, o, none⟩)) (.int .i64 v) K w = OptK (w.cell? ⟨g, o, none⟩) (@hid _ ⟨fun _ => FzK (w.frozen? ⟨g, o, none⟩) (@hid _ ⟨K undef (w.setCell ⟨g, o, none⟩ (.int .i64 v))⟩) (StoreRaw Tryd.prog 3 ⟨g, o, none⟩ (.int .i64 v) K w)⟩) (StoreRaw Tryd.prog 3 ⟨g, o, none⟩ (.int .i64 v) K w) := by
  cases h0 : w.cell? ⟨g, o, none⟩ with
  | none => rfl
  | some x =>
  cases f0 : w.frozen? ⟨g, o, none⟩ with
  | true => rfl
  | false =>
  simp only [optK_some, fzK_false]
  unfold StoreK; (first | (go_simp; rfl) | (go_simp; done))

theorem kcv5_93 (x : Int) (K : Value → World → Prop) (w : World) : ConvK Tryd.prog 5 93 (.int .u8 x) K w = K (.int .u64 (IntKind.u64.wrap x)) w := by
  unfold ConvK; (first | (go_simp; rfl) | (go_simp; done))

theorem kbgtr93 (x y : Int) (K : Value → World → Prop) (w : World) : BinK Tryd.prog .gtr 93 (.int .u64 x) (.int .u64 y) K w = K (.bool (decide (y < x))) w := by
  unfold BinK; (first | (go_simp; rfl) | (go_simp; done))

theorem kbeql93 (x y : Int) (K : Value → World → Prop) (w : World) : BinK Tryd.prog .eql 93 (.int .u64 x) (.int .u64 y) K w = K (.bool (x == y)) w := by
  unfold BinK; (first | (go_simp; rfl) | (go_simp; done))

theorem kcv3_74 (x : Int) (K : Value → World → Prop) (w : World) : ConvK Tryd.prog 3 74 (.int .i64 x) K w = K (.int .u64 (IntKind.u64.wrap x)) w := by
  unfold ConvK; (first | (go_simp; rfl) | (go_simp; done))

theorem kblss93 (x y : Int) (K : Value → World → Prop) (w : World) : BinK Tryd.prog .lss 93 (.int .u64 x) (.int .u64 y) K w = K (.bool (decide (x < y))) w := by
  unfold BinK; (first | (go_simp; rfl) | (go_simp; done))

theorem kcv93_2 (x : Int) (K : Value → World → Prop) (w : World) : ConvK Tryd.prog 93 2 (.int .u64 x) K w = K (.int .i64 (IntKind.i64.wrap x)) w := by
  unfold ConvK; (first | (go_simp; rfl) | (go_simp; done))

theorem ksl32_110 (g o n c : Nat) (l : Int) (h : Int) (hb : 0 ≤ l ∧ l ≤ h ∧ h ≤ (c : Int)) (K : Value → World → Prop) (w : World) : SliceK Tryd.prog 32 (.slice (some ⟨g, o, none⟩) n c) (some (.int .i64 l)) (some (.int .i64 h)) none K w = K (.slice (if c = l.toNat then some ⟨g, o, none⟩ else some ⟨g, o + l.toNat, none⟩) (h.toNat - l.toNat) (c - l.toNat)) w := by
  obtain ⟨q0, q1, q2⟩ := hb
  unfold SliceK; (first | (go_simp; rfl) | (go_simp; done) | (go_simp; split <;> simp_all))

theorem ksl82_100z (K : Value → World → Prop) (w : World) : SliceK Tryd.prog 82 (.slice none 0 0) (some (.int .i64 0)) none none K w = K (.slice none 0 0) w := by
  unfold SliceK; (first | (go_simp; rfl) | (go_simp; done) | (go_simp; split <;> simp_all))

theorem ksl82_100 (g o n c : Nat) (l : Int) (hb : 0 ≤ l ∧ l ≤ (n : Int)) (K : Value → World → Prop) (w : World) : SliceK Tryd.prog 82 (.slice (some ⟨g, o, none⟩) n c) (some (.int .i64 l)) none none K w = K (.slice (if c = l.toNat then some ⟨g, o, none⟩ else some ⟨g, o + l.toNat * 2, none⟩) (n - l.toNat) (c - l.toNat)) w := by
  obtain ⟨q0, q1⟩ := hb
  unfold SliceK; (first | (go_simp; rfl) | (go_simp; done) | (go_simp; split <;> simp_all))

theorem kcap82 (A : Option Addr) (n c : Nat) (K : Value → World → Prop) (w : World) : BuiltinK Tryd.prog .cap #[82] 3 #[false] #[(.slice A n c)] K w = K (.int .i64 (c : Int)) w := by
  unfold BuiltinK; (first | (go_simp; rfl) | (go_simp; done))

theorem ksl82_010z (K : Value → World → Prop) (w : World) : SliceK Tryd.prog 82 (.slice none 0 0) none (some (.int .i64 0)) none K w = K (.slice none 0 0) w := by
  unfold SliceK; (first | (go_simp; rfl) | (go_simp; done) | (go_simp; split <;> simp_all))

theorem ksl82_010 (g o n c : Nat) (h : Int) (hb : 0 ≤ h ∧ h ≤ (c : Int)) (K : Value → World → Prop) (w : World) : SliceK Tryd.prog 82 (.slice (some ⟨g, o, none⟩) n c) none (some (.int .i64 h)) none K w = K (.slice (some ⟨g, o, none⟩) h.toNat c) w := by
  obtain ⟨q0, q1⟩ := hb
  unfold SliceK; (first | (go_simp; rfl) | (go_simp; done) | (go_simp; split <;> simp_all))

theorem kbeql32n (a : Addr) (n c : Nat) (K : Value → World → Prop) (w : World) : BinK Tryd.prog .eql 32 (.slice (some a) n c) (.slice none 0 0) K w = K (.bool false) w := by
  unfold BinK; (first | (go_simp; rfl) | (go_simp; done))

theorem kbeql32z (n c : Nat) (K : Value → World → Prop) (w : World) : BinK Tryd.prog .eql 32 (.slice none n c) (.slice none 0 0) K w = K (.bool true) w := by
  unfold BinK; (first | (go_simp; rfl) | (go_simp; done))

theorem ksl32_011 (g o n c : Nat) (h m : Int) (hb : 0 ≤ h ∧ h ≤ m ∧ m ≤ (c : Int)) (K : Value → World → Prop) (w : World) : SliceK Tryd.prog 32 (.slice (some ⟨g, o, none⟩) n c) none (some (.int .i64 h)) (some (.int .i64 m)) K w = K (.slice (some ⟨g, o, none⟩) h.toNat m.toNat) w := by
  obtain ⟨q0, q1, q2⟩ := hb
  unfold SliceK; (first | (go_simp; rfl) | (go_simp; done) | (go_simp; split <;> simp_all))

theorem ksl32_011z (K : Value → World → Prop) (w : World) : SliceK Tryd.prog 32 (.slice none 0 0) none (some (.int .i64 0)) (some (.int .i64 0)) K w = K (.slice none 0 0) w := by
  unfold SliceK; (first | (go_simp; rfl) | (go_simp; done) | (go_simp; split <;> simp_all))

theorem kfa99_1 (g o : Nat) (K : Value → World → Prop) (w : World) : FieldAtK Tryd.prog 99 (.pointer (some ⟨g, o, none⟩)) 1 K w = K (.pointer (some ⟨g, o + 1, none⟩)) w := by
  unfold FieldAtK; (first | (go_simp; rfl) | (go_simp; done))

theorem kld29 (a : Addr) (K : Value → World → Prop) (w : World) : LoadK Tryd.prog 29 (.pointer (some a)) K w = OptK (w.cell? a) (@hid _ ⟨fun v => K v w⟩) (LoadRaw Tryd.prog 29 a K w) := by
  exact loadK_eq Tryd.underlying29 rfl a K w

theorem kst29 (g o : Nat) (v : Int) (K : Value → World → Prop) (w : World) : StoreK Tryd.prog 29 (.pointer (some ⟨g, o, none⟩)) (.int .i64 v) K w = OptK (w.cell? ⟨g, o, none⟩) (@hid _ ⟨fun _ => FzK (w.frozen? ⟨g, o, none⟩) (@hid _ ⟨K undef (w.setCell ⟨g, o, none⟩ (.int .i64 v))⟩) (StoreRaw Tryd.prog 29 ⟨g, o, none⟩ (.int .i64 v) K w)⟩) (StoreRaw Tryd.prog 29 ⟨g, o, none⟩ (.int .i64 v) K w) := by
  cases h0 : w.cell? ⟨g, o, none⟩ with
  | none => rfl
  | some x =>
  cases f0 : w.frozen? ⟨g, o, none⟩ with
  | true => rfl
  | false =>
  simp only [optK_some, fzK_false]
  unfold StoreK; (first | (go_simp; rfl) | (go_simp; done))

theorem kuneg2 (x : Int) (K : Value → World → Prop) (w : World) : UnK Tryd.prog .neg (.int .i64 x) K w = K (.int .i64 (IntKind.i64.wrap (-x))) w := by
  unfold UnK; (first | (go_simp; rfl) | (go_simp; done))

theorem kbxor2 (x y : Int) (K : Value → World → Prop) (w : World) : BinK Tryd.prog .xor 2 (.int .i64 x) (.int .i64 y) K w = K (.int .i64 (bits .xor .i64 x y)) w := by
  unfold BinK; (first | (go_simp; rfl) | (go_simp; done))

theorem kfa99_0 (g o : Nat) (K : Value → World → Prop) (w : World) : FieldAtK Tryd.prog 99 (.pointer (some ⟨g, o, none⟩)) 0 K w = K (.pointer (some ⟨g, o, none⟩)) w := by
  unfold FieldAtK; (first | (go_simp; rfl) | (go_simp; done))

theorem ksl32_100z (K : Value → World → Prop) (w : World) : SliceK Tryd.prog 32 (.slice none 0 0) (some (.int .i64 0)) none none K w = K (.slice none 0 0) w := by
  unfold SliceK; (first | (go_simp; rfl) | (go_simp; done) | (go_simp; split <;> simp_all))

theorem ksl32_100 (g o n c : Nat) (l : Int) (hb : 0 ≤ l ∧ l ≤ (n : Int)) (K : Value → World → Prop) (w : World) : SliceK Tryd.prog 32 (.slice (some ⟨g, o, none⟩) n c) (some (.int .i64 l)) none none K w = K (.slice (if c = l.toNat then some ⟨g, o, none⟩ else some ⟨g, o + l.toNat, none⟩) (n - l.toNat) (c - l.toNat)) w := by
  obtain ⟨q0, q1⟩ := hb
  unfold SliceK; (first | (go_simp; rfl) | (go_simp; done) | (go_simp; split <;> simp_all))

theorem kblss5 (x y : Int) (K : Value → World → Prop) (w : World) : BinK Tryd.prog .lss 5 (.int .u8 x) (.int .u8 y) K w = K (.bool (decide (x < y))) w := by
  unfold BinK; (first | (go_simp; rfl) | (go_simp; done))

theorem kbgtr5 (x y : Int) (K : Value → World → Prop) (w : World) : BinK Tryd.prog .gtr 5 (.int .u8 x) (.int .u8 y) K w = K (.bool (decide (y < x))) w := by
  unfold BinK; (first | (go_simp; rfl) | (go_simp; done))

theorem kbshr74_i32 (x y : Int) (h : 0 ≤ y) (K : Value → World → Prop) (w : World) : BinK Tryd.prog .shr 74 (.int .u64 x) (.int .i32 y) K w = K (.int .u64 (x / 2 ^ min y.toNat 64)) w := by
  unfold BinK; (first | (go_simp; rfl) | (go_simp; done))

theorem kbshr74_i64 (x y : Int) (h : 0 ≤ y) (K : Value → World → Prop) (w : World) : BinK Tryd.prog .shr 74 (.int .u64 x) (.int .i64 y) K w = K (.int .u64 (x / 2 ^ min y.toNat 64)) w := by
  unfold BinK; (first | (go_simp; rfl) | (go_simp; done))

theorem kbshr74_u32 (x y : Int) (h : 0 ≤ y) (K : Value → World → Prop) (w : World) : BinK Tryd.prog .shr 74 (.int .u64 x) (.int .u32 y) K w = K (.int .u64 (x / 2 ^ min y.toNat 64)) w := by
  unfold BinK; (first | (go_simp; rfl) | (go_simp; done))

theorem kbshr74_u64 (x y : Int) (h : 0 ≤ y) (K : Value → World → Prop) (w : World) : BinK Tryd.prog .shr 74 (.int .u64 x) (.int .u64 y) K w = K (.int .u64 (x / 2 ^ min y.toNat 64)) w := by
  unfold BinK; (first | (go_simp; rfl) | (go_simp; done))

theorem kbshr74_u8 (x y : Int) (h : 0 ≤ y) (K : Value → World → Prop) (w : World) : BinK Tryd.prog .shr 74 (.int .u64 x) (.int .u8 y) K w = K (.int .u64 (x / 2 ^ min y.toNat 64)) w := by
  unfold BinK; (first | (go_simp; rfl) | (go_simp; done))

theorem kcv74_3 (x : Int) (K : Value → World → Prop) (w : World) : ConvK Tryd.prog 74 3 (.int .u64 x) K w = K (.int .i64 (IntKind.i64.wrap x)) w := by
  unfold ConvK; (first | (go_simp; rfl) | (go_simp; done))

theorem kld90 (g o : Nat) (K : Value → World → Prop) (w : World) : LoadK Tryd.prog 90 (.pointer (some ⟨g, o, none⟩)) K w = OptK (w.cell? ⟨g, o, none⟩) (@hid _ ⟨fun v0 => OptK (w.cell? ⟨g, o + 1, none⟩) (@hid _ ⟨fun v1 => K (.agg #[v0, v1]) w⟩) (LoadRaw Tryd.prog 90 ⟨g, o, none⟩ K w)⟩) (LoadRaw Tryd.prog 90 ⟨g, o, none⟩ K w) := by
  cases h0 : w.cell? ⟨g, o, none⟩ with
  | none => rfl
  | some v0 =>
  cases h1 : w.cell? ⟨g, o + 1, none⟩ with
  | none => rfl
  | some v1 =>
  simp only [optK_some]
  unfold LoadK; (first | (go_simp; rfl) | (go_simp; done))

theorem kbx90 (v_0 : ByteArray) (v_1 : Int) (K : Value → World → Prop) (w : World) : BoxK Tryd.prog 90 (.agg #[(.string v_0), (.int .i64 v_1)]) K w = K (.pointer (some ⟨w.heap.size, 0, none⟩)) (w.alloc (.cells #[(.string v_0), (.int .i64 v_1)] 90)) := by
  unfold BoxK; (first | (go_simp; rfl) | (go_simp; done))

theorem kbgtr9 (x y : ByteArray) (K : Value → World → Prop) (w : World) : BinK Tryd.prog .gtr 9 (.string x) (.string y) K w = K (.bool (!(Op.bytesLess x.toList y.toList || x.toList == y.toList))) w := by
  unfold BinK; (first | (go_simp; rfl) | (go_simp; done))

theorem kbeql5 (x y : Int) (K : Value → World → Prop) (w : World) : BinK Tryd.prog .eql 5 (.int .u8 x) (.int .u8 y) K w = K (.bool (x == y)) w := by
  unfold BinK; (first | (go_simp; rfl) | (go_simp; done))

theorem kbandNot5 (x y : Int) (K : Value → World → Prop) (w : World) : BinK Tryd.prog .andNot 5 (.int .u8 x) (.int .u8 y) K w = K (.int .u8 (bits .andNot .u8 x y)) w := by
  unfold BinK; (first | (go_simp; rfl) | (go_simp; done))

theorem kbneq5 (x y : Int) (K : Value → World → Prop) (w : World) : BinK Tryd.prog .neq 5 (.int .u8 x) (.int .u8 y) K w = K (.bool (x != y)) w := by
  unfold BinK; (first | (go_simp; rfl) | (go_simp; done))

theorem kst9 (g o : Nat) (v : ByteArray) (K : Value → World → Prop) (w : World) : StoreK Tryd.prog 9 (.pointer (some ⟨g, o, none⟩)) (.string v) K w = OptK (w.cell? ⟨g, o, none⟩) (@hid _ ⟨fun _ => FzK (w.frozen? ⟨g, o, none⟩) (@hid _ ⟨K undef (w.setCell ⟨g, o, none⟩ (.string v))⟩) (StoreRaw Tryd.prog 9 ⟨g, o, none⟩ (.string v) K w)⟩) (StoreRaw Tryd.prog 9 ⟨g, o, none⟩ (.string v) K w) := by
  cases h0 : w.cell? ⟨g, o, none⟩ with
  | none => rfl
  | some x =>
  cases f0 : w.frozen? ⟨g, o, none⟩ with
  | true => rfl
  | false =>
  simp only [optK_some, fzK_false]
  unfold StoreK; (first | (go_simp; rfl) | (go_simp; done))

theorem ck3 {args : Array Value} {K : Value → World → Prop} {w : World} (h : CallK Tryd.prog 3 args K w) : CallV Tryd.prog (.func (.func 3) #[] #[]) args K w := callV_func Tryd.func3 (by kernel_rfl) (by kernel_rfl) h
theorem ck4 {args : Array Value} {K : Value → World → Prop} {w : World} (h : CallK Tryd.prog 4 args K w) : CallV Tryd.prog (.func (.func 4) #[] #[]) args K w := callV_func Tryd.func4 (by kernel_rfl) (by kernel_rfl) h
theorem ck5 {args : Array Value} {K : Value → World → Prop} {w : World} (h : CallK Tryd.prog 5 args K w) : CallV Tryd.prog (.func (.func 5) #[] #[]) args K w := callV_func Tryd.func5 (by kernel_rfl) (by kernel_rfl) h
theorem ck6 {args : Array Value} {K : Value → World → Prop} {w : World} (h : CallK Tryd.prog 6 args K w) : CallV Tryd.prog (.func (.func 6) #[] #[]) args K w := callV_func Tryd.func6 (by kernel_rfl) (by kernel_rfl) h
theorem ck7 {args : Array Value} {K : Value → World → Prop} {w : World} (h : CallK Tryd.prog 7 args K w) : CallV Tryd.prog (.func (.func 7) #[] #[]) args K w := callV_func Tryd.func7 (by kernel_rfl) (by kernel_rfl) h
theorem ck8 {args : Array Value} {K : Value → World → Prop} {w : World} (h : CallK Tryd.prog 8 args K w) : CallV Tryd.prog (.func (.func 8) #[] #[]) args K w := callV_func Tryd.func8 (by kernel_rfl) (by kernel_rfl) h
theorem ck9 {args : Array Value} {K : Value → World → Prop} {w : World} (h : CallK Tryd.prog 9 args K w) : CallV Tryd.prog (.func (.func 9) #[] #[]) args K w := callV_func Tryd.func9 (by kernel_rfl) (by kernel_rfl) h
theorem ck10 {args : Array Value} {K : Value → World → Prop} {w : World} (h : CallK Tryd.prog 10 args K w) : CallV Tryd.prog (.func (.func 10) #[] #[]) args K w := callV_func Tryd.func10 (by kernel_rfl) (by kernel_rfl) h
theorem ck11 {args : Array Value} {K : Value → World → Prop} {w : World} (h : CallK Tryd.prog 11 args K w) : CallV Tryd.prog (.func (.func 11) #[] #[]) args K w := callV_func Tryd.func11 (by kernel_rfl) (by kernel_rfl) h
theorem ck12 {args : Array Value} {K : Value → World → Prop} {w : World} (h : CallK Tryd.prog 12 args K w) : CallV Tryd.prog (.func (.func 12) #[] #[]) args K w := callV_func Tryd.func12 (by kernel_rfl) (by kernel_rfl) h
theorem ck13 {args : Array Value} {K : Value → World → Prop} {w : World} (h : CallK Tryd.prog 13 args K w) : CallV Tryd.prog (.func (.func 13) #[] #[]) args K w := callV_func Tryd.func13 (by kernel_rfl) (by kernel_rfl) h
theorem ck14 {args : Array Value} {K : Value → World → Prop} {w : World} (h : CallK Tryd.prog 14 args K w) : CallV Tryd.prog (.func (.func 14) #[] #[]) args K w := callV_func Tryd.func14 (by kernel_rfl) (by kernel_rfl) h
theorem ck15 {args : Array Value} {K : Value → World → Prop} {w : World} (h : CallK Tryd.prog 15 args K w) : CallV Tryd.prog (.func (.func 15) #[] #[]) args K w := callV_func Tryd.func15 (by kernel_rfl) (by kernel_rfl) h
theorem ck16 {args : Array Value} {K : Value → World → Prop} {w : World} (h : CallK Tryd.prog 16 args K w) : CallV Tryd.prog (.func (.func 16) #[] #[]) args K w := callV_func Tryd.func16 (by kernel_rfl) (by kernel_rfl) h
theorem ck17 {args : Array Value} {K : Value → World → Prop} {w : World} (h : CallK Tryd.prog 17 args K w) : CallV Tryd.prog (.func (.func 17) #[] #[]) args K w := callV_func Tryd.func17 (by kernel_rfl) (by kernel_rfl) h
theorem ck18 {args : Array Value} {K : Value → World → Prop} {w : World} (h : CallK Tryd.prog 18 args K w) : CallV Tryd.prog (.func (.func 18) #[] #[]) args K w := callV_func Tryd.func18 (by kernel_rfl) (by kernel_rfl) h
theorem ck19 {args : Array Value} {K : Value → World → Prop} {w : World} (h : CallK Tryd.prog 19 args K w) : CallV Tryd.prog (.func (.func 19) #[] #[]) args K w := callV_func Tryd.func19 (by kernel_rfl) (by kernel_rfl) h
theorem ck20 {args : Array Value} {K : Value → World → Prop} {w : World} (h : CallK Tryd.prog 20 args K w) : CallV Tryd.prog (.func (.func 20) #[] #[]) args K w := callV_func Tryd.func20 (by kernel_rfl) (by kernel_rfl) h
theorem ck21 {args : Array Value} {K : Value → World → Prop} {w : World} (h : CallK Tryd.prog 21 args K w) : CallV Tryd.prog (.func (.func 21) #[] #[]) args K w := callV_func Tryd.func21 (by kernel_rfl) (by kernel_rfl) h
theorem ck22 {args : Array Value} {K : Value → World → Prop} {w : World} (h : CallK Tryd.prog 22 args K w) : CallV Tryd.prog (.func (.func 22) #[] #[]) args K w := callV_func Tryd.func22 (by kernel_rfl) (by kernel_rfl) h
theorem ck23 {args : Array Value} {K : Value → World → Prop} {w : World} (h : CallK Tryd.prog 23 args K w) : CallV Tryd.prog (.func (.func 23) #[] #[]) args K w := callV_func Tryd.func23 (by kernel_rfl) (by kernel_rfl) h
theorem ck24 {args : Array Value} {K : Value → World → Prop} {w : World} (h : CallK Tryd.prog 24 args K w) : CallV Tryd.prog (.func (.func 24) #[] #[]) args K w := callV_func Tryd.func24 (by kernel_rfl) (by kernel_rfl) h
theorem ck25 {args : Array Value} {K : Value → World → Prop} {w : World} (h : CallK Tryd.prog 25 args K w) : CallV Tryd.prog (.func (.func 25) #[] #[]) args K w := callV_func Tryd.func25 (by kernel_rfl) (by kernel_rfl) h
theorem ck26 {args : Array Value} {K : Value → World → Prop} {w : World} (h : CallK Tryd.prog 26 args K w) : CallV Tryd.prog (.func (.func 26) #[] #[]) args K w := callV_func Tryd.func26 (by kernel_rfl) (by kernel_rfl) h
theorem ck27 {args : Array Value} {K : Value → World → Prop} {w : World} (h : CallK Tryd.prog 27 args K w) : CallV Tryd.prog (.func (.func 27) #[] #[]) args K w := callV_func Tryd.func27 (by kernel_rfl) (by kernel_rfl) h
theorem ck28 {args : Array Value} {K : Value → World → Prop} {w : World} (h : CallK Tryd.prog 28 args K w) : CallV Tryd.prog (.func (.func 28) #[] #[]) args K w := callV_func Tryd.func28 (by kernel_rfl) (by kernel_rfl) h
theorem ck29 {args : Array Value} {K : Value → World → Prop} {w : World} (h : CallK Tryd.prog 29 args K w) : CallV Tryd.prog (.func (.func 29) #[] #[]) args K w := callV_func Tryd.func29 (by kernel_rfl) (by kernel_rfl) h
theorem ck30 {args : Array Value} {K : Value → World → Prop} {w : World} (h : CallK Tryd.prog 30 args K w) : CallV Tryd.prog (.func (.func 30) #[] #[]) args K w := callV_func Tryd.func30 (by kernel_rfl) (by kernel_rfl) h
theorem ck31 {args : Array Value} {K : Value → World → Prop} {w : World} (h : CallK Tryd.prog 31 args K w) : CallV Tryd.prog (.func (.func 31) #[] #[]) args K w := callV_func Tryd.func31 (by kernel_rfl) (by kernel_rfl) h
theorem ck32 {args : Array Value} {K : Value → World → Prop} {w : World} (h : CallK Tryd.prog 32 args K w) : CallV Tryd.prog (.func (.func 32) #[] #[]) args K w := callV_func Tryd.func32 (by kernel_rfl) (by kernel_rfl) h
theorem ck33 {args : Array Value} {K : Value → World → Prop} {w : World} (h : CallK Tryd.prog 33 args K w) : CallV Tryd.prog (.func (.func 33) #[] #[]) args K w := callV_func Tryd.func33 (by kernel_rfl) (by kernel_rfl) h
theorem ck34 {args : Array Value} {K : Value → World → Prop} {w : World} (h : CallK Tryd.prog 34 args K w) : CallV Tryd.prog (.func (.func 34) #[] #[]) args K w := callV_func Tryd.func34 (by kernel_rfl) (by kernel_rfl) h
theorem ck35 {args : Array Value} {K : Value → World → Prop} {w : World} (h : CallK Tryd.prog 35 args K w) : CallV Tryd.prog (.func (.func 35) #[] #[]) args K w := callV_func Tryd.func35 (by kernel_rfl) (by kernel_rfl) h
theorem ck36 {args : Array Value} {K : Value → World → Prop} {w : World} (h : CallK Tryd.prog 36 args K w) : CallV Tryd.prog (.func (.func 36) #[] #[]) args K w := callV_func Tryd.func36 (by kernel_rfl) (by kernel_rfl) h
theorem ck37 {args : Array Value} {K : Value → World → Prop} {w : World} (h : CallK Tryd.prog 37 args K w) : CallV Tryd.prog (.func (.func 37) #[] #[]) args K w := callV_func Tryd.func37 (by kernel_rfl) (by kernel_rfl) h
theorem ck38 {args : Array Value} {K : Value → World → Prop} {w : World} (h : CallK Tryd.prog 38 args K w) : CallV Tryd.prog (.func (.func 38) #[] #[]) args K w := callV_func Tryd.func38 (by kernel_rfl) (by kernel_rfl) h
theorem ck39 {args : Array Value} {K : Value → World → Prop} {w : World} (h : CallK Tryd.prog 39 args K w) : CallV Tryd.prog (.func (.func 39) #[] #[]) args K w := callV_func Tryd.func39 (by kernel_rfl) (by kernel_rfl) h
theorem ck40 {args : Array Value} {K : Value → World → Prop} {w : World} (h : CallK Tryd.prog 40 args K w) : CallV Tryd.prog (.func (.func 40) #[] #[]) args K w := callV_func Tryd.func40 (by kernel_rfl) (by kernel_rfl) h
theorem ck41 {args : Array Value} {K : Value → World → Prop} {w : World} (h : CallK Tryd.prog 41 args K w) : CallV Tryd.prog (.func (.func 41) #[] #[]) args K w := callV_func Tryd.func41 (by kernel_rfl) (by kernel_rfl) h
theorem ck42 {args : Array Value} {K : Value → World → Prop} {w : World} (h : CallK Tryd.prog 42 args K w) : CallV Tryd.prog (.func (.func 42) #[] #[]) args K w := callV_func Tryd.func42 (by kernel_rfl) (by kernel_rfl) h
theorem ck43 {args : Array Value} {K : Value → World → Prop} {w : World} (h : CallK Tryd.prog 43 args K w) : CallV Tryd.prog (.func (.func 43) #[] #[]) args K w := callV_func Tryd.func43 (by kernel_rfl) (by kernel_rfl) h
theorem ck44 {args : Array Value} {K : Value → World → Prop} {w : World} (h : CallK Tryd.prog 44 args K w) : CallV Tryd.prog (.func (.func 44) #[] #[]) args K w := callV_func Tryd.func44 (by kernel_rfl) (by kernel_rfl) h
theorem ck45 {args : Array Value} {K : Value → World → Prop} {w : World} (h : CallK Tryd.prog 45 args K w) : CallV Tryd.prog (.func (.func 45) #[] #[]) args K w := callV_func Tryd.func45 (by kernel_rfl) (by kernel_rfl) h
theorem ck46 {args : Array Value} {K : Value → World → Prop} {w : World} (h : CallK Tryd.prog 46 args K w) : CallV Tryd.prog (.func (.func 46) #[] #[]) args K w := callV_func Tryd.func46 (by kernel_rfl) (by kernel_rfl) h
theorem ck47 {args : Array Value} {K : Value → World → Prop} {w : World} (h : CallK Tryd.prog 47 args K w) : CallV Tryd.prog (.func (.func 47) #[] #[]) args K w := callV_func Tryd.func47 (by kernel_rfl) (by kernel_rfl) h
theorem ck48 {args : Array Value} {K : Value → World → Prop} {w : World} (h : CallK Tryd.prog 48 args K w) : CallV Tryd.prog (.func (.func 48) #[] #[]) args K w := callV_func Tryd.func48 (by kernel_rfl) (by kernel_rfl) h
theorem ck49 {args : Array Value} {K : Value → World → Prop} {w : World} (h : CallK Tryd.prog 49 args K w) : CallV Tryd.prog (.func (.func 49) #[] #[]) args K w := callV_func Tryd.func49 (by kernel_rfl) (by kernel_rfl) h
theorem ck50 {args : Array Value} {K : Value → World → Prop} {w : World} (h : CallK Tryd.prog 50 args K w) : CallV Tryd.prog (.func (.func 50) #[] #[]) args K w := callV_func Tryd.func50 (by kernel_rfl) (by kernel_rfl) h
theorem ck51 {args : Array Value} {K : Value → World → Prop} {w : World} (h : CallK Tryd.prog 51 args K w) : CallV Tryd.prog (.func (.func 51) #[] #[]) args K w := callV_func Tryd.func51 (by kernel_rfl) (by kernel_rfl) h
theorem ck52 {args : Array Value} {K : Value → World → Prop} {w : World} (h : CallK Tryd.prog 52 args K w) : CallV Tryd.prog (.func (.func 52) #[] #[]) args K w := callV_func Tryd.func52 (by kernel_rfl) (by kernel_rfl) h
theorem ck53 {args : Array Value} {K : Value → World → Prop} {w : World} (h : CallK Tryd.prog 53 args K w) : CallV Tryd.prog (.func (.func 53) #[] #[]) args K w := callV_func Tryd.func53 (by kernel_rfl) (by kernel_rfl) h
theorem ck54 {args : Array Value} {K : Value → World → Prop} {w : World} (h : CallK Tryd.prog 54 args K w) : CallV Tryd.prog (.func (.func 54) #[] #[]) args K w := callV_func Tryd.func54 (by kernel_rfl) (by kernel_rfl) h
theorem ck55 {args : Array Value} {K : Value → World → Prop} {w : World} (h : CallK Tryd.prog 55 args K w) : CallV Tryd.prog (.func (.func 55) #[] #[]) args K w := callV_func Tryd.func55 (by kernel_rfl) (by kernel_rfl) h
theorem ck56 {args : Array Value} {K : Value → World → Prop} {w : World} (h : CallK Tryd.prog 56 args K w) : CallV Tryd.prog (.func (.func 56) #[] #[]) args K w := callV_func Tryd.func56 (by kernel_rfl) (by kernel_rfl) h
theorem ck57 {args : Array Value} {K : Value → World → Prop} {w : World} (h : CallK Tryd.prog 57 args K w) : CallV Tryd.prog (.func (.func 57) #[] #[]) args K w := callV_func Tryd.func57 (by kernel_rfl) (by kernel_rfl) h
theorem ck60 {args : Array Value} {K : Value → World → Prop} {w : World} (h : CallK Tryd.prog 60 args K w) : CallV Tryd.prog (.func (.func 60) #[] #[]) args K w := callV_func Tryd.func60 (by kernel_rfl) (by kernel_rfl) h
theorem ck61 {args : Array Value} {K : Value → World → Prop} {w : World} (h : CallK Tryd.prog 61 args K w) : CallV Tryd.prog (.func (.func 61) #[] #[]) args K w := callV_func Tryd.func61 (by kernel_rfl) (by kernel_rfl) h
theorem ck62 {args : Array Value} {K : Value → World → Prop} {w : World} (h : CallK Tryd.prog 62 args K w) : CallV Tryd.prog (.func (.func 62) #[] #[]) args K w := callV_func Tryd.func62 (by kernel_rfl) (by kernel_rfl) h
theorem ck63 {args : Array Value} {K : Value → World → Prop} {w : World} (h : CallK Tryd.prog 63 args K w) : CallV Tryd.prog (.func (.func 63) #[] #[]) args K w := callV_func Tryd.func63 (by kernel_rfl) (by kernel_rfl) h
theorem ck65 {args : Array Value} {K : Value → World → Prop} {w : World} (h : CallK Tryd.prog 65 args K w) : CallV Tryd.prog (.func (.func 65) #[] #[]) args K w := callV_func Tryd.func65 (by kernel_rfl) (by kernel_rfl) h
theorem ck66 {args : Array Value} {K : Value → World → Prop} {w : World} (h : CallK Tryd.prog 66 args K w) : CallV Tryd.prog (.func (.func 66) #[] #[]) args K w := callV_func Tryd.func66 (by kernel_rfl) (by kernel_rfl) h
theorem ck68 {args : Array Value} {K : Value → World → Prop} {w : World} (h : CallK Tryd.prog 68 args K w) : CallV Tryd.prog (.func (.func 68) #[] #[]) args K w := callV_func Tryd.func68 (by kernel_rfl) (by kernel_rfl) h
theorem ck71 {args : Array Value} {K : Value → World → Prop} {w : World} (h : CallK Tryd.prog 71 args K w) : CallV Tryd.prog (.func (.func 71) #[] #[]) args K w := callV_func Tryd.func71 (by kernel_rfl) (by kernel_rfl) h
theorem cv3 {args : Array Value} {K : Value → World → Prop} {w : World} {v : Value} {R : World → Prop} (h : Calls Tryd.prog 3 args w fun e w' => e = .returned v ∧ R w') (hk : ∀ w', R w' → K v w') : CallV Tryd.prog (.func (.func 3) #[] #[]) args K w := callV_of Tryd.func3 (by kernel_rfl) (by kernel_rfl) h hk
theorem cv4 {args : Array Value} {K : Value → World → Prop} {w : World} {v : Value} {R : World → Prop} (h : Calls Tryd.prog 4 args w fun e w' => e = .returned v ∧ R w') (hk : ∀ w', R w' → K v w') : CallV Tryd.prog (.func (.func 4) #[] #[]) args K w := callV_of Tryd.func4 (by kernel_rfl) (by kernel_rfl) h hk
theorem cv5 {args : Array Value} {K : Value → World → Prop} {w : World} {v : Value} {R : World → Prop} (h : Calls Tryd.prog 5 args w fun e w' => e = .returned v ∧ R w') (hk : ∀ w', R w' → K v w') : CallV Tryd.prog (.func (.func 5) #[] #[]) args K w := callV_of Tryd.func5 (by kernel_rfl) (by kernel_rfl) h hk
theorem cv6 {args : Array Value} {K : Value → World → Prop} {w : World} {v : Value} {R : World → Prop} (h : Calls Tryd.prog 6 args w fun e w' => e = .returned v ∧ R w') (hk : ∀ w', R w' → K v w') : CallV Tryd.prog (.func (.func 6) #[] #[]) args K w := callV_of Tryd.func6 (by kernel_rfl) (by kernel_rfl) h hk
theorem cv7 {args : Array Value} {K : Value → World → Prop} {w : World} {v : Value} {R : World → Prop} (h : Calls Tryd.prog 7 args w fun e w' => e = .returned v ∧ R w') (hk : ∀ w', R w' → K v w') : CallV Tryd.prog (.func (.func 7) #[] #[]) args K w := callV_of Tryd.func7 (by kernel_rfl) (by kernel_rfl) h hk
theorem cv8 {args : Array Value} {K : Value → World → Prop} {w : World} {v : Value} {R : World → Prop} (h : Calls Tryd.prog 8 args w fun e w' => e = .returned v ∧ R w') (hk : ∀ w', R w' → K v w') : CallV Tryd.prog (.func (.func 8) #[] #[]) args K w := callV_of Tryd.func8 (by kernel_rfl) (by kernel_rfl) h hk
theorem cv9 {args : Array Value} {K : Value → World → Prop} {w : World} {v : Value} {R : World → Prop} (h : Calls Tryd.prog 9 args w fun e w' => e = .returned v ∧ R w') (hk : ∀ w', R w' → K v w') : CallV Tryd.prog (.func (.func 9) #[] #[]) args K w := callV_of Tryd.func9 (by kernel_rfl) (by kernel_rfl) h hk
theorem cv10 {args : Array Value} {K : Value → World → Prop} {w : World} {v : Value} {R : World → Prop} (h : Calls Tryd.prog 10 args w fun e w' => e = .returned v ∧ R w') (hk : ∀ w', R w' → K v w') : CallV Tryd.prog (.func (.func 10) #[] #[]) args K w := callV_of Tryd.func10 (by kernel_rfl) (by kernel_rfl) h hk
theorem cv11 {args : Array Value} {K : Value → World → Prop} {w : World} {v : Value} {R : World → Prop} (h : Calls Tryd.prog 11 args w fun e w' => e = .returned v ∧ R w') (hk : ∀ w', R w' → K v w') : CallV Tryd.prog (.func (.func 11) #[] #[]) args K w := callV_of Tryd.func11 (by kernel_rfl) (by kernel_rfl) h hk
theorem cv12 {args : Array Value} {K : Value → World → Prop} {w : World} {v : Value} {R : World → Prop} (h : Calls Tryd.prog 12 args w fun e w' => e = .returned v ∧ R w') (hk : ∀ w', R w' → K v w') : CallV Tryd.prog (.func (.func 12) #[] #[]) args K w := callV_of Tryd.func12 (by kernel_rfl) (by kernel_rfl) h hk
theorem cv13 {args : Array Value} {K : Value → World → Prop} {w : World} {v : Value} {R : World → Prop} (h : Calls Tryd.prog 13 args w fun e w' => e = .returned v ∧ R w') (hk : ∀ w', R w' → K v w') : CallV Tryd.prog (.func (.func 13) #[] #[]) args K w := callV_of Tryd.func13 (by kernel_rfl) (by kernel_rfl) h hk
theorem cv14 {args : Array Value} {K : Value → World → Prop} {w : World} {v : Value} {R : World → Prop} (h : Calls Tryd.prog 14 args w fun e w' => e = .returned v ∧ R w') (hk : ∀ w', R w' → K v w') : CallV Tryd.prog (.func (.func 14) #[] #[]) args K w := callV_of Tryd.func14 (by kernel_rfl) (by kernel_rfl) h hk
theorem cv15 {args : Array Value} {K : Value → World → Prop} {w : World} {v : Value} {R : World → Prop} (h : Calls Tryd.prog 15 args w fun e w' => e = .returned v ∧ R w') (hk : ∀ w', R w' → K v w') : CallV Tryd.prog (.func (.func 15) #[] #[]) args K w := callV_of Tryd.func15 (by kernel_rfl) (by kernel_rfl) h hk
theorem cv16 {args : Array Value} {K : Value → World → Prop} {w : World} {v : Value} {R : World → Prop} (h : Calls Tryd.prog 16 args w fun e w' => e = .returned v ∧ R w') (hk : ∀ w', R w' → K v w') : CallV Tryd.prog (.func (.func 16) #[] #[]) args K w := callV_of Tryd.func16 (by kernel_rfl) (by kernel_rfl) h hk
theorem cv17 {args : Array Value} {K : Value → World → Prop} {w : World} {v : Value} {R : World → Prop} (h : Calls Tryd.prog 17 args w fun e w' => e = .returned v ∧ R w') (hk : ∀ w', R w' → K v w') : CallV Tryd.prog (.func (.func 17) #[] #[]) args K w := callV_of Tryd.func17 (by kernel_rfl) (by kernel_rfl) h hk
theorem cv18 {args : Array Value} {K : Value → World → Prop} {w : World} {v : Value} {R : World → Prop} (h : Calls Tryd.prog 18 args w fun e w' => e = .returned v ∧ R w') (hk : ∀ w', R w' → K v w') : CallV Tryd.prog (.func (.func 18) #[] #[]) args K w := callV_of Tryd.func18 (by kernel_rfl) (by kernel_rfl) h hk
theorem cv19 {args : Array Value} {K : Value → World → Prop} {w : World} {v : Value} {R : World → Prop} (h : Calls Tryd.prog 19 args w fun e w' => e = .returned v ∧ R w') (hk : ∀ w', R w' → K v w') : CallV Tryd.prog (.func (.func 19) #[] #[]) args K w := callV_of Tryd.func19 (by kernel_rfl) (by kernel_rfl) h hk
theorem cv20 {args : Array Value} {K : Value → World → Prop} {w : World} {v : Value} {R : World → Prop} (h : Calls Tryd.prog 20 args w fun e w' => e = .returned v ∧ R w') (hk : ∀ w', R w' → K v w') : CallV Tryd.prog (.func (.func 20) #[] #[]) args K w := callV_of Tryd.func20 (by kernel_rfl) (by kernel_rfl) h hk
theorem cv21 {args : Array Value} {K : Value → World → Prop} {w : World} {v : Value} {R : World → Prop} (h : Calls Tryd.prog 21 args w fun e w' => e = .returned v ∧ R w') (hk : ∀ w', R w' → K v w') : CallV Tryd.prog (.func (.func 21) #[] #[]) args K w := callV_of Tryd.func21 (by kernel_rfl) (by kernel_rfl) h hk
theorem cv22 {args : Array Value} {K : Value → World → Prop} {w : World} {v : Value} {R : World → Prop} (h : Calls Tryd.prog 22 args w fun e w' => e = .returned v ∧ R w') (hk : ∀ w', R w' → K v w') : CallV Tryd.prog (.func (.func 22) #[] #[]) args K w := callV_of Tryd.func22 (by kernel_rfl) (by kernel_rfl) h hk
theorem cv23 {args : Array Value} {K : Value → World → Prop} {w : World} {v : Value} {R : World → Prop} (h : Calls Tryd.prog 23 args w fun e w' => e = .returned v ∧ R w') (hk : ∀ w', R w' → K v w') : CallV Tryd.prog (.func (.func 23) #[] #[]) args K w := callV_of Tryd.func23 (by kernel_rfl) (by kernel_rfl) h hk
theorem cv24 {args : Array Value} {K : Value → World → Prop} {w : World} {v : Value} {R : World → Prop} (h : Calls Tryd.prog 24 args w fun e w' => e = .returned v ∧ R w') (hk : ∀ w', R w' → K v w') : CallV Tryd.prog (.func (.func 24) #[] #[]) args K w := callV_of Tryd.func24 (by kernel_rfl) (by kernel_rfl) h hk
theorem cv25 {args : Array Value} {K : Value → World → Prop} {w : World} {v : Value} {R : World → Prop} (h : Calls Tryd.prog 25 args w fun e w' => e = .returned v ∧ R w') (hk : ∀ w', R w' → K v w') : CallV Tryd.prog (.func (.func 25) #[] #[]) args K w := callV_of Tryd.func25 (by kernel_rfl) (by kernel_rfl) h hk
theorem cv26 {args : Array Value} {K : Value → World → Prop} {w : World} {v : Value} {R : World → Prop} (h : Calls Tryd.prog 26 args w fun e w' => e = .returned v ∧ R w') (hk : ∀ w', R w' → K v w') : CallV Tryd.prog (.func (.func 26) #[] #[]) args K w := callV_of Tryd.func26 (by kernel_rfl) (by kernel_rfl) h hk
theorem cv27 {args : Array Value} {K : Value → World → Prop} {w : World} {v : Value} {R : World → Prop} (h : Calls Tryd.prog 27 args w fun e w' => e = .returned v ∧ R w') (hk : ∀ w', R w' → K v w') : CallV Tryd.prog (.func (.func 27) #[] #[]) args K w := callV_of Tryd.func27 (by kernel_rfl) (by kernel_rfl) h hk
theorem cv28 {args : Array Value} {K : Value → World → Prop} {w : World} {v : Value} {R : World → Prop} (h : Calls Tryd.prog 28 args w fun e w' => e = .returned v ∧ R w') (hk : ∀ w', R w' → K v w') : CallV Tryd.prog (.func (.func 28) #[] #[]) args K w := callV_of Tryd.func28 (by kernel_rfl) (by kernel_rfl) h hk
theorem cv29 {args : Array Value} {K : Value → World → Prop} {w : World} {v : Value} {R : World → Prop} (h : Calls Tryd.prog 29 args w fun e w' => e = .returned v ∧ R w') (hk : ∀ w', R w' → K v w') : CallV Tryd.prog (.func (.func 29) #[] #[]) args K w := callV_of Tryd.func29 (by kernel_rfl) (by kernel_rfl) h hk
theorem cv30 {args : Array Value} {K : Value → World → Prop} {w : World} {v : Value} {R : World → Prop} (h : Calls Tryd.prog 30 args w fun e w' => e = .returned v ∧ R w') (hk : ∀ w', R w' → K v w') : CallV Tryd.prog (.func (.func 30) #[] #[]) args K w := callV_of Tryd.func30 (by kernel_rfl) (by kernel_rfl) h hk
theorem cv31 {args : Array Value} {K : Value → World → Prop} {w : World} {v : Value} {R : World → Prop} (h : Calls Tryd.prog 31 args w fun e w' => e = .returned v ∧ R w') (hk : ∀ w', R w' → K v w') : CallV Tryd.prog (.func (.func 31) #[] #[]) args K w := callV_of Tryd.func31 (by kernel_rfl) (by kernel_rfl) h hk
theorem cv32 {args : Array Value} {K : Value → World → Prop} {w : World} {v : Value} {R : World → Prop} (h : Calls Tryd.prog 32 args w fun e w' => e = .returned v ∧ R w') (hk : ∀ w', R w' → K v w') : CallV Tryd.prog (.func (.func 32) #[] #[]) args K w := callV_of Tryd.func32 (by kernel_rfl) (by kernel_rfl) h hk
theorem cv33 {args : Array Value} {K : Value → World → Prop} {w : World} {v : Value} {R : World → Prop} (h : Calls Tryd.prog 33 args w fun e w' => e = .returned v ∧ R w') (hk : ∀ w', R w' → K v w') : CallV Tryd.prog (.func (.func 33) #[] #[]) args K w := callV_of Tryd.func33 (by kernel_rfl) (by kernel_rfl) h hk
theorem cv34 {args : Array Value} {K : Value → World → Prop} {w : World} {v : Value} {R : World → Prop} (h : Calls Tryd.prog 34 args w fun e w' => e = .returned v ∧ R w') (hk : ∀ w', R w' → K v w') : CallV Tryd.prog (.func (.func 34) #[] #[]) args K w := callV_of Tryd.func34 (by kernel_rfl) (by kernel_rfl) h hk
theorem cv35 {args : Array Value} {K : Value → World → Prop} {w : World} {v : Value} {R : World → Prop} (h : Calls Tryd.prog 35 args w fun e w' => e = .returned v ∧ R w') (hk : ∀ w', R w' → K v w') : CallV Tryd.prog (.func (.func 35) #[] #[]) args K w := callV_of Tryd.func35 (by kernel_rfl) (by kernel_rfl) h hk
theorem cv36 {args : Array Value} {K : Value → World → Prop} {w : World} {v : Value} {R : World → Prop} (h : Calls Tryd.prog 36 args w fun e w' => e = .returned v ∧ R w') (hk : ∀ w', R w' → K v w') : CallV Tryd.prog (.func (.func 36) #[] #[]) args K w := callV_of Tryd.func36 (by kernel_rfl) (by kernel_rfl) h hk
theorem cv37 {args : Array Value} {K : Value → World → Prop} {w : World} {v : Value} {R : World → Prop} (h : Calls Tryd.prog 37 args w fun e w' => e = .returned v ∧ R w') (hk : ∀ w', R w' → K v w') : CallV Tryd.prog (.func (.func 37) #[] #[]) args K w := callV_of Tryd.func37 (by kernel_rfl) (by kernel_rfl) h hk
theorem cv38 {args : Array Value} {K : Value → World → Prop} {w : World} {v : Value} {R : World → Prop} (h : Calls Tryd.prog 38 args w fun e w' => e = .returned v ∧ R w') (hk : ∀ w', R w' → K v w') : CallV Tryd.prog (.func (.func 38) #[] #[]) args K w := callV_of Tryd.func38 (by kernel_rfl) (by kernel_rfl) h hk
theorem cv39 {args : Array Value} {K : Value → World → Prop} {w : World} {v : Value} {R : World → Prop} (h : Calls Tryd.prog 39 args w fun e w' => e = .returned v ∧ R w') (hk : ∀ w', R w' → K v w') : CallV Tryd.prog (.func (.func 39) #[] #[]) args K w := callV_of Tryd.func39 (by kernel_rfl) (by kernel_rfl) h hk
theorem cv40 {args : Array Value} {K : Value → World → Prop} {w : World} {v : Value} {R : World → Prop} (h : Calls Tryd.prog 40 args w fun e w' => e = .returned v ∧ R w') (hk : ∀ w', R w' → K v w') : CallV Tryd.prog (.func (.func 40) #[] #[]) args K w := callV_of Tryd.func40 (by kernel_rfl) (by kernel_rfl) h hk
theorem cv41 {args : Array Value} {K : Value → World → Prop} {w : World} {v : Value} {R : World → Prop} (h : Calls Tryd.prog 41 args w fun e w' => e = .returned v ∧ R w') (hk : ∀ w', R w' → K v w') : CallV Tryd.prog (.func (.func 41) #[] #[]) args K w := callV_of Tryd.func41 (by kernel_rfl) (by kernel_rfl) h hk
theorem cv42 {args : Array Value} {K : Value → World → Prop} {w : World} {v : Value} {R : World → Prop} (h : Calls Tryd.prog 42 args w fun e w' => e = .returned v ∧ R w') (hk : ∀ w', R w' → K v w') : CallV Tryd.prog (.func (.func 42) #[] #[]) args K w := callV_of Tryd.func42 (by kernel_rfl) (by kernel_rfl) h hk
theorem cv43 {args : Array Value} {K : Value → World → Prop} {w : World} {v : Value} {R : World → Prop} (h : Calls Tryd.prog 43 args w fun e w' => e = .returned v ∧ R w') (hk : ∀ w', R w' → K v w') : CallV Tryd.prog (.func (.func 43) #[] #[]) args K w := callV_of Tryd.func43 (by kernel_rfl) (by kernel_rfl) h hk
theorem cv44 {args : Array Value} {K : Value → World → Prop} {w : World} {v : Value} {R : World → Prop} (h : Calls Tryd.prog 44 args w fun e w' => e = .returned v ∧ R w') (hk : ∀ w', R w' → K v w') : CallV Tryd.prog (.func (.func 44) #[] #[]) args K w := callV_of Tryd.func44 (by kernel_rfl) (by kernel_rfl) h hk
theorem cv45 {args : Array Value} {K : Value → World → Prop} {w : World} {v : Value} {R : World → Prop} (h : Calls Tryd.prog 45 args w fun e w' => e = .returned v ∧ R w') (hk : ∀ w', R w' → K v w') : CallV Tryd.prog (.func (.func 45) #[] #[]) args K w := callV_of Tryd.func45 (by kernel_rfl) (by kernel_rfl) h hk
theorem cv46 {args : Array Value} {K : Value → World → Prop} {w : World} {v : Value} {R : World → Prop} (h : Calls Tryd.prog 46 args w fun e w' => e = .returned v ∧ R w') (hk : ∀ w', R w' → K v w') : CallV Tryd.prog (.func (.func 46) #[] #[]) args K w := callV_of Tryd.func46 (by kernel_rfl) (by kernel_rfl) h hk
theorem cv47 {args : Array Value} {K : Value → World → Prop} {w : World} {v : Value} {R : World → Prop} (h : Calls Tryd.prog 47 args w fun e w' => e = .returned v ∧ R w') (hk : ∀ w', R w' → K v w') : CallV Tryd.prog (.func (.func 47) #[] #[]) args K w := callV_of Tryd.func47 (by kernel_rfl) (by kernel_rfl) h hk
theorem cv48 {args : Array Value} {K : Value → World → Prop} {w : World} {v : Value} {R : World → Prop} (h : Calls Tryd.prog 48 args w fun e w' => e = .returned v ∧ R w') (hk : ∀ w', R w' → K v w') : CallV Tryd.prog (.func (.func 48) #[] #[]) args K w := callV_of Tryd.func48 (by kernel_rfl) (by kernel_rfl) h hk
theorem cv49 {args : Array Value} {K : Value → World → Prop} {w : World} {v : Value} {R : World → Prop} (h : Calls Tryd.prog 49 args w fun e w' => e = .returned v ∧ R w') (hk : ∀ w', R w' → K v w') : CallV Tryd.prog (.func (.func 49) #[] #[]) args K w := callV_of Tryd.func49 (by kernel_rfl) (by kernel_rfl) h hk
theorem cv50 {args : Array Value} {K : Value → World → Prop} {w : World} {v : Value} {R : World → Prop} (h : Calls Tryd.prog 50 args w fun e w' => e = .returned v ∧ R w') (hk : ∀ w', R w' → K v w') : CallV Tryd.prog (.func (.func 50) #[] #[]) args K w := callV_of Tryd.func50 (by kernel_rfl) (by kernel_rfl) h hk
theorem cv51 {args : Array Value} {K : Value → World → Prop} {w : World} {v : Value} {R : World → Prop} (h : Calls Tryd.prog 51 args w fun e w' => e = .returned v ∧ R w') (hk : ∀ w', R w' → K v w') : CallV Tryd.prog (.func (.func 51) #[] #[]) args K w := callV_of Tryd.func51 (by kernel_rfl) (by kernel_rfl) h hk
theorem cv52 {args : Array Value} {K : Value → World → Prop} {w : World} {v : Value} {R : World → Prop} (h : Calls Tryd.prog 52 args w fun e w' => e = .returned v ∧ R w') (hk : ∀ w', R w' → K v w') : CallV Tryd.prog (.func (.func 52) #[] #[]) args K w := callV_of Tryd.func52 (by kernel_rfl) (by kernel_rfl) h hk
theorem cv53 {args : Array Value} {K : Value → World → Prop} {w : World} {v : Value} {R : World → Prop} (h : Calls Tryd.prog 53 args w fun e w' => e = .returned v ∧ R w') (hk : ∀ w', R w' → K v w') : CallV Tryd.prog (.func (.func 53) #[] #[]) args K w := callV_of Tryd.func53 (by kernel_rfl) (by kernel_rfl) h hk
theorem cv54 {args : Array Value} {K : Value → World → Prop} {w : World} {v : Value} {R : World → Prop} (h : Calls Tryd.prog 54 args w fun e w' => e = .returned v ∧ R w') (hk : ∀ w', R w' → K v w') : CallV Tryd.prog (.func (.func 54) #[] #[]) args K w := callV_of Tryd.func54 (by kernel_rfl) (by kernel_rfl) h hk
theorem cv55 {args : Array Value} {K : Value → World → Prop} {w : World} {v : Value} {R : World → Prop} (h : Calls Tryd.prog 55 args w fun e w' => e = .returned v ∧ R w') (hk : ∀ w', R w' → K v w') : CallV Tryd.prog (.func (.func 55) #[] #[]) args K w := callV_of Tryd.func55 (by kernel_rfl) (by kernel_rfl) h hk
theorem cv56 {args : Array Value} {K : Value → World → Prop} {w : World} {v : Value} {R : World → Prop} (h : Calls Tryd.prog 56 args w fun e w' => e = .returned v ∧ R w') (hk : ∀ w', R w' → K v w') : CallV Tryd.prog (.func (.func 56) #[] #[]) args K w := callV_of Tryd.func56 (by kernel_rfl) (by kernel_rfl) h hk
theorem cv57 {args : Array Value} {K : Value → World → Prop} {w : World} {v : Value} {R : World → Prop} (h : Calls Tryd.prog 57 args w fun e w' => e = .returned v ∧ R w') (hk : ∀ w', R w' → K v w') : CallV Tryd.prog (.func (.func 57) #[] #[]) args K w := callV_of Tryd.func57 (by kernel_rfl) (by kernel_rfl) h hk
theorem cv60 {args : Array Value} {K : Value → World → Prop} {w : World} {v : Value} {R : World → Prop} (h : Calls Tryd.prog 60 args w fun e w' => e = .returned v ∧ R w') (hk : ∀ w', R w' → K v w') : CallV Tryd.prog (.func (.func 60) #[] #[]) args K w := callV_of Tryd.func60 (by kernel_rfl) (by kernel_rfl) h hk
theorem cv61 {args : Array Value} {K : Value → World → Prop} {w : World} {v : Value} {R : World → Prop} (h : Calls Tryd.prog 61 args w fun e w' => e = .returned v ∧ R w') (hk : ∀ w', R w' → K v w') : CallV Tryd.prog (.func (.func 61) #[] #[]) args K w := callV_of Tryd.func61 (by kernel_rfl) (by kernel_rfl) h hk
theorem cv62 {args : Array Value} {K : Value → World → Prop} {w : World} {v : Value} {R : World → Prop} (h : Calls Tryd.prog 62 args w fun e w' => e = .returned v ∧ R w') (hk : ∀ w', R w' → K v w') : CallV Tryd.prog (.func (.func 62) #[] #[]) args K w := callV_of Tryd.func62 (by kernel_rfl) (by kernel_rfl) h hk
theorem cv63 {args : Array Value} {K : Value → World → Prop} {w : World} {v : Value} {R : World → Prop} (h : Calls Tryd.prog 63 args w fun e w' => e = .returned v ∧ R w') (hk : ∀ w', R w' → K v w') : CallV Tryd.prog (.func (.func 63) #[] #[]) args K w := callV_of Tryd.func63 (by kernel_rfl) (by kernel_rfl) h hk
theorem cv65 {args : Array Value} {K : Value → World → Prop} {w : World} {v : Value} {R : World → Prop} (h : Calls Tryd.prog 65 args w fun e w' => e = .returned v ∧ R w') (hk : ∀ w', R w' → K v w') : CallV Tryd.prog (.func (.func 65) #[] #[]) args K w := callV_of Tryd.func65 (by kernel_rfl) (by kernel_rfl) h hk
theorem cv66 {args : Array Value} {K : Value → World → Prop} {w : World} {v : Value} {R : World → Prop} (h : Calls Tryd.prog 66 args w fun e w' => e = .returned v ∧ R w') (hk : ∀ w', R w' → K v w') : CallV Tryd.prog (.func (.func 66) #[] #[]) args K w := callV_of Tryd.func66 (by kernel_rfl) (by kernel_rfl) h hk
theorem cv68 {args : Array Value} {K : Value → World → Prop} {w : World} {v : Value} {R : World → Prop} (h : Calls Tryd.prog 68 args w fun e w' => e = .returned v ∧ R w') (hk : ∀ w', R w' → K v w') : CallV Tryd.prog (.func (.func 68) #[] #[]) args K w := callV_of Tryd.func68 (by kernel_rfl) (by kernel_rfl) h hk
theorem cv71 {args : Array Value} {K : Value → World → Prop} {w : World} {v : Value} {R : World → Prop} (h : Calls Tryd.prog 71 args w fun e w' => e = .returned v ∧ R w') (hk : ∀ w', R w' → K v w') : CallV Tryd.prog (.func (.func 71) #[] #[]) args K w := callV_of Tryd.func71 (by kernel_rfl) (by kernel_rfl) h hk

/-- canton/cantonlaw22.LivesPlay, its body as a formula. -/
def F3 (x0 x1 : Value) (R : Value → World → Prop) (w0 : World) : Prop :=
  CallV Tryd.prog (.func (.func 7) #[] #[]) #[] (@hid _ ⟨fun t16_1 w2 =>
  UnK Tryd.prog Go.UnOp.not t16_1 (@hid _ ⟨fun t17_3 w4 =>
  BrK t17_3 (@hid _ ⟨
   R (Go.Value.bool false) w4⟩) (@hid _ ⟨
   BuiltinK Tryd.prog Go.Builtin.len #[22] 3 #[false] #[x0] (@hid _ ⟨fun t19_5 w6 =>
   BinK Tryd.prog Go.BinOp.gtr 3 t19_5 (Go.Value.int Go.IntKind.i64 300) (@hid _ ⟨fun t20_7 w8 =>
   GuardK t20_7 false (fun k w => k x1 w) (@hid _ ⟨fun t22_9 w10 =>
   GuardK t20_7 false (fun k w => BuiltinK Tryd.prog Go.Builtin.len #[9] 3 #[false] #[t22_9] k w) (@hid _ ⟨fun t23_11 w12 =>
   GuardK t20_7 false (fun k w => BinK Tryd.prog Go.BinOp.gtr 3 t23_11 (Go.Value.int Go.IntKind.i64 100) k w) (@hid _ ⟨fun t24_13 w14 =>
   PickK Tryd.prog t20_7 (Go.Value.bool true) t24_13 (@hid _ ⟨fun t25_15 w16 =>
   BrK t25_15 (@hid _ ⟨
    R (Go.Value.bool true) w16⟩) (@hid _ ⟨
    CallV Tryd.prog (.func (.func 8) #[] #[]) #[] (@hid _ ⟨fun t26_17 w18 =>
    LoopK3 t26_17 (Go.Value.slice none 0 0) (Go.Value.int Go.IntKind.i64 0) w18 (@hid _ ⟨fun _ x5_19 x6_20 x7_21 w22 B23 =>
     BuiltinK Tryd.prog Go.Builtin.len #[22] 3 #[false] #[x0] (@hid _ ⟨fun t29_24 w25 =>
     BinK Tryd.prog Go.BinOp.lss 3 x7_21 t29_24 (@hid _ ⟨fun t30_26 w27 =>
     BrK t30_26 (@hid _ ⟨
      IndexAtK Tryd.prog 22 x0 x7_21 (@hid _ ⟨fun t35_28 w29 =>
      LoadK Tryd.prog 9 t35_28 (@hid _ ⟨fun t36_30 w31 =>
      BuiltinK Tryd.prog Go.Builtin.len #[9] 3 #[false] #[t36_30] (@hid _ ⟨fun t37_32 w33 =>
      BinK Tryd.prog Go.BinOp.gtr 3 t37_32 (Go.Value.int Go.IntKind.i64 100) (@hid _ ⟨fun t38_34 w35 =>
      BrK t38_34 (@hid _ ⟨
       R (Go.Value.bool true) w35⟩) (@hid _ ⟨
       IndexAtK Tryd.prog 22 x0 x7_21 (@hid _ ⟨fun t43_36 w37 =>
       LoadK Tryd.prog 9 t43_36 (@hid _ ⟨fun t44_38 w39 =>
       CallV Tryd.prog (.func (.func 9) #[] #[]) #[x6_20, t44_38] (@hid _ ⟨fun t45_40 w41 =>
       ExtractK Tryd.prog t45_40 0 (@hid _ ⟨fun t46_42 w43 =>
       ExtractK Tryd.prog t45_40 1 (@hid _ ⟨fun t47_44 w45 =>
       ExtractK Tryd.prog t45_40 2 (@hid _ ⟨fun t48_46 w47 =>
       IndexAtK Tryd.prog 22 x0 x7_21 (@hid _ ⟨fun t53_48 w49 =>
       LoadK Tryd.prog 9 t53_48 (@hid _ ⟨fun t54_50 w51 =>
       CallV Tryd.prog (.func (.func 10) #[] #[]) #[x5_19, t54_50] (@hid _ ⟨fun t55_52 w53 =>
       ExtractK Tryd.prog t55_52 0 (@hid _ ⟨fun t56_54 w55 =>
       ExtractK Tryd.prog t55_52 1 (@hid _ ⟨fun t57_56 w57 =>
       BinK Tryd.prog Go.BinOp.neq 3 t57_56 t48_46 (@hid _ ⟨fun t60_58 w59 =>
       GuardK t60_58 false (fun k w => k t56_54 w) (@hid _ ⟨fun t62_60 w61 =>
       GuardK t60_58 false (fun k w => k t47_44 w) (@hid _ ⟨fun t63_62 w63 =>
       GuardK t60_58 false (fun k w => BinK Tryd.prog Go.BinOp.neq 2 t62_60 t63_62 k w) (@hid _ ⟨fun t64_64 w65 =>
       PickK Tryd.prog t60_58 (Go.Value.bool true) t64_64 (@hid _ ⟨fun t65_66 w67 =>
       BrK t65_66 (@hid _ ⟨
        R (Go.Value.bool false) w67⟩) (@hid _ ⟨
        BinK Tryd.prog Go.BinOp.rem 3 x7_21 (Go.Value.int Go.IntKind.i64 16) (@hid _ ⟨fun t68_68 w69 =>
        BinK Tryd.prog Go.BinOp.eql 3 t68_68 (Go.Value.int Go.IntKind.i64 3) (@hid _ ⟨fun t69_70 w71 =>
        BrK t69_70 (@hid _ ⟨
         CutK0 (@hid _ ⟨fun R72 =>
          DrawK (@hid _ ⟨fun S74 w75 =>
          (CallV Tryd.prog (.func (.func 11) #[] #[]) #[x5_19] (@hid _ ⟨fun t71_76 w77 =>
          S74 w77 ∧
          (ConvK Tryd.prog 32 9 t71_76 (@hid _ ⟨fun t72_78 w79 =>
          S74 w79 ∧
          (CallV Tryd.prog (.func (.func 12) #[] #[]) #[t46_42] (@hid _ ⟨fun t74_80 w81 =>
          S74 w81 ∧
          (ConvK Tryd.prog 32 9 t74_80 (@hid _ ⟨fun t75_82 w83 =>
          S74 w83 ∧
          BinT Tryd.prog S74 Go.BinOp.neq 9 t72_78 t75_82 (@hid _ ⟨fun t76_84 =>
          BrK t76_84 (@hid _ ⟨
           R (Go.Value.bool false) w83⟩) (@hid _ ⟨
           R72 w83⟩)⟩)⟩) w81) ∧
          True⟩) w79) ∧
          True⟩) w77) ∧
          (CallV Tryd.prog (.func (.func 12) #[] #[]) #[t46_42] (@hid _ ⟨fun t74_85 w86 =>
          S74 w86 ∧
          (ConvK Tryd.prog 32 9 t71_76 (@hid _ ⟨fun t72_87 w88 =>
          S74 w88 ∧
          (ConvK Tryd.prog 32 9 t74_85 (@hid _ ⟨fun t75_89 w90 =>
          S74 w90 ∧
          BinT Tryd.prog S74 Go.BinOp.neq 9 t72_87 t75_89 (@hid _ ⟨fun t76_91 =>
          BrK t76_91 (@hid _ ⟨
           R (Go.Value.bool false) w90⟩) (@hid _ ⟨
           R72 w90⟩)⟩)⟩) w88) ∧
          True⟩) w86) ∧
          (ConvK Tryd.prog 32 9 t74_85 (@hid _ ⟨fun t75_92 w93 =>
          S74 w93 ∧
          (ConvK Tryd.prog 32 9 t71_76 (@hid _ ⟨fun t72_94 w95 =>
          S74 w95 ∧
          BinT Tryd.prog S74 Go.BinOp.neq 9 t72_94 t75_92 (@hid _ ⟨fun t76_96 =>
          BrK t76_96 (@hid _ ⟨
           R (Go.Value.bool false) w95⟩) (@hid _ ⟨
           R72 w95⟩)⟩)⟩) w93) ∧
          True⟩) w86) ∧
          True⟩) w77) ∧
          True⟩) w75) ∧
          True⟩) w71⟩)
         (@hid _ ⟨fun _ w73 =>
          CallV Tryd.prog (.func (.func 11) #[] #[]) #[x5_19] (@hid _ ⟨fun t79_97 w98 =>
          CallV Tryd.prog (.func (.func 13) #[] #[]) #[t79_97] (@hid _ ⟨fun t80_99 w100 =>
          ExtractK Tryd.prog t80_99 0 (@hid _ ⟨fun t81_101 w102 =>
          ExtractK Tryd.prog t80_99 1 (@hid _ ⟨fun t82_103 w104 =>
          BinK Tryd.prog Go.BinOp.neq 3 t82_103 (Go.Value.int Go.IntKind.i64 0) (@hid _ ⟨fun t84_105 w106 =>
          GuardK t84_105 false (fun k w => k t81_101 w) (@hid _ ⟨fun t86_107 w108 =>
          GuardK t84_105 false (fun k w => BinK Tryd.prog Go.BinOp.eql 24 t86_107 (Go.Value.pointer none) k w) (@hid _ ⟨fun t87_109 w110 =>
          PickK Tryd.prog t84_105 (Go.Value.bool true) t87_109 (@hid _ ⟨fun t88_111 w112 =>
          BrK t88_111 (@hid _ ⟨
           R (Go.Value.bool false) w112⟩) (@hid _ ⟨
           BinK Tryd.prog Go.BinOp.add 3 x7_21 (Go.Value.int Go.IntKind.i64 1) (@hid _ ⟨fun t32_113 w114 =>
           B23 t81_101 t46_42 t32_113 w114⟩) w112⟩)⟩) w110⟩) w108⟩) w106⟩) w104⟩) w102⟩) w100⟩) w98⟩) w73⟩)⟩) (@hid _ ⟨
         BinK Tryd.prog Go.BinOp.add 3 x7_21 (Go.Value.int Go.IntKind.i64 1) (@hid _ ⟨fun t32_115 w116 =>
         B23 x5_19 t46_42 t32_115 w116⟩) w71⟩)⟩) w69⟩) w67⟩)⟩) w65⟩) w63⟩) w61⟩) w59⟩) w57⟩) w55⟩) w53⟩) w51⟩) w49⟩) w47⟩) w45⟩) w43⟩) w41⟩) w39⟩) w37⟩) w35⟩)⟩) w33⟩) w31⟩) w29⟩) w27⟩) (@hid _ ⟨
      LoopK1 (Go.Value.int Go.IntKind.i64 0) w27 (@hid _ ⟨fun _ x15_117 w118 B119 =>
       BuiltinK Tryd.prog Go.Builtin.len #[26] 3 #[false] #[x6_20] (@hid _ ⟨fun t92_120 w121 =>
       BinK Tryd.prog Go.BinOp.lss 3 x15_117 t92_120 (@hid _ ⟨fun t93_122 w123 =>
       BrK t93_122 (@hid _ ⟨
        DrawK (@hid _ ⟨fun S124 w125 =>
        TakeS Tryd.prog S124 (Instr.indexAt 26 x6_20 x15_117) (@hid _ ⟨fun t99_126 =>
        TakeS Tryd.prog S124 (Instr.fieldAt 39 t99_126 0) (@hid _ ⟨fun t100_127 =>
        TakeS Tryd.prog S124 (Instr.loadAt 9 t100_127) (@hid _ ⟨fun t101_128 =>
        TakeS Tryd.prog S124 (Instr.indexAt 26 x6_20 x15_117) (@hid _ ⟨fun t105_129 =>
        TakeS Tryd.prog S124 (Instr.fieldAt 39 t105_129 1) (@hid _ ⟨fun t106_130 =>
        TakeS Tryd.prog S124 (Instr.loadAt 2 t106_130) (@hid _ ⟨fun t107_131 =>
        (CallV Tryd.prog (.func (.func 14) #[] #[]) #[x5_19, t101_128] (@hid _ ⟨fun t102_132 w133 =>
        S124 w133 ∧
        BinT Tryd.prog S124 Go.BinOp.neq 2 t102_132 t107_131 (@hid _ ⟨fun t108_134 =>
        BrK t108_134 (@hid _ ⟨
         R (Go.Value.bool false) w133⟩) (@hid _ ⟨
         BinK Tryd.prog Go.BinOp.add 3 x15_117 (Go.Value.int Go.IntKind.i64 1) (@hid _ ⟨fun t95_135 w136 =>
         B119 t95_135 w136⟩) w133⟩)⟩)⟩) w125) ∧
        True⟩)⟩)⟩)⟩)⟩)⟩)⟩) w123⟩) (@hid _ ⟨
        CallV Tryd.prog (.func (.func 14) #[] #[]) #[x5_19, x1] (@hid _ ⟨fun t111_137 w138 =>
        CallV Tryd.prog (.func (.func 15) #[] #[]) #[x6_20, x1] (@hid _ ⟨fun t114_139 w140 =>
        BinK Tryd.prog Go.BinOp.eql 2 t111_137 t114_139 (@hid _ ⟨fun t115_141 w142 =>
        R t115_141 w142⟩) w140⟩) w138⟩) w123⟩)⟩) w121⟩) w118⟩)⟩)⟩) w25⟩) w22⟩)⟩) w16⟩)⟩) w14⟩) w12⟩) w10⟩) w8⟩) w6⟩) w4⟩)⟩) w2⟩) w0
def a3 : Ann := (.seq .no (.seq (.seq .no (.cond (.seq .no .no) .no)) (.seq (.seq .no (.cond (.seq .no .no) .no)) (.seq .no (.seq .no (.seq (.seq .no (.block (.loop [5, 6, 7] [(4, 4), (8, 14), (27, 89)] (.seq (.seq .no (.cond .no .no)) (.seq (.block (.seq (.seq .no (.cond (.seq .no .no) .no)) (.seq .no (.seq .no (.seq (.seq .no (.cond (.seq .no .no) .no)) (.seq .no (.seq .no (.cond (.cut [] [(4, 4), (70, 76)] (.seq (.plan (.take 0 (.take 3 (.alt 1 (.alt 2 (.alt 4 (.alt 5 (.take 6 .done) .nil) .nil) (.alt 4 (.alt 2 (.alt 5 (.take 6 .done) .nil) (.alt 5 (.alt 2 (.take 6 .done) .nil) .nil)) .nil)) .nil)))) (.cond (.seq .no .no) .no)) (.seq .no (.seq (.seq .no (.cond (.seq .no .no) .no)) .no))) .no)))))))) .no))))) (.seq (.seq .no (.block (.loop [15] [(4, 4), (90, 108)] (.seq (.seq .no (.cond .no .no)) (.seq (.block (.seq (.plan (.take 0 (.take 1 (.take 2 (.take 3 (.take 4 (.take 5 (.take 7 (.take 8 (.take 9 (.take 10 (.take 11 (.alt 6 (.take 12 .done) .nil))))))))))))) (.cond (.seq .no .no) .no))) .no))))) (.seq .no .no))))))))
theorem F3_eq (x0 x1 : Value) (R : Value → World → Prop) (w0 : World) : F3 x0 x1 R w0 = vc Tryd.prog (bodyOf Tryd.f3) a3 (retQ Tryd.prog Tryd.f3 R) (envOf 0 [x0, x1]) w0 := by kernel_rfl
theorem F3_calls (x0 x1 : Value) (R : Value → World → Prop) (w0 : World) (h : F3 x0 x1 R w0) : CallK Tryd.prog 3 #[x0, x1] R w0 :=
  calls_vc (c := bodyOf Tryd.f3) Tryd.func3 (by kernel_rfl) (by kernel_rfl) a3 (by kernel_rfl) (by kernel_rfl) [x0, x1] (by rw [Tryd.ntmps3]; exact Nat.le_of_ble_eq_true rfl) w0 R ((F3_eq x0 x1 R w0).mp h)

/-- canton/cantonlaw22.LivesBytes, its body as a formula. -/
def F4 (x0 : Value) (R : Value → World → Prop) (w0 : World) : Prop :=
  CallV Tryd.prog (.func (.func 7) #[] #[]) #[] (@hid _ ⟨fun t9_1 w2 =>
  UnK Tryd.prog Go.UnOp.not t9_1 (@hid _ ⟨fun t10_3 w4 =>
  BrK t10_3 (@hid _ ⟨
   R (Go.Value.bool false) w4⟩) (@hid _ ⟨
   BuiltinK Tryd.prog Go.Builtin.len #[32] 3 #[false] #[x0] (@hid _ ⟨fun t12_5 w6 =>
   BinK Tryd.prog Go.BinOp.gtr 3 t12_5 (Go.Value.int Go.IntKind.i64 2000) (@hid _ ⟨fun t13_7 w8 =>
   BrK t13_7 (@hid _ ⟨
    R (Go.Value.bool true) w8⟩) (@hid _ ⟨
    CallV Tryd.prog (.func (.func 16) #[] #[]) #[x0] (@hid _ ⟨fun t16_9 w10 =>
    BuildSliceK Tryd.prog 43 2 #[(0, x0), (1, t16_9)] (@hid _ ⟨fun t17_11 w12 =>
    LoopK1 (Go.Value.int Go.IntKind.i64 0) w12 (@hid _ ⟨fun _ x4_13 w14 B15 =>
     BinK Tryd.prog Go.BinOp.lss 3 x4_13 (Go.Value.int Go.IntKind.i64 2) (@hid _ ⟨fun t19_16 w17 =>
     BrK t19_16 (@hid _ ⟨
      IndexAtK Tryd.prog 43 t17_11 x4_13 (@hid _ ⟨fun t25_18 w19 =>
      LoadK Tryd.prog 32 t25_18 (@hid _ ⟨fun t26_20 w21 =>
      CallV Tryd.prog (.func (.func 13) #[] #[]) #[t26_20] (@hid _ ⟨fun t27_22 w23 =>
      ExtractK Tryd.prog t27_22 0 (@hid _ ⟨fun t28_24 w25 =>
      ExtractK Tryd.prog t27_22 1 (@hid _ ⟨fun t29_26 w27 =>
      IndexAtK Tryd.prog 43 t17_11 x4_13 (@hid _ ⟨fun t33_28 w29 =>
      LoadK Tryd.prog 32 t33_28 (@hid _ ⟨fun t34_30 w31 =>
      CallV Tryd.prog (.func (.func 17) #[] #[]) #[t34_30] (@hid _ ⟨fun t35_32 w33 =>
      ExtractK Tryd.prog t35_32 0 (@hid _ ⟨fun t36_34 w35 =>
      ExtractK Tryd.prog t35_32 1 (@hid _ ⟨fun t37_36 w37 =>
      BinK Tryd.prog Go.BinOp.neq 3 t29_26 t37_36 (@hid _ ⟨fun t40_38 w39 =>
      GuardK t40_38 false (fun k w => k t28_24 w) (@hid _ ⟨fun t42_40 w41 =>
      GuardK t40_38 false (fun k w => BinK Tryd.prog Go.BinOp.neq 24 t42_40 (Go.Value.pointer none) k w) (@hid _ ⟨fun t43_42 w43 =>
      GuardK t40_38 false (fun k w => k t37_36 w) (@hid _ ⟨fun t44_44 w45 =>
      GuardK t40_38 false (fun k w => BinK Tryd.prog Go.BinOp.eql 3 t44_44 (Go.Value.int Go.IntKind.i64 0) k w) (@hid _ ⟨fun t45_46 w47 =>
      GuardK t40_38 false (fun k w => BinK Tryd.prog Go.BinOp.neq 4 t43_42 t45_46 k w) (@hid _ ⟨fun t46_48 w49 =>
      PickK Tryd.prog t40_38 (Go.Value.bool true) t46_48 (@hid _ ⟨fun t47_50 w51 =>
      BrK t47_50 (@hid _ ⟨
       R (Go.Value.bool false) w51⟩) (@hid _ ⟨
       DrawK (@hid _ ⟨fun S52 w53 =>
       BinT Tryd.prog S52 Go.BinOp.eql 3 t37_36 (Go.Value.int Go.IntKind.i64 0) (@hid _ ⟨fun t49_54 =>
       TakeG t49_54 true (fun k => k t28_24) (@hid _ ⟨fun t51_55 =>
       TakeG t49_54 true (fun k => k t36_34) (@hid _ ⟨fun t54_56 =>
       (GuardK t49_54 true (fun k w => CallV Tryd.prog (.func (.func 11) #[] #[]) #[t51_55] k w) (@hid _ ⟨fun t52_57 w58 =>
       S52 w58 ∧
       (GuardK t49_54 true (fun k w => ConvK Tryd.prog 32 9 t52_57 k w) (@hid _ ⟨fun t53_59 w60 =>
       S52 w60 ∧
       (GuardK t49_54 true (fun k w => CallV Tryd.prog (.func (.func 12) #[] #[]) #[t54_56] k w) (@hid _ ⟨fun t55_61 w62 =>
       S52 w62 ∧
       (GuardK t49_54 true (fun k w => ConvK Tryd.prog 32 9 t55_61 k w) (@hid _ ⟨fun t56_63 w64 =>
       S52 w64 ∧
       TakeG t49_54 true (fun k => BinT Tryd.prog S52 Go.BinOp.neq 9 t53_59 t56_63 k) (@hid _ ⟨fun t57_65 =>
       PickT t49_54 t57_65 (Go.Value.bool false) (@hid _ ⟨fun t58_66 =>
       BrK t58_66 (@hid _ ⟨
        R (Go.Value.bool false) w64⟩) (@hid _ ⟨
        BinK Tryd.prog Go.BinOp.add 3 x4_13 (Go.Value.int Go.IntKind.i64 1) (@hid _ ⟨fun t21_67 w68 =>
        B15 t21_67 w68⟩) w64⟩)⟩)⟩)⟩) w62) ∧
       True⟩) w60) ∧
       True⟩) w58) ∧
       (GuardK t49_54 true (fun k w => CallV Tryd.prog (.func (.func 12) #[] #[]) #[t54_56] k w) (@hid _ ⟨fun t55_69 w70 =>
       S52 w70 ∧
       (GuardK t49_54 true (fun k w => ConvK Tryd.prog 32 9 t52_57 k w) (@hid _ ⟨fun t53_71 w72 =>
       S52 w72 ∧
       (GuardK t49_54 true (fun k w => ConvK Tryd.prog 32 9 t55_69 k w) (@hid _ ⟨fun t56_73 w74 =>
       S52 w74 ∧
       TakeG t49_54 true (fun k => BinT Tryd.prog S52 Go.BinOp.neq 9 t53_71 t56_73 k) (@hid _ ⟨fun t57_75 =>
       PickT t49_54 t57_75 (Go.Value.bool false) (@hid _ ⟨fun t58_76 =>
       BrK t58_76 (@hid _ ⟨
        R (Go.Value.bool false) w74⟩) (@hid _ ⟨
        BinK Tryd.prog Go.BinOp.add 3 x4_13 (Go.Value.int Go.IntKind.i64 1) (@hid _ ⟨fun t21_77 w78 =>
        B15 t21_77 w78⟩) w74⟩)⟩)⟩)⟩) w72) ∧
       True⟩) w70) ∧
       (GuardK t49_54 true (fun k w => ConvK Tryd.prog 32 9 t55_69 k w) (@hid _ ⟨fun t56_79 w80 =>
       S52 w80 ∧
       (GuardK t49_54 true (fun k w => ConvK Tryd.prog 32 9 t52_57 k w) (@hid _ ⟨fun t53_81 w82 =>
       S52 w82 ∧
       TakeG t49_54 true (fun k => BinT Tryd.prog S52 Go.BinOp.neq 9 t53_81 t56_79 k) (@hid _ ⟨fun t57_83 =>
       PickT t49_54 t57_83 (Go.Value.bool false) (@hid _ ⟨fun t58_84 =>
       BrK t58_84 (@hid _ ⟨
        R (Go.Value.bool false) w82⟩) (@hid _ ⟨
        BinK Tryd.prog Go.BinOp.add 3 x4_13 (Go.Value.int Go.IntKind.i64 1) (@hid _ ⟨fun t21_85 w86 =>
        B15 t21_85 w86⟩) w82⟩)⟩)⟩)⟩) w80) ∧
       True⟩) w70) ∧
       True⟩) w58) ∧
       True⟩) w53) ∧
       True⟩)⟩)⟩)⟩) w51⟩)⟩) w49⟩) w47⟩) w45⟩) w43⟩) w41⟩) w39⟩) w37⟩) w35⟩) w33⟩) w31⟩) w29⟩) w27⟩) w25⟩) w23⟩) w21⟩) w19⟩) w17⟩) (@hid _ ⟨
      R (Go.Value.bool true) w17⟩)⟩) w14⟩)⟩) w10⟩) w8⟩)⟩) w6⟩) w4⟩)⟩) w2⟩) w0
def a4 : Ann := (.seq .no (.seq (.seq .no (.cond (.seq .no .no) .no)) (.seq (.seq .no (.cond (.seq .no .no) .no)) (.seq .no (.seq (.seq .no (.block (.loop [4] [(2, 2), (5, 8), (18, 58)] (.seq (.seq .no (.cond .no .no)) (.seq (.block (.seq .no (.seq .no (.seq (.seq .no (.cond (.seq .no .no) .no)) (.seq (.plan (.take 0 (.take 1 (.take 2 (.take 3 (.take 6 (.alt 4 (.alt 5 (.alt 7 (.alt 8 (.take 9 (.take 10 .done)) .nil) .nil) (.alt 7 (.alt 5 (.alt 8 (.take 9 (.take 10 .done)) .nil) (.alt 8 (.alt 5 (.take 9 (.take 10 .done)) .nil) .nil)) .nil)) .nil))))))) (.cond (.seq .no .no) .no)))))) .no))))) (.seq .no .no))))))
theorem F4_eq (x0 : Value) (R : Value → World → Prop) (w0 : World) : F4 x0 R w0 = vc Tryd.prog (bodyOf Tryd.f4) a4 (retQ Tryd.prog Tryd.f4 R) (envOf 0 [x0]) w0 := by kernel_rfl
theorem F4_calls (x0 : Value) (R : Value → World → Prop) (w0 : World) (h : F4 x0 R w0) : CallK Tryd.prog 4 #[x0] R w0 :=
  calls_vc (c := bodyOf Tryd.f4) Tryd.func4 (by kernel_rfl) (by kernel_rfl) a4 (by kernel_rfl) (by kernel_rfl) [x0] (by rw [Tryd.ntmps4]; exact Nat.le_of_ble_eq_true rfl) w0 R ((F4_eq x0 R w0).mp h)

/-- canton/cantonlaw22.LivesRise, its body as a formula. -/
def F5 (x0 x1 : Value) (R : Value → World → Prop) (w0 : World) : Prop :=
  CallV Tryd.prog (.func (.func 7) #[] #[]) #[] (@hid _ ⟨fun t13_1 w2 =>
  UnK Tryd.prog Go.UnOp.not t13_1 (@hid _ ⟨fun t14_3 w4 =>
  BrK t14_3 (@hid _ ⟨
   R (Go.Value.bool false) w4⟩) (@hid _ ⟨
   BuiltinK Tryd.prog Go.Builtin.len #[22] 3 #[false] #[x0] (@hid _ ⟨fun t16_5 w6 =>
   BinK Tryd.prog Go.BinOp.gtr 3 t16_5 (Go.Value.int Go.IntKind.i64 60) (@hid _ ⟨fun t17_7 w8 =>
   GuardK t17_7 false (fun k w => k x1 w) (@hid _ ⟨fun t19_9 w10 =>
   GuardK t17_7 false (fun k w => CallV Tryd.prog (.func (.func 18) #[] #[]) #[t19_9] k w) (@hid _ ⟨fun t20_11 w12 =>
   GuardK t17_7 false (fun k w => UnK Tryd.prog Go.UnOp.not t20_11 k w) (@hid _ ⟨fun t21_13 w14 =>
   PickK Tryd.prog t17_7 (Go.Value.bool true) t21_13 (@hid _ ⟨fun t22_15 w16 =>
   BrK t22_15 (@hid _ ⟨
    R (Go.Value.bool true) w16⟩) (@hid _ ⟨
    CallV Tryd.prog (.func (.func 8) #[] #[]) #[] (@hid _ ⟨fun t23_17 w18 =>
    CallV Tryd.prog (.func (.func 10) #[] #[]) #[t23_17, x1] (@hid _ ⟨fun t27_19 w20 =>
    ExtractK Tryd.prog t27_19 0 (@hid _ ⟨fun t28_21 w22 =>
    ExtractK Tryd.prog t27_19 1 (@hid _ ⟨fun t29_23 w24 =>
    BinK Tryd.prog Go.BinOp.neq 3 t29_23 (Go.Value.int Go.IntKind.i64 0) (@hid _ ⟨fun t31_25 w26 =>
    BrK t31_25 (@hid _ ⟨
     R (Go.Value.bool false) w26⟩) (@hid _ ⟨
     LoopK3 t23_17 t28_21 (Go.Value.int Go.IntKind.i64 0) w26 (@hid _ ⟨fun _ x5_27 x6_28 x8_29 w30 B31 =>
      BuiltinK Tryd.prog Go.Builtin.len #[22] 3 #[false] #[x0] (@hid _ ⟨fun t34_32 w33 =>
      BinK Tryd.prog Go.BinOp.lss 3 x8_29 t34_32 (@hid _ ⟨fun t35_34 w35 =>
      BrK t35_34 (@hid _ ⟨
       IndexAtK Tryd.prog 22 x0 x8_29 (@hid _ ⟨fun t40_36 w37 =>
       LoadK Tryd.prog 9 t40_36 (@hid _ ⟨fun t41_38 w39 =>
       BuiltinK Tryd.prog Go.Builtin.len #[9] 3 #[false] #[t41_38] (@hid _ ⟨fun t42_40 w41 =>
       BinK Tryd.prog Go.BinOp.gtr 3 t42_40 (Go.Value.int Go.IntKind.i64 100) (@hid _ ⟨fun t43_42 w43 =>
       BrK t43_42 (@hid _ ⟨
        R (Go.Value.bool true) w43⟩) (@hid _ ⟨
        IndexAtK Tryd.prog 22 x0 x8_29 (@hid _ ⟨fun t47_44 w45 =>
        LoadK Tryd.prog 9 t47_44 (@hid _ ⟨fun t48_46 w47 =>
        CallV Tryd.prog (.func (.func 10) #[] #[]) #[x5_27, t48_46] (@hid _ ⟨fun t49_48 w49 =>
        CallV Tryd.prog (.func (.func 11) #[] #[]) #[x5_27] (@hid _ ⟨fun t52_50 w51 =>
        CallV Tryd.prog (.func (.func 13) #[] #[]) #[t52_50] (@hid _ ⟨fun t53_52 w53 =>
        ExtractK Tryd.prog t53_52 0 (@hid _ ⟨fun t54_54 w55 =>
        ExtractK Tryd.prog t53_52 1 (@hid _ ⟨fun t55_56 w57 =>
        BinK Tryd.prog Go.BinOp.neq 3 t55_56 (Go.Value.int Go.IntKind.i64 0) (@hid _ ⟨fun t57_58 w59 =>
        GuardK t57_58 false (fun k w => k t54_54 w) (@hid _ ⟨fun t59_60 w61 =>
        GuardK t57_58 false (fun k w => BinK Tryd.prog Go.BinOp.eql 24 t59_60 (Go.Value.pointer none) k w) (@hid _ ⟨fun t60_62 w63 =>
        PickK Tryd.prog t57_58 (Go.Value.bool true) t60_62 (@hid _ ⟨fun t61_64 w65 =>
        BrK t61_64 (@hid _ ⟨
         R (Go.Value.bool false) w65⟩) (@hid _ ⟨
         CallV Tryd.prog (.func (.func 10) #[] #[]) #[t54_54, x1] (@hid _ ⟨fun t65_66 w67 =>
         ExtractK Tryd.prog t65_66 0 (@hid _ ⟨fun t66_68 w69 =>
         ExtractK Tryd.prog t65_66 1 (@hid _ ⟨fun t67_70 w71 =>
         BinK Tryd.prog Go.BinOp.neq 3 t67_70 (Go.Value.int Go.IntKind.i64 0) (@hid _ ⟨fun t69_72 w73 =>
         GuardK t69_72 false (fun k w => k t66_68 w) (@hid _ ⟨fun t71_74 w75 =>
         GuardK t69_72 false (fun k w => k x6_28 w) (@hid _ ⟨fun t72_76 w77 =>
         GuardK t69_72 false (fun k w => BinK Tryd.prog Go.BinOp.leq 2 t71_74 t72_76 k w) (@hid _ ⟨fun t73_78 w79 =>
         PickK Tryd.prog t69_72 (Go.Value.bool true) t73_78 (@hid _ ⟨fun t74_80 w81 =>
         BrK t74_80 (@hid _ ⟨
          R (Go.Value.bool false) w81⟩) (@hid _ ⟨
          BinK Tryd.prog Go.BinOp.add 3 x8_29 (Go.Value.int Go.IntKind.i64 1) (@hid _ ⟨fun t37_82 w83 =>
          B31 t54_54 t66_68 t37_82 w83⟩) w81⟩)⟩) w79⟩) w77⟩) w75⟩) w73⟩) w71⟩) w69⟩) w67⟩) w65⟩)⟩) w63⟩) w61⟩) w59⟩) w57⟩) w55⟩) w53⟩) w51⟩) w49⟩) w47⟩) w45⟩) w43⟩)⟩) w41⟩) w39⟩) w37⟩) w35⟩) (@hid _ ⟨
       CallV Tryd.prog (.func (.func 14) #[] #[]) #[x5_27, x1] (@hid _ ⟨fun t79_84 w85 =>
       BinK Tryd.prog Go.BinOp.eql 2 t79_84 x6_28 (@hid _ ⟨fun t81_86 w87 =>
       R t81_86 w87⟩) w85⟩) w35⟩)⟩) w33⟩) w30⟩)⟩)⟩) w24⟩) w22⟩) w20⟩) w18⟩) w16⟩)⟩) w14⟩) w12⟩) w10⟩) w8⟩) w6⟩) w4⟩)⟩) w2⟩) w0
def a5 : Ann := (.seq .no (.seq (.seq .no (.cond (.seq .no .no) .no)) (.seq (.seq .no (.cond (.seq .no .no) .no)) (.seq .no (.seq .no (.seq (.seq .no (.cond (.seq .no .no) .no)) (.seq (.seq .no (.block (.loop [5, 6, 8] [(4, 4), (9, 12), (32, 76)] (.seq (.seq .no (.cond .no .no)) (.seq (.block (.seq (.seq .no (.cond (.seq .no .no) .no)) (.seq .no (.seq .no (.seq (.seq .no (.cond (.seq .no .no) .no)) (.seq .no (.seq (.seq .no (.cond (.seq .no .no) .no)) (.seq .no .no)))))))) .no))))) (.seq .no .no))))))))
theorem F5_eq (x0 x1 : Value) (R : Value → World → Prop) (w0 : World) : F5 x0 x1 R w0 = vc Tryd.prog (bodyOf Tryd.f5) a5 (retQ Tryd.prog Tryd.f5 R) (envOf 0 [x0, x1]) w0 := by kernel_rfl
theorem F5_calls (x0 x1 : Value) (R : Value → World → Prop) (w0 : World) (h : F5 x0 x1 R w0) : CallK Tryd.prog 5 #[x0, x1] R w0 :=
  calls_vc (c := bodyOf Tryd.f5) Tryd.func5 (by kernel_rfl) (by kernel_rfl) a5 (by kernel_rfl) (by kernel_rfl) [x0, x1] (by rw [Tryd.ntmps5]; exact Nat.le_of_ble_eq_true rfl) w0 R ((F5_eq x0 x1 R w0).mp h)

/-- canton/cantonlaw22.LivesFull, its body as a formula. -/
def F6 (x0 x1 : Value) (R : Value → World → Prop) (w0 : World) : Prop :=
  CallV Tryd.prog (.func (.func 7) #[] #[]) #[] (@hid _ ⟨fun t14_1 w2 =>
  UnK Tryd.prog Go.UnOp.not t14_1 (@hid _ ⟨fun t15_3 w4 =>
  BrK t15_3 (@hid _ ⟨
   R (Go.Value.bool false) w4⟩) (@hid _ ⟨
   CallV Tryd.prog (.func (.func 8) #[] #[]) #[] (@hid _ ⟨fun t16_5 w6 =>
   LoopK1 (Go.Value.int Go.IntKind.i64 0) w6 (@hid _ ⟨fun _ x6_7 w8 B9 =>
    BinK Tryd.prog Go.BinOp.rem 5 x0 (Go.Value.int Go.IntKind.u8 3) (@hid _ ⟨fun t19_10 w11 =>
    ConvK Tryd.prog 5 3 t19_10 (@hid _ ⟨fun t20_12 w13 =>
    BinK Tryd.prog Go.BinOp.add 3 (Go.Value.int Go.IntKind.i64 256) t20_12 (@hid _ ⟨fun t21_14 w15 =>
    BinK Tryd.prog Go.BinOp.lss 3 x6_7 t21_14 (@hid _ ⟨fun t22_16 w17 =>
    BrK t22_16 (@hid _ ⟨
     BinK Tryd.prog Go.BinOp.quo 3 x6_7 (Go.Value.int Go.IntKind.i64 26) (@hid _ ⟨fun t28_18 w19 =>
     BinK Tryd.prog Go.BinOp.add 3 (Go.Value.int Go.IntKind.i64 97) t28_18 (@hid _ ⟨fun t29_20 w21 =>
     ConvK Tryd.prog 3 5 t29_20 (@hid _ ⟨fun t30_22 w23 =>
     BinK Tryd.prog Go.BinOp.rem 3 x6_7 (Go.Value.int Go.IntKind.i64 26) (@hid _ ⟨fun t32_24 w25 =>
     BinK Tryd.prog Go.BinOp.add 3 (Go.Value.int Go.IntKind.i64 97) t32_24 (@hid _ ⟨fun t33_26 w27 =>
     ConvK Tryd.prog 3 5 t33_26 (@hid _ ⟨fun t34_28 w29 =>
     BuildSliceK Tryd.prog 32 2 #[(0, t30_22), (1, t34_28)] (@hid _ ⟨fun t35_30 w31 =>
     ConvK Tryd.prog 32 9 t35_30 (@hid _ ⟨fun t36_32 w33 =>
     BinK Tryd.prog Go.BinOp.add 9 (Go.Value.string { data := #[47, 113, 47, 110] }) t36_32 (@hid _ ⟨fun t37_34 w35 =>
     CallV Tryd.prog (.func (.func 10) #[] #[]) #[t16_5, t37_34] (@hid _ ⟨fun t38_36 w37 =>
     ExtractK Tryd.prog t38_36 0 (@hid _ ⟨fun t39_38 w39 =>
     ExtractK Tryd.prog t38_36 1 (@hid _ ⟨fun t40_40 w41 =>
     BinK Tryd.prog Go.BinOp.eql 3 t40_40 (Go.Value.int Go.IntKind.i64 0) (@hid _ ⟨fun t42_42 w43 =>
     BinK Tryd.prog Go.BinOp.lss 3 x6_7 (Go.Value.int Go.IntKind.i64 256) (@hid _ ⟨fun t44_44 w45 =>
     BinK Tryd.prog Go.BinOp.neq 4 t42_42 t44_44 (@hid _ ⟨fun t45_46 w47 =>
     GuardK t45_46 false (fun k w => k x6_7 w) (@hid _ ⟨fun t47_48 w49 =>
     GuardK t45_46 false (fun k w => BinK Tryd.prog Go.BinOp.lss 3 t47_48 (Go.Value.int Go.IntKind.i64 256) k w) (@hid _ ⟨fun t48_50 w51 =>
     GuardK t45_46 false (fun k w => k t48_50 w) (@hid _ ⟨fun t49_52 w53 =>
     GuardK t49_52 true (fun k w => k t39_38 w) (@hid _ ⟨fun t50_54 w55 =>
     GuardK t49_52 true (fun k w => BinK Tryd.prog Go.BinOp.neq 2 t50_54 (Go.Value.int Go.IntKind.i64 1) k w) (@hid _ ⟨fun t51_56 w57 =>
     GuardK t45_46 false (fun k w => PickK Tryd.prog t49_52 t51_56 (Go.Value.bool false) k w) (@hid _ ⟨fun t52_58 w59 =>
     PickK Tryd.prog t45_46 (Go.Value.bool true) t52_58 (@hid _ ⟨fun t53_60 w61 =>
     GuardK t53_60 false (fun k w => k x6_7 w) (@hid _ ⟨fun t55_62 w63 =>
     GuardK t53_60 false (fun k w => BinK Tryd.prog Go.BinOp.geq 3 t55_62 (Go.Value.int Go.IntKind.i64 256) k w) (@hid _ ⟨fun t56_64 w65 =>
     GuardK t53_60 false (fun k w => k t56_64 w) (@hid _ ⟨fun t57_66 w67 =>
     GuardK t57_66 true (fun k w => k t40_40 w) (@hid _ ⟨fun t58_68 w69 =>
     GuardK t57_66 true (fun k w => BinK Tryd.prog Go.BinOp.neq 3 t58_68 (Go.Value.int Go.IntKind.i64 9) k w) (@hid _ ⟨fun t59_70 w71 =>
     GuardK t53_60 false (fun k w => PickK Tryd.prog t57_66 t59_70 (Go.Value.bool false) k w) (@hid _ ⟨fun t60_72 w73 =>
     PickK Tryd.prog t53_60 (Go.Value.bool true) t60_72 (@hid _ ⟨fun t61_74 w75 =>
     BrK t61_74 (@hid _ ⟨
      R (Go.Value.bool false) w75⟩) (@hid _ ⟨
      BinK Tryd.prog Go.BinOp.add 3 x6_7 (Go.Value.int Go.IntKind.i64 1) (@hid _ ⟨fun t24_76 w77 =>
      B9 t24_76 w77⟩) w75⟩)⟩) w73⟩) w71⟩) w69⟩) w67⟩) w65⟩) w63⟩) w61⟩) w59⟩) w57⟩) w55⟩) w53⟩) w51⟩) w49⟩) w47⟩) w45⟩) w43⟩) w41⟩) w39⟩) w37⟩) w35⟩) w33⟩) w31⟩) w29⟩) w27⟩) w25⟩) w23⟩) w21⟩) w19⟩) w17⟩) (@hid _ ⟨
     ConvK Tryd.prog 5 3 x1 (@hid _ ⟨fun t63_78 w79 =>
     BinK Tryd.prog Go.BinOp.quo 3 t63_78 (Go.Value.int Go.IntKind.i64 26) (@hid _ ⟨fun t64_80 w81 =>
     BinK Tryd.prog Go.BinOp.add 3 (Go.Value.int Go.IntKind.i64 97) t64_80 (@hid _ ⟨fun t65_82 w83 =>
     ConvK Tryd.prog 3 5 t65_82 (@hid _ ⟨fun t66_84 w85 =>
     ConvK Tryd.prog 5 3 x1 (@hid _ ⟨fun t68_86 w87 =>
     BinK Tryd.prog Go.BinOp.rem 3 t68_86 (Go.Value.int Go.IntKind.i64 26) (@hid _ ⟨fun t69_88 w89 =>
     BinK Tryd.prog Go.BinOp.add 3 (Go.Value.int Go.IntKind.i64 97) t69_88 (@hid _ ⟨fun t70_90 w91 =>
     ConvK Tryd.prog 3 5 t70_90 (@hid _ ⟨fun t71_92 w93 =>
     BuildSliceK Tryd.prog 32 2 #[(0, t66_84), (1, t71_92)] (@hid _ ⟨fun t72_94 w95 =>
     ConvK Tryd.prog 32 9 t72_94 (@hid _ ⟨fun t73_96 w97 =>
     BinK Tryd.prog Go.BinOp.add 9 (Go.Value.string { data := #[47, 113, 47, 110] }) t73_96 (@hid _ ⟨fun t74_98 w99 =>
     CallV Tryd.prog (.func (.func 10) #[] #[]) #[t16_5, t74_98] (@hid _ ⟨fun t78_100 w101 =>
     ExtractK Tryd.prog t78_100 0 (@hid _ ⟨fun t79_102 w103 =>
     ExtractK Tryd.prog t78_100 1 (@hid _ ⟨fun t80_104 w105 =>
     CallV Tryd.prog (.func (.func 11) #[] #[]) #[t16_5] (@hid _ ⟨fun t83_106 w107 =>
     CallV Tryd.prog (.func (.func 13) #[] #[]) #[t83_106] (@hid _ ⟨fun t84_108 w109 =>
     ExtractK Tryd.prog t84_108 0 (@hid _ ⟨fun t85_110 w111 =>
     ExtractK Tryd.prog t84_108 1 (@hid _ ⟨fun t86_112 w113 =>
     BinK Tryd.prog Go.BinOp.eql 3 t80_104 (Go.Value.int Go.IntKind.i64 0) (@hid _ ⟨fun t88_114 w115 =>
     GuardK t88_114 true (fun k w => k t79_102 w) (@hid _ ⟨fun t90_116 w117 =>
     GuardK t88_114 true (fun k w => BinK Tryd.prog Go.BinOp.eql 2 t90_116 (Go.Value.int Go.IntKind.i64 2) k w) (@hid _ ⟨fun t91_118 w119 =>
     PickK Tryd.prog t88_114 t91_118 (Go.Value.bool false) (@hid _ ⟨fun t92_120 w121 =>
     GuardK t92_120 true (fun k w => k t86_112 w) (@hid _ ⟨fun t94_122 w123 =>
     GuardK t92_120 true (fun k w => BinK Tryd.prog Go.BinOp.eql 3 t94_122 (Go.Value.int Go.IntKind.i64 0) k w) (@hid _ ⟨fun t95_124 w125 =>
     PickK Tryd.prog t92_120 t95_124 (Go.Value.bool false) (@hid _ ⟨fun t96_126 w127 =>
     GuardK t96_126 true (fun k w => k t85_110 w) (@hid _ ⟨fun t98_128 w129 =>
     GuardK t96_126 true (fun k w => BinK Tryd.prog Go.BinOp.neq 24 t98_128 (Go.Value.pointer none) k w) (@hid _ ⟨fun t99_130 w131 =>
     PickK Tryd.prog t96_126 t99_130 (Go.Value.bool false) (@hid _ ⟨fun t100_132 w133 =>
     GuardK t100_132 true (fun k w => k t85_110 w) (@hid _ ⟨fun t102_134 w135 =>
     GuardK t100_132 true (fun k w => k t74_98 w) (@hid _ ⟨fun t103_136 w137 =>
     GuardK t100_132 true (fun k w => CallV Tryd.prog (.func (.func 14) #[] #[]) #[t102_134, t103_136] k w) (@hid _ ⟨fun t104_138 w139 =>
     GuardK t100_132 true (fun k w => BinK Tryd.prog Go.BinOp.eql 2 t104_138 (Go.Value.int Go.IntKind.i64 2) k w) (@hid _ ⟨fun t105_140 w141 =>
     PickK Tryd.prog t100_132 t105_140 (Go.Value.bool false) (@hid _ ⟨fun t106_142 w143 =>
     R t106_142 w143⟩) w141⟩) w139⟩) w137⟩) w135⟩) w133⟩) w131⟩) w129⟩) w127⟩) w125⟩) w123⟩) w121⟩) w119⟩) w117⟩) w115⟩) w113⟩) w111⟩) w109⟩) w107⟩) w105⟩) w103⟩) w101⟩) w99⟩) w97⟩) w95⟩) w93⟩) w91⟩) w89⟩) w87⟩) w85⟩) w83⟩) w81⟩) w79⟩) w17⟩)⟩) w15⟩) w13⟩) w11⟩) w8⟩)⟩) w4⟩)⟩) w2⟩) w0
def a6 : Ann := (.seq .no (.seq (.seq .no (.cond (.seq .no .no) .no)) (.seq .no (.seq (.seq .no (.block (.loop [6] [(4, 4), (7, 8), (17, 61)] (.seq (.seq .no (.cond .no .no)) (.seq (.block (.seq .no (.seq .no (.cond (.seq .no .no) .no)))) .no))))) (.seq .no (.seq .no (.seq .no (.seq .no .no))))))))
theorem F6_eq (x0 x1 : Value) (R : Value → World → Prop) (w0 : World) : F6 x0 x1 R w0 = vc Tryd.prog (bodyOf Tryd.f6) a6 (retQ Tryd.prog Tryd.f6 R) (envOf 0 [x0, x1]) w0 := by kernel_rfl
theorem F6_calls (x0 x1 : Value) (R : Value → World → Prop) (w0 : World) (h : F6 x0 x1 R w0) : CallK Tryd.prog 6 #[x0, x1] R w0 :=
  calls_vc (c := bodyOf Tryd.f6) Tryd.func6 (by kernel_rfl) (by kernel_rfl) a6 (by kernel_rfl) (by kernel_rfl) [x0, x1] (by rw [Tryd.ntmps6]; exact Nat.le_of_ble_eq_true rfl) w0 R ((F6_eq x0 x1 R w0).mp h)

/-- canton/cantonlaw22.known, its body as a formula. -/
def F7 (R : Value → World → Prop) (w0 : World) : Prop :=
  CallV Tryd.prog (.func (.func 8) #[] #[]) #[] (@hid _ ⟨fun t12_1 w2 =>
  BinK Tryd.prog Go.BinOp.eql 24 t12_1 (Go.Value.pointer none) (@hid _ ⟨fun t14_3 w4 =>
  BrK t14_3 (@hid _ ⟨
   R (Go.Value.bool false) w4⟩) (@hid _ ⟨
   CallV Tryd.prog (.func (.func 10) #[] #[]) #[t12_1, (Go.Value.string { data := #[47, 97, 47, 120] })] (@hid _ ⟨fun t17_5 w6 =>
   ExtractK Tryd.prog t17_5 0 (@hid _ ⟨fun t18_7 w8 =>
   ExtractK Tryd.prog t17_5 1 (@hid _ ⟨fun t19_9 w10 =>
   CallV Tryd.prog (.func (.func 10) #[] #[]) #[t12_1, (Go.Value.string { data := #[47, 97, 47, 120] })] (@hid _ ⟨fun t22_11 w12 =>
   ExtractK Tryd.prog t22_11 0 (@hid _ ⟨fun t23_13 w14 =>
   ExtractK Tryd.prog t22_11 1 (@hid _ ⟨fun t24_15 w16 =>
   CallV Tryd.prog (.func (.func 10) #[] #[]) #[t12_1, (Go.Value.string { data := #[47] })] (@hid _ ⟨fun t27_17 w18 =>
   ExtractK Tryd.prog t27_17 0 (@hid _ ⟨fun t28_19 w20 =>
   ExtractK Tryd.prog t27_17 1 (@hid _ ⟨fun t29_21 w22 =>
   CallV Tryd.prog (.func (.func 11) #[] #[]) #[t12_1] (@hid _ ⟨fun t32_23 w24 =>
   CallV Tryd.prog (.func (.func 13) #[] #[]) #[t32_23] (@hid _ ⟨fun t33_25 w26 =>
   ExtractK Tryd.prog t33_25 0 (@hid _ ⟨fun t34_27 w28 =>
   ExtractK Tryd.prog t33_25 1 (@hid _ ⟨fun t35_29 w30 =>
   BuildSliceK Tryd.prog 32 5 #[(0, (Go.Value.int Go.IntKind.u8 120)), (1, (Go.Value.int Go.IntKind.u8 120)), (2, (Go.Value.int Go.IntKind.u8 120)), (3, (Go.Value.int Go.IntKind.u8 120)), (4, (Go.Value.int Go.IntKind.u8 120))] (@hid _ ⟨fun t37_31 w32 =>
   ConvK Tryd.prog 32 32 t37_31 (@hid _ ⟨fun t38_33 w34 =>
   CallV Tryd.prog (.func (.func 13) #[] #[]) #[t38_33] (@hid _ ⟨fun t39_35 w36 =>
   ExtractK Tryd.prog t39_35 0 (@hid _ ⟨fun t40_37 w38 =>
   ExtractK Tryd.prog t39_35 1 (@hid _ ⟨fun t41_39 w40 =>
   BinK Tryd.prog Go.BinOp.eql 2 t18_7 (Go.Value.int Go.IntKind.i64 1) (@hid _ ⟨fun t43_41 w42 =>
   GuardK t43_41 true (fun k w => k t23_13 w) (@hid _ ⟨fun t45_43 w44 =>
   GuardK t43_41 true (fun k w => BinK Tryd.prog Go.BinOp.eql 2 t45_43 (Go.Value.int Go.IntKind.i64 2) k w) (@hid _ ⟨fun t46_45 w46 =>
   PickK Tryd.prog t43_41 t46_45 (Go.Value.bool false) (@hid _ ⟨fun t47_47 w48 =>
   GuardK t47_47 true (fun k w => k t19_9 w) (@hid _ ⟨fun t49_49 w50 =>
   GuardK t47_47 true (fun k w => k t24_15 w) (@hid _ ⟨fun t50_51 w52 =>
   GuardK t47_47 true (fun k w => BinK Tryd.prog Go.BinOp.add 3 t49_49 t50_51 k w) (@hid _ ⟨fun t51_53 w54 =>
   GuardK t47_47 true (fun k w => k t35_29 w) (@hid _ ⟨fun t52_55 w56 =>
   GuardK t47_47 true (fun k w => BinK Tryd.prog Go.BinOp.add 3 t51_53 t52_55 k w) (@hid _ ⟨fun t53_57 w58 =>
   GuardK t47_47 true (fun k w => BinK Tryd.prog Go.BinOp.eql 3 t53_57 (Go.Value.int Go.IntKind.i64 0) k w) (@hid _ ⟨fun t54_59 w60 =>
   PickK Tryd.prog t47_47 t54_59 (Go.Value.bool false) (@hid _ ⟨fun t55_61 w62 =>
   GuardK t55_61 true (fun k w => k t29_21 w) (@hid _ ⟨fun t57_63 w64 =>
   GuardK t55_61 true (fun k w => BinK Tryd.prog Go.BinOp.eql 3 t57_63 (Go.Value.int Go.IntKind.i64 5) k w) (@hid _ ⟨fun t58_65 w66 =>
   PickK Tryd.prog t55_61 t58_65 (Go.Value.bool false) (@hid _ ⟨fun t59_67 w68 =>
   GuardK t59_67 true (fun k w => k t12_1 w) (@hid _ ⟨fun t61_69 w70 =>
   GuardK t59_67 true (fun k w => CallV Tryd.prog (.func (.func 14) #[] #[]) #[t61_69, (Go.Value.string { data := #[47, 97, 47, 120] })] k w) (@hid _ ⟨fun t62_71 w72 =>
   GuardK t59_67 true (fun k w => BinK Tryd.prog Go.BinOp.eql 2 t62_71 (Go.Value.int Go.IntKind.i64 2) k w) (@hid _ ⟨fun t63_73 w74 =>
   PickK Tryd.prog t59_67 t63_73 (Go.Value.bool false) (@hid _ ⟨fun t64_75 w76 =>
   GuardK t64_75 true (fun k w => k t12_1 w) (@hid _ ⟨fun t66_77 w78 =>
   GuardK t64_75 true (fun k w => CallV Tryd.prog (.func (.func 14) #[] #[]) #[t66_77, (Go.Value.string { data := #[47, 98] })] k w) (@hid _ ⟨fun t67_79 w80 =>
   GuardK t64_75 true (fun k w => BinK Tryd.prog Go.BinOp.eql 2 t67_79 (Go.Value.int Go.IntKind.i64 0) k w) (@hid _ ⟨fun t68_81 w82 =>
   PickK Tryd.prog t64_75 t68_81 (Go.Value.bool false) (@hid _ ⟨fun t69_83 w84 =>
   GuardK t69_83 true (fun k w => k t34_27 w) (@hid _ ⟨fun t71_85 w86 =>
   GuardK t69_83 true (fun k w => BinK Tryd.prog Go.BinOp.neq 24 t71_85 (Go.Value.pointer none) k w) (@hid _ ⟨fun t72_87 w88 =>
   PickK Tryd.prog t69_83 t72_87 (Go.Value.bool false) (@hid _ ⟨fun t73_89 w90 =>
   GuardK t73_89 true (fun k w => k t34_27 w) (@hid _ ⟨fun t75_91 w92 =>
   GuardK t73_89 true (fun k w => CallV Tryd.prog (.func (.func 14) #[] #[]) #[t75_91, (Go.Value.string { data := #[47, 97, 47, 120] })] k w) (@hid _ ⟨fun t76_93 w94 =>
   GuardK t73_89 true (fun k w => BinK Tryd.prog Go.BinOp.eql 2 t76_93 (Go.Value.int Go.IntKind.i64 2) k w) (@hid _ ⟨fun t77_95 w96 =>
   PickK Tryd.prog t73_89 t77_95 (Go.Value.bool false) (@hid _ ⟨fun t78_97 w98 =>
   GuardK t78_97 true (fun k w => k t41_39 w) (@hid _ ⟨fun t80_99 w100 =>
   GuardK t78_97 true (fun k w => BinK Tryd.prog Go.BinOp.eql 3 t80_99 (Go.Value.int Go.IntKind.i64 10) k w) (@hid _ ⟨fun t81_101 w102 =>
   PickK Tryd.prog t78_97 t81_101 (Go.Value.bool false) (@hid _ ⟨fun t82_103 w104 =>
   R t82_103 w104⟩) w102⟩) w100⟩) w98⟩) w96⟩) w94⟩) w92⟩) w90⟩) w88⟩) w86⟩) w84⟩) w82⟩) w80⟩) w78⟩) w76⟩) w74⟩) w72⟩) w70⟩) w68⟩) w66⟩) w64⟩) w62⟩) w60⟩) w58⟩) w56⟩) w54⟩) w52⟩) w50⟩) w48⟩) w46⟩) w44⟩) w42⟩) w40⟩) w38⟩) w36⟩) w34⟩) w32⟩) w30⟩) w28⟩) w26⟩) w24⟩) w22⟩) w20⟩) w18⟩) w16⟩) w14⟩) w12⟩) w10⟩) w8⟩) w6⟩) w4⟩)⟩) w2⟩) w0
def a7 : Ann := (.seq .no (.seq .no (.seq (.seq .no (.cond (.seq .no .no) .no)) (.seq .no (.seq .no (.seq .no (.seq .no (.seq .no (.seq .no .no)))))))))
theorem F7_eq (R : Value → World → Prop) (w0 : World) : F7  R w0 = vc Tryd.prog (bodyOf Tryd.f7) a7 (retQ Tryd.prog Tryd.f7 R) (envOf 0 []) w0 := by kernel_rfl
theorem F7_calls (R : Value → World → Prop) (w0 : World) (h : F7  R w0) : CallK Tryd.prog 7 #[] R w0 :=
  calls_vc (c := bodyOf Tryd.f7) Tryd.func7 (by kernel_rfl) (by kernel_rfl) a7 (by kernel_rfl) (by kernel_rfl) [] (by rw [Tryd.ntmps7]; exact Nat.le_of_ble_eq_true rfl) w0 R ((F7_eq  R w0).mp h)

/-- canton/lives.New, its body as a formula. -/
def F8 (R : Value → World → Prop) (w0 : World) : Prop :=
  CallV Tryd.prog (.func (.func 19) #[] #[]) #[] (@hid _ ⟨fun t1_1 w2 =>
  BuildK Tryd.prog 52 #[(0, t1_1)] (@hid _ ⟨fun t2_3 w4 =>
  BoxK Tryd.prog 52 t2_3 (@hid _ ⟨fun t3_5 w6 =>
  R t3_5 w6⟩) w4⟩) w2⟩) w0
def a8 : Ann := (.seq .no (.seq .no .no))
theorem F8_eq (R : Value → World → Prop) (w0 : World) : F8  R w0 = vc Tryd.prog (bodyOf Tryd.f8) a8 (retQ Tryd.prog Tryd.f8 R) (envOf 0 []) w0 := by kernel_rfl
theorem F8_calls (R : Value → World → Prop) (w0 : World) (h : F8  R w0) : CallK Tryd.prog 8 #[] R w0 :=
  calls_vc (c := bodyOf Tryd.f8) Tryd.func8 (by kernel_rfl) (by kernel_rfl) a8 (by kernel_rfl) (by kernel_rfl) [] (by rw [Tryd.ntmps8]; exact Nat.le_of_ble_eq_true rfl) w0 R ((F8_eq  R w0).mp h)

/-- canton/cantonref24.Begin, its body as a formula. -/
def F9 (x0 x1 : Value) (R : Value → World → Prop) (w0 : World) : Prop :=
  CallV Tryd.prog (.func (.func 18) #[] #[]) #[x1] (@hid _ ⟨fun t12_1 w2 =>
  UnK Tryd.prog Go.UnOp.not t12_1 (@hid _ ⟨fun t13_3 w4 =>
  BrK t13_3 (@hid _ ⟨
   R (.tuple #[x0, (Go.Value.int Go.IntKind.i64 0), (Go.Value.int Go.IntKind.i64 5)]) w4⟩) (@hid _ ⟨
   LoopK1 (Go.Value.int Go.IntKind.i64 0) w4 (@hid _ ⟨fun _ x7_5 w6 B7 =>
    BuiltinK Tryd.prog Go.Builtin.len #[26] 3 #[false] #[x0] (@hid _ ⟨fun t17_8 w9 =>
    BinK Tryd.prog Go.BinOp.lss 3 x7_5 t17_8 (@hid _ ⟨fun t18_10 w11 =>
    GuardK t18_10 true (fun k w => k x0 w) (@hid _ ⟨fun t20_12 w13 =>
    GuardK t18_10 true (fun k w => k x7_5 w) (@hid _ ⟨fun t21_14 w15 =>
    GuardK t18_10 true (fun k w => IndexAtK Tryd.prog 26 t20_12 t21_14 k w) (@hid _ ⟨fun t22_16 w17 =>
    GuardK t18_10 true (fun k w => FieldAtK Tryd.prog 39 t22_16 0 k w) (@hid _ ⟨fun t23_18 w19 =>
    GuardK t18_10 true (fun k w => LoadK Tryd.prog 9 t23_18 k w) (@hid _ ⟨fun t24_20 w21 =>
    GuardK t18_10 true (fun k w => k x1 w) (@hid _ ⟨fun t25_22 w23 =>
    GuardK t18_10 true (fun k w => BinK Tryd.prog Go.BinOp.lss 9 t24_20 t25_22 k w) (@hid _ ⟨fun t26_24 w25 =>
    PickK Tryd.prog t18_10 t26_24 (Go.Value.bool false) (@hid _ ⟨fun t27_26 w27 =>
    BrK t27_26 (@hid _ ⟨
     BinK Tryd.prog Go.BinOp.add 3 x7_5 (Go.Value.int Go.IntKind.i64 1) (@hid _ ⟨fun t29_28 w29 =>
     B7 t29_28 w29⟩) w27⟩) (@hid _ ⟨
     BuiltinK Tryd.prog Go.Builtin.len #[26] 3 #[false] #[x0] (@hid _ ⟨fun t32_30 w31 =>
     BinK Tryd.prog Go.BinOp.lss 3 x7_5 t32_30 (@hid _ ⟨fun t33_32 w33 =>
     GuardK t33_32 true (fun k w => k x0 w) (@hid _ ⟨fun t35_34 w35 =>
     GuardK t33_32 true (fun k w => k x7_5 w) (@hid _ ⟨fun t36_36 w37 =>
     GuardK t33_32 true (fun k w => IndexAtK Tryd.prog 26 t35_34 t36_36 k w) (@hid _ ⟨fun t37_38 w39 =>
     GuardK t33_32 true (fun k w => FieldAtK Tryd.prog 39 t37_38 0 k w) (@hid _ ⟨fun t38_40 w41 =>
     GuardK t33_32 true (fun k w => LoadK Tryd.prog 9 t38_40 k w) (@hid _ ⟨fun t39_42 w43 =>
     GuardK t33_32 true (fun k w => k x1 w) (@hid _ ⟨fun t40_44 w45 =>
     GuardK t33_32 true (fun k w => BinK Tryd.prog Go.BinOp.eql 9 t39_42 t40_44 k w) (@hid _ ⟨fun t41_46 w47 =>
     PickK Tryd.prog t33_32 t41_46 (Go.Value.bool false) (@hid _ ⟨fun t42_48 w49 =>
     UnK Tryd.prog Go.UnOp.not t42_48 (@hid _ ⟨fun t44_50 w51 =>
     GuardK t44_50 true (fun k w => k x0 w) (@hid _ ⟨fun t46_52 w53 =>
     GuardK t44_50 true (fun k w => BuiltinK Tryd.prog Go.Builtin.len #[26] 3 #[false] #[t46_52] k w) (@hid _ ⟨fun t47_54 w55 =>
     GuardK t44_50 true (fun k w => BinK Tryd.prog Go.BinOp.geq 3 t47_54 (Go.Value.int Go.IntKind.i64 256) k w) (@hid _ ⟨fun t48_56 w57 =>
     PickK Tryd.prog t44_50 t48_56 (Go.Value.bool false) (@hid _ ⟨fun t49_58 w59 =>
     GuardK t49_58 false (fun k w => k t42_48 w) (@hid _ ⟨fun t51_60 w61 =>
     GuardK t49_58 false (fun k w => k t51_60 w) (@hid _ ⟨fun t52_62 w63 =>
     GuardK t52_62 true (fun k w => k x0 w) (@hid _ ⟨fun t53_64 w65 =>
     GuardK t52_62 true (fun k w => k x7_5 w) (@hid _ ⟨fun t54_66 w67 =>
     GuardK t52_62 true (fun k w => IndexAtK Tryd.prog 26 t53_64 t54_66 k w) (@hid _ ⟨fun t55_68 w69 =>
     GuardK t52_62 true (fun k w => FieldAtK Tryd.prog 39 t55_68 1 k w) (@hid _ ⟨fun t56_70 w71 =>
     GuardK t52_62 true (fun k w => LoadK Tryd.prog 2 t56_70 k w) (@hid _ ⟨fun t57_72 w73 =>
     GuardK t52_62 true (fun k w => BinK Tryd.prog Go.BinOp.geq 2 t57_72 (Go.Value.int Go.IntKind.i64 1000000000) k w) (@hid _ ⟨fun t58_74 w75 =>
     GuardK t49_58 false (fun k w => PickK Tryd.prog t52_62 t58_74 (Go.Value.bool false) k w) (@hid _ ⟨fun t59_76 w77 =>
     PickK Tryd.prog t49_58 (Go.Value.bool true) t59_76 (@hid _ ⟨fun t60_78 w79 =>
     BrK t60_78 (@hid _ ⟨
      R (.tuple #[x0, (Go.Value.int Go.IntKind.i64 0), (Go.Value.int Go.IntKind.i64 9)]) w79⟩) (@hid _ ⟨
      BuildK Tryd.prog 39 #[(0, x1), (1, (Go.Value.int Go.IntKind.i64 1))] (@hid _ ⟨fun t63_80 w81 =>
      AllocK Tryd.prog 39 (@hid _ ⟨fun t9_82 w83 =>
      StoreK Tryd.prog 39 t9_82 t63_80 (@hid _ ⟨fun tu_84 w85 =>
      BuildSliceK Tryd.prog 26 0 #[] (@hid _ ⟨fun t64_86 w87 =>
      SliceK Tryd.prog 26 x0 none (some x7_5) none (@hid _ ⟨fun t67_88 w89 =>
      BuiltinK Tryd.prog Go.Builtin.append #[26, 26] 26 #[false, false] #[t64_86, t67_88] (@hid _ ⟨fun t68_90 w91 =>
      CutK1 (@hid _ ⟨fun R92 =>
       BrK t42_48 (@hid _ ⟨
        IndexAtK Tryd.prog 26 x0 x7_5 (@hid _ ⟨fun t72_95 w96 =>
        FieldAtK Tryd.prog 39 t72_95 1 (@hid _ ⟨fun t73_97 w98 =>
        LoadK Tryd.prog 2 t73_97 (@hid _ ⟨fun t74_99 w100 =>
        BinK Tryd.prog Go.BinOp.add 2 t74_99 (Go.Value.int Go.IntKind.i64 1) (@hid _ ⟨fun t75_101 w102 =>
        FieldAtK Tryd.prog 39 t9_82 1 (@hid _ ⟨fun t76_103 w104 =>
        StoreK Tryd.prog 2 t76_103 t75_101 (@hid _ ⟨fun tu_105 w106 =>
        BinK Tryd.prog Go.BinOp.add 3 x7_5 (Go.Value.int Go.IntKind.i64 1) (@hid _ ⟨fun t78_107 w108 =>
        R92 t78_107 w108⟩) w106⟩) w104⟩) w102⟩) w100⟩) w98⟩) w96⟩) w91⟩) (@hid _ ⟨
        R92 x7_5 w91⟩)⟩)
      (@hid _ ⟨fun _ x7_93 w94 =>
       LoadK Tryd.prog 39 t9_82 (@hid _ ⟨fun t80_109 w110 =>
       BuildSliceK Tryd.prog 26 1 #[(0, t80_109)] (@hid _ ⟨fun t81_111 w112 =>
       BuiltinK Tryd.prog Go.Builtin.append #[26, 26] 26 #[false, false] #[t68_90, t81_111] (@hid _ ⟨fun t82_113 w114 =>
       DrawK (@hid _ ⟨fun S115 w116 =>
       TakeS Tryd.prog S115 (Instr.sliceAt 26 x0 (some x7_93) none none) (@hid _ ⟨fun t86_117 =>
       TakeS Tryd.prog S115 (Instr.fieldAt 39 t9_82 1) (@hid _ ⟨fun t88_118 =>
       TakeS Tryd.prog S115 (Instr.loadAt 2 t88_118) (@hid _ ⟨fun t89_119 =>
       (BuiltinK Tryd.prog Go.Builtin.append #[26, 26] 26 #[false, false] #[t82_113, t86_117] (@hid _ ⟨fun t87_120 w121 =>
       S115 w121 ∧
       R (.tuple #[t87_120, t89_119, (Go.Value.int Go.IntKind.i64 0)]) w121⟩) w116) ∧
       True⟩)⟩)⟩)⟩) w114⟩) w112⟩) w110⟩) w94⟩)⟩) w89⟩) w87⟩) w85⟩) w83⟩) w81⟩) w79⟩)⟩) w77⟩) w75⟩) w73⟩) w71⟩) w69⟩) w67⟩) w65⟩) w63⟩) w61⟩) w59⟩) w57⟩) w55⟩) w53⟩) w51⟩) w49⟩) w47⟩) w45⟩) w43⟩) w41⟩) w39⟩) w37⟩) w35⟩) w33⟩) w31⟩) w27⟩)⟩) w25⟩) w23⟩) w21⟩) w19⟩) w17⟩) w15⟩) w13⟩) w11⟩) w9⟩) w6⟩)⟩)⟩) w2⟩) w0
def a9 : Ann := (.seq .no (.seq (.seq .no (.cond (.seq .no .no) .no)) (.seq .no (.seq (.block (.loop [7] [(15, 29)] (.seq (.seq .no (.cond .no .no)) (.block .no)))) (.seq .no (.seq (.seq .no (.cond (.seq .no .no) .no)) (.seq .no (.seq .no (.cut [7] [(69, 78)] (.seq .no (.cond (.seq .no .no) .no)) (.seq .no (.seq (.plan (.take 0 (.take 1 (.take 2 (.take 3 (.take 5 (.take 6 (.alt 4 (.take 7 (.take 8 (.take 9 .done))) .nil)))))))) .no)))))))))))
theorem F9_eq (x0 x1 : Value) (R : Value → World → Prop) (w0 : World) : F9 x0 x1 R w0 = vc Tryd.prog (bodyOf Tryd.f9) a9 (retQ Tryd.prog Tryd.f9 R) (envOf 0 [x0, x1]) w0 := by kernel_rfl
theorem F9_calls (x0 x1 : Value) (R : Value → World → Prop) (w0 : World) (h : F9 x0 x1 R w0) : CallK Tryd.prog 9 #[x0, x1] R w0 :=
  calls_vc (c := bodyOf Tryd.f9) Tryd.func9 (by kernel_rfl) (by kernel_rfl) a9 (by kernel_rfl) (by kernel_rfl) [x0, x1] (by rw [Tryd.ntmps9]; exact Nat.le_of_ble_eq_true rfl) w0 R ((F9_eq x0 x1 R w0).mp h)

/-- (*canton/lives.Lives).Begin, its body as a formula. -/
def F10 (x0 x1 : Value) (R : Value → World → Prop) (w0 : World) : Prop :=
  CallV Tryd.prog (.func (.func 20) #[] #[]) #[x1] (@hid _ ⟨fun t9_1 w2 =>
  BinK Tryd.prog Go.BinOp.lss 3 t9_1 (Go.Value.int Go.IntKind.i64 1) (@hid _ ⟨fun t10_3 w4 =>
  BrK t10_3 (@hid _ ⟨
   R (.tuple #[(Go.Value.int Go.IntKind.i64 0), (Go.Value.int Go.IntKind.i64 5)]) w4⟩) (@hid _ ⟨
   NilK Tryd.prog x0 (@hid _ ⟨fun t13_5 w6 =>
   FieldAtK Tryd.prog 52 t13_5 0 (@hid _ ⟨fun t14_7 w8 =>
   LoadK Tryd.prog 49 t14_7 (@hid _ ⟨fun t15_9 w10 =>
   CallV Tryd.prog (.func (.func 21) #[] #[]) #[t15_9, x1] (@hid _ ⟨fun t17_11 w12 =>
   ExtractK Tryd.prog t17_11 0 (@hid _ ⟨fun t18_13 w14 =>
   ExtractK Tryd.prog t17_11 1 (@hid _ ⟨fun t19_15 w16 =>
   UnK Tryd.prog Go.UnOp.not t19_15 (@hid _ ⟨fun t21_17 w18 =>
   GuardK t21_17 true (fun k w => k x0 w) (@hid _ ⟨fun t23_19 w20 =>
   GuardK t21_17 true (fun k w => NilK Tryd.prog t23_19 k w) (@hid _ ⟨fun t24_21 w22 =>
   GuardK t21_17 true (fun k w => FieldAtK Tryd.prog 52 t24_21 0 k w) (@hid _ ⟨fun t25_23 w24 =>
   GuardK t21_17 true (fun k w => LoadK Tryd.prog 49 t25_23 k w) (@hid _ ⟨fun t26_25 w26 =>
   GuardK t21_17 true (fun k w => CallV Tryd.prog (.func (.func 22) #[] #[]) #[t26_25] k w) (@hid _ ⟨fun t27_27 w28 =>
   GuardK t21_17 true (fun k w => BinK Tryd.prog Go.BinOp.geq 3 t27_27 (Go.Value.int Go.IntKind.i64 256) k w) (@hid _ ⟨fun t28_29 w30 =>
   PickK Tryd.prog t21_17 t28_29 (Go.Value.bool false) (@hid _ ⟨fun t29_31 w32 =>
   GuardK t29_31 false (fun k w => k t18_13 w) (@hid _ ⟨fun t31_33 w34 =>
   GuardK t29_31 false (fun k w => BinK Tryd.prog Go.BinOp.geq 2 t31_33 (Go.Value.int Go.IntKind.i64 1000000000) k w) (@hid _ ⟨fun t32_35 w36 =>
   PickK Tryd.prog t29_31 (Go.Value.bool true) t32_35 (@hid _ ⟨fun t33_37 w38 =>
   BrK t33_37 (@hid _ ⟨
    R (.tuple #[(Go.Value.int Go.IntKind.i64 0), (Go.Value.int Go.IntKind.i64 9)]) w38⟩) (@hid _ ⟨
    NilK Tryd.prog x0 (@hid _ ⟨fun t35_39 w40 =>
    FieldAtK Tryd.prog 52 t35_39 0 (@hid _ ⟨fun t36_41 w42 =>
    LoadK Tryd.prog 49 t36_41 (@hid _ ⟨fun t37_43 w44 =>
    BinK Tryd.prog Go.BinOp.add 2 t18_13 (Go.Value.int Go.IntKind.i64 1) (@hid _ ⟨fun t40_45 w46 =>
    CallV Tryd.prog (.func (.func 23) #[] #[]) #[t37_43, x1, t40_45] (@hid _ ⟨fun t41_47 w48 =>
    BinK Tryd.prog Go.BinOp.add 2 t18_13 (Go.Value.int Go.IntKind.i64 1) (@hid _ ⟨fun t43_49 w50 =>
    R (.tuple #[t43_49, (Go.Value.int Go.IntKind.i64 0)]) w50⟩) w48⟩) w46⟩) w44⟩) w42⟩) w40⟩) w38⟩)⟩) w36⟩) w34⟩) w32⟩) w30⟩) w28⟩) w26⟩) w24⟩) w22⟩) w20⟩) w18⟩) w16⟩) w14⟩) w12⟩) w10⟩) w8⟩) w6⟩) w4⟩)⟩) w2⟩) w0
def a10 : Ann := (.seq .no (.seq (.seq .no (.cond (.seq .no .no) .no)) (.seq .no (.seq (.seq .no (.cond (.seq .no .no) .no)) (.seq .no (.seq .no .no))))))
theorem F10_eq (x0 x1 : Value) (R : Value → World → Prop) (w0 : World) : F10 x0 x1 R w0 = vc Tryd.prog (bodyOf Tryd.f10) a10 (retQ Tryd.prog Tryd.f10 R) (envOf 0 [x0, x1]) w0 := by kernel_rfl
theorem F10_calls (x0 x1 : Value) (R : Value → World → Prop) (w0 : World) (h : F10 x0 x1 R w0) : CallK Tryd.prog 10 #[x0, x1] R w0 :=
  calls_vc (c := bodyOf Tryd.f10) Tryd.func10 (by kernel_rfl) (by kernel_rfl) a10 (by kernel_rfl) (by kernel_rfl) [x0, x1] (by rw [Tryd.ntmps10]; exact Nat.le_of_ble_eq_true rfl) w0 R ((F10_eq x0 x1 R w0).mp h)

/-- (*canton/lives.Lives).Bytes, its body as a formula. -/
def F11 (x0 : Value) (R : Value → World → Prop) (w0 : World) : Prop :=
  BuildK Tryd.prog 60 #[] (@hid _ ⟨fun t8_1 w2 =>
  BoxK Tryd.prog 60 t8_1 (@hid _ ⟨fun t9_3 w4 =>
  NilK Tryd.prog x0 (@hid _ ⟨fun t12_5 w6 =>
  FieldAtK Tryd.prog 52 t12_5 0 (@hid _ ⟨fun t13_7 w8 =>
  LoadK Tryd.prog 49 t13_7 (@hid _ ⟨fun t14_9 w10 =>
  CallV Tryd.prog (.func (.func 22) #[] #[]) #[t14_9] (@hid _ ⟨fun t15_11 w12 =>
  BuildSliceK Tryd.prog 92 1 #[(0, t15_11)] (@hid _ ⟨fun t16_13 w14 =>
  CallV Tryd.prog (.func (.func 24) #[] #[]) #[t9_3, t16_13] (@hid _ ⟨fun t17_15 w16 =>
  NilK Tryd.prog x0 (@hid _ ⟨fun t19_17 w18 =>
  FieldAtK Tryd.prog 52 t19_17 0 (@hid _ ⟨fun t20_19 w20 =>
  LoadK Tryd.prog 49 t20_19 (@hid _ ⟨fun t21_21 w22 =>
  CallV Tryd.prog (.func (.func 22) #[] #[]) #[t21_21] (@hid _ ⟨fun t22_23 w24 =>
  LoopK1 (Go.Value.int Go.IntKind.i64 0) w24 (@hid _ ⟨fun _ x23_25 w26 B27 =>
   BinK Tryd.prog Go.BinOp.lss 3 x23_25 t22_23 (@hid _ ⟨fun t24_28 w29 =>
   BrK t24_28 (@hid _ ⟨
    NilK Tryd.prog x0 (@hid _ ⟨fun t28_30 w31 =>
    FieldAtK Tryd.prog 52 t28_30 0 (@hid _ ⟨fun t29_32 w33 =>
    LoadK Tryd.prog 49 t29_32 (@hid _ ⟨fun t30_34 w35 =>
    CallV Tryd.prog (.func (.func 25) #[] #[]) #[t30_34, x23_25] (@hid _ ⟨fun t32_36 w37 =>
    ExtractK Tryd.prog t32_36 0 (@hid _ ⟨fun t33_38 w39 =>
    ExtractK Tryd.prog t32_36 1 (@hid _ ⟨fun t34_40 w41 =>
    ExtractK Tryd.prog t32_36 2 (@hid _ ⟨fun t35_42 w43 =>
    BuildSliceK Tryd.prog 22 1 #[(0, t33_38)] (@hid _ ⟨fun t38_44 w45 =>
    CallV Tryd.prog (.func (.func 26) #[] #[]) #[t9_3, t38_44] (@hid _ ⟨fun t39_46 w47 =>
    BuildSliceK Tryd.prog 92 1 #[(0, t34_40)] (@hid _ ⟨fun t42_48 w49 =>
    CallV Tryd.prog (.func (.func 24) #[] #[]) #[t9_3, t42_48] (@hid _ ⟨fun t43_50 w51 =>
    BinK Tryd.prog Go.BinOp.add 3 x23_25 (Go.Value.int Go.IntKind.i64 1) (@hid _ ⟨fun t44_52 w53 =>
    B27 t44_52 w53⟩) w51⟩) w49⟩) w47⟩) w45⟩) w43⟩) w41⟩) w39⟩) w37⟩) w35⟩) w33⟩) w31⟩) w29⟩) (@hid _ ⟨
    CallV Tryd.prog (.func (.func 28) #[] #[]) #[t9_3] (@hid _ ⟨fun t46_54 w55 =>
    CallV Tryd.prog (.func (.func 27) #[] #[]) #[t46_54] (@hid _ ⟨fun t47_56 w57 =>
    R t47_56 w57⟩) w55⟩) w29⟩)⟩) w26⟩)⟩) w22⟩) w20⟩) w18⟩) w16⟩) w14⟩) w12⟩) w10⟩) w8⟩) w6⟩) w4⟩) w2⟩) w0
def a11 : Ann := (.seq .no (.seq .no (.seq .no (.seq (.seq .no (.block (.loop [23] [(4, 7), (24, 44)] (.seq .no (.seq (.cond .no .no) (.seq (.block (.seq .no (.seq .no (.seq .no .no)))) .no)))))) (.seq .no .no)))))
theorem F11_eq (x0 : Value) (R : Value → World → Prop) (w0 : World) : F11 x0 R w0 = vc Tryd.prog (bodyOf Tryd.f11) a11 (retQ Tryd.prog Tryd.f11 R) (envOf 0 [x0]) w0 := by kernel_rfl
theorem F11_calls (x0 : Value) (R : Value → World → Prop) (w0 : World) (h : F11 x0 R w0) : CallK Tryd.prog 11 #[x0] R w0 :=
  calls_vc (c := bodyOf Tryd.f11) Tryd.func11 (by kernel_rfl) (by kernel_rfl) a11 (by kernel_rfl) (by kernel_rfl) [x0] (by rw [Tryd.ntmps11]; exact Nat.le_of_ble_eq_true rfl) w0 R ((F11_eq x0 R w0).mp h)

/-- canton/cantonref24.LivesBytes, its body as a formula. -/
def F12 (x0 : Value) (R : Value → World → Prop) (w0 : World) : Prop :=
  BuiltinK Tryd.prog Go.Builtin.len #[26] 3 #[false] #[x0] (@hid _ ⟨fun t6_1 w2 =>
  CallV Tryd.prog (.func (.func 29) #[] #[]) #[t6_1] (@hid _ ⟨fun t7_3 w4 =>
  LoopK2 t7_3 (Go.Value.int Go.IntKind.i64 0) w4 (@hid _ ⟨fun _ x3_5 x4_6 w7 B8 =>
   BuiltinK Tryd.prog Go.Builtin.len #[26] 3 #[false] #[x0] (@hid _ ⟨fun t10_9 w10 =>
   BinK Tryd.prog Go.BinOp.lss 3 x4_6 t10_9 (@hid _ ⟨fun t11_11 w12 =>
   BrK t11_11 (@hid _ ⟨
    IndexAtK Tryd.prog 26 x0 x4_6 (@hid _ ⟨fun t17_13 w14 =>
    FieldAtK Tryd.prog 39 t17_13 0 (@hid _ ⟨fun t18_15 w16 =>
    LoadK Tryd.prog 9 t18_15 (@hid _ ⟨fun t19_17 w18 =>
    CallV Tryd.prog (.func (.func 30) #[] #[]) #[t19_17] (@hid _ ⟨fun t20_19 w20 =>
    BuiltinK Tryd.prog Go.Builtin.append #[32, 32] 32 #[false, false] #[x3_5, t20_19] (@hid _ ⟨fun t21_21 w22 =>
    IndexAtK Tryd.prog 26 x0 x4_6 (@hid _ ⟨fun t25_23 w24 =>
    FieldAtK Tryd.prog 39 t25_23 1 (@hid _ ⟨fun t26_25 w26 =>
    LoadK Tryd.prog 2 t26_25 (@hid _ ⟨fun t27_27 w28 =>
    CallV Tryd.prog (.func (.func 29) #[] #[]) #[t27_27] (@hid _ ⟨fun t28_29 w30 =>
    BuiltinK Tryd.prog Go.Builtin.append #[32, 32] 32 #[false, false] #[t21_21, t28_29] (@hid _ ⟨fun t29_31 w32 =>
    BinK Tryd.prog Go.BinOp.add 3 x4_6 (Go.Value.int Go.IntKind.i64 1) (@hid _ ⟨fun t13_33 w34 =>
    B8 t29_31 t13_33 w34⟩) w32⟩) w30⟩) w28⟩) w26⟩) w24⟩) w22⟩) w20⟩) w18⟩) w16⟩) w14⟩) w12⟩) (@hid _ ⟨
    CallV Tryd.prog (.func (.func 16) #[] #[]) #[x3_5] (@hid _ ⟨fun t31_35 w36 =>
    R t31_35 w36⟩) w12⟩)⟩) w10⟩) w7⟩)⟩) w2⟩) w0
def a12 : Ann := (.seq .no (.seq .no (.seq (.seq .no (.block (.loop [3, 4] [(8, 29)] (.seq (.seq .no (.cond .no .no)) (.seq (.block (.seq .no .no)) .no))))) (.seq .no .no))))
theorem F12_eq (x0 : Value) (R : Value → World → Prop) (w0 : World) : F12 x0 R w0 = vc Tryd.prog (bodyOf Tryd.f12) a12 (retQ Tryd.prog Tryd.f12 R) (envOf 0 [x0]) w0 := by kernel_rfl
theorem F12_calls (x0 : Value) (R : Value → World → Prop) (w0 : World) (h : F12 x0 R w0) : CallK Tryd.prog 12 #[x0] R w0 :=
  calls_vc (c := bodyOf Tryd.f12) Tryd.func12 (by kernel_rfl) (by kernel_rfl) a12 (by kernel_rfl) (by kernel_rfl) [x0] (by rw [Tryd.ntmps12]; exact Nat.le_of_ble_eq_true rfl) w0 R ((F12_eq x0 R w0).mp h)

/-- canton/lives.Load, its body as a formula. -/
def F13 (x0 : Value) (R : Value → World → Prop) (w0 : World) : Prop :=
  CallV Tryd.prog (.func (.func 31) #[] #[]) #[x0] (@hid _ ⟨fun t10_1 w2 =>
  ExtractK Tryd.prog t10_1 0 (@hid _ ⟨fun t11_3 w4 =>
  ExtractK Tryd.prog t10_1 1 (@hid _ ⟨fun t12_5 w6 =>
  BinK Tryd.prog Go.BinOp.neq 29 t12_5 (Go.Value.int Go.IntKind.i64 0) (@hid _ ⟨fun t14_7 w8 =>
  BrK t14_7 (@hid _ ⟨
   R (.tuple #[(Go.Value.pointer none), t12_5]) w8⟩) (@hid _ ⟨
   CallV Tryd.prog (.func (.func 8) #[] #[]) #[] (@hid _ ⟨fun t16_9 w10 =>
   CallV Tryd.prog (.func (.func 33) #[] #[]) #[t11_3] (@hid _ ⟨fun t19_11 w12 =>
   CallV Tryd.prog (.func (.func 32) #[] #[]) #[t16_9, t19_11] (@hid _ ⟨fun t20_13 w14 =>
   BinK Tryd.prog Go.BinOp.neq 29 t20_13 (Go.Value.int Go.IntKind.i64 0) (@hid _ ⟨fun t22_15 w16 =>
   BrK t22_15 (@hid _ ⟨
    R (.tuple #[(Go.Value.pointer none), t20_13]) w16⟩) (@hid _ ⟨
    R (.tuple #[t16_9, (Go.Value.int Go.IntKind.i64 0)]) w16⟩)⟩) w14⟩) w12⟩) w10⟩) w8⟩)⟩) w6⟩) w4⟩) w2⟩) w0
def a13 : Ann := (.seq .no (.seq .no (.seq (.seq .no (.cond (.seq .no .no) .no)) (.seq .no (.seq (.seq .no (.seq .no (.cond (.seq .no .no) .no))) (.seq .no .no))))))
theorem F13_eq (x0 : Value) (R : Value → World → Prop) (w0 : World) : F13 x0 R w0 = vc Tryd.prog (bodyOf Tryd.f13) a13 (retQ Tryd.prog Tryd.f13 R) (envOf 0 [x0]) w0 := by kernel_rfl
theorem F13_calls (x0 : Value) (R : Value → World → Prop) (w0 : World) (h : F13 x0 R w0) : CallK Tryd.prog 13 #[x0] R w0 :=
  calls_vc (c := bodyOf Tryd.f13) Tryd.func13 (by kernel_rfl) (by kernel_rfl) a13 (by kernel_rfl) (by kernel_rfl) [x0] (by rw [Tryd.ntmps13]; exact Nat.le_of_ble_eq_true rfl) w0 R ((F13_eq x0 R w0).mp h)

/-- (*canton/lives.Lives).Of, its body as a formula. -/
def F14 (x0 x1 : Value) (R : Value → World → Prop) (w0 : World) : Prop :=
  NilK Tryd.prog x0 (@hid _ ⟨fun t9_1 w2 =>
  FieldAtK Tryd.prog 52 t9_1 0 (@hid _ ⟨fun t10_3 w4 =>
  LoadK Tryd.prog 49 t10_3 (@hid _ ⟨fun t11_5 w6 =>
  CallV Tryd.prog (.func (.func 21) #[] #[]) #[t11_5, x1] (@hid _ ⟨fun t13_7 w8 =>
  ExtractK Tryd.prog t13_7 0 (@hid _ ⟨fun t14_9 w10 =>
  ExtractK Tryd.prog t13_7 1 (@hid _ ⟨fun t15_11 w12 =>
  R t14_9 w12⟩) w10⟩) w8⟩) w6⟩) w4⟩) w2⟩) w0
def a14 : Ann := (.seq .no (.seq .no (.seq .no .no)))
theorem F14_eq (x0 x1 : Value) (R : Value → World → Prop) (w0 : World) : F14 x0 x1 R w0 = vc Tryd.prog (bodyOf Tryd.f14) a14 (retQ Tryd.prog Tryd.f14 R) (envOf 0 [x0, x1]) w0 := by kernel_rfl
theorem F14_calls (x0 x1 : Value) (R : Value → World → Prop) (w0 : World) (h : F14 x0 x1 R w0) : CallK Tryd.prog 14 #[x0, x1] R w0 :=
  calls_vc (c := bodyOf Tryd.f14) Tryd.func14 (by kernel_rfl) (by kernel_rfl) a14 (by kernel_rfl) (by kernel_rfl) [x0, x1] (by rw [Tryd.ntmps14]; exact Nat.le_of_ble_eq_true rfl) w0 R ((F14_eq x0 x1 R w0).mp h)

/-- canton/cantonref24.Of, its body as a formula. -/
def F15 (x0 x1 : Value) (R : Value → World → Prop) (w0 : World) : Prop :=
  LoopK1 (Go.Value.int Go.IntKind.i64 0) w0 (@hid _ ⟨fun _ x5_1 w2 B3 =>
   BuiltinK Tryd.prog Go.Builtin.len #[26] 3 #[false] #[x0] (@hid _ ⟨fun t8_4 w5 =>
   BinK Tryd.prog Go.BinOp.lss 3 x5_1 t8_4 (@hid _ ⟨fun t9_6 w7 =>
   BrK t9_6 (@hid _ ⟨
    IndexAtK Tryd.prog 26 x0 x5_1 (@hid _ ⟨fun t14_8 w9 =>
    FieldAtK Tryd.prog 39 t14_8 0 (@hid _ ⟨fun t15_10 w11 =>
    LoadK Tryd.prog 9 t15_10 (@hid _ ⟨fun t16_12 w13 =>
    BinK Tryd.prog Go.BinOp.eql 9 t16_12 x1 (@hid _ ⟨fun t18_14 w15 =>
    BrK t18_14 (@hid _ ⟨
     IndexAtK Tryd.prog 26 x0 x5_1 (@hid _ ⟨fun t21_16 w17 =>
     FieldAtK Tryd.prog 39 t21_16 1 (@hid _ ⟨fun t22_18 w19 =>
     LoadK Tryd.prog 2 t22_18 (@hid _ ⟨fun t23_20 w21 =>
     R t23_20 w21⟩) w19⟩) w17⟩) w15⟩) (@hid _ ⟨
     BinK Tryd.prog Go.BinOp.add 3 x5_1 (Go.Value.int Go.IntKind.i64 1) (@hid _ ⟨fun t11_22 w23 =>
     B3 t11_22 w23⟩) w15⟩)⟩) w13⟩) w11⟩) w9⟩) w7⟩) (@hid _ ⟨
    R (Go.Value.int Go.IntKind.i64 0) w7⟩)⟩) w5⟩) w2⟩)
def a15 : Ann := (.seq .no (.seq (.seq .no (.block (.loop [5] [(4, 4), (6, 23)] (.seq (.seq .no (.cond .no .no)) (.seq (.block (.seq .no (.cond (.seq .no .no) .no))) .no))))) (.seq .no .no)))
theorem F15_eq (x0 x1 : Value) (R : Value → World → Prop) (w0 : World) : F15 x0 x1 R w0 = vc Tryd.prog (bodyOf Tryd.f15) a15 (retQ Tryd.prog Tryd.f15 R) (envOf 0 [x0, x1]) w0 := by kernel_rfl
theorem F15_calls (x0 x1 : Value) (R : Value → World → Prop) (w0 : World) (h : F15 x0 x1 R w0) : CallK Tryd.prog 15 #[x0, x1] R w0 :=
  calls_vc (c := bodyOf Tryd.f15) Tryd.func15 (by kernel_rfl) (by kernel_rfl) a15 (by kernel_rfl) (by kernel_rfl) [x0, x1] (by rw [Tryd.ntmps15]; exact Nat.le_of_ble_eq_true rfl) w0 R ((F15_eq x0 x1 R w0).mp h)

/-- canton/cantonref7.Seal, its body as a formula. -/
def F16 (x0 : Value) (R : Value → World → Prop) (w0 : World) : Prop :=
  CallV Tryd.prog (.func (.func 34) #[] #[]) #[x0] (@hid _ ⟨fun t5_1 w2 =>
  BuildSliceK Tryd.prog 32 0 #[] (@hid _ ⟨fun t6_3 w4 =>
  BuiltinK Tryd.prog Go.Builtin.append #[32, 32] 32 #[false, false] #[t6_3, x0] (@hid _ ⟨fun t8_5 w6 =>
  ConvK Tryd.prog 72 5 t5_1 (@hid _ ⟨fun t10_7 w8 =>
  BinK Tryd.prog Go.BinOp.shr 72 t5_1 (Go.Value.int Go.IntKind.u64 8) (@hid _ ⟨fun t12_9 w10 =>
  ConvK Tryd.prog 72 5 t12_9 (@hid _ ⟨fun t13_11 w12 =>
  BinK Tryd.prog Go.BinOp.shr 72 t5_1 (Go.Value.int Go.IntKind.u64 16) (@hid _ ⟨fun t15_13 w14 =>
  ConvK Tryd.prog 72 5 t15_13 (@hid _ ⟨fun t16_15 w16 =>
  BinK Tryd.prog Go.BinOp.shr 72 t5_1 (Go.Value.int Go.IntKind.u64 24) (@hid _ ⟨fun t18_17 w18 =>
  ConvK Tryd.prog 72 5 t18_17 (@hid _ ⟨fun t19_19 w20 =>
  BuildSliceK Tryd.prog 32 4 #[(0, t10_7), (1, t13_11), (2, t16_15), (3, t19_19)] (@hid _ ⟨fun t20_21 w22 =>
  BuiltinK Tryd.prog Go.Builtin.append #[32, 32] 32 #[false, false] #[t8_5, t20_21] (@hid _ ⟨fun t21_23 w24 =>
  R t21_23 w24⟩) w22⟩) w20⟩) w18⟩) w16⟩) w14⟩) w12⟩) w10⟩) w8⟩) w6⟩) w4⟩) w2⟩) w0
def a16 : Ann := (.seq .no (.seq .no (.seq .no .no)))
theorem F16_eq (x0 : Value) (R : Value → World → Prop) (w0 : World) : F16 x0 R w0 = vc Tryd.prog (bodyOf Tryd.f16) a16 (retQ Tryd.prog Tryd.f16 R) (envOf 0 [x0]) w0 := by kernel_rfl
theorem F16_calls (x0 : Value) (R : Value → World → Prop) (w0 : World) (h : F16 x0 R w0) : CallK Tryd.prog 16 #[x0] R w0 :=
  calls_vc (c := bodyOf Tryd.f16) Tryd.func16 (by kernel_rfl) (by kernel_rfl) a16 (by kernel_rfl) (by kernel_rfl) [x0] (by rw [Tryd.ntmps16]; exact Nat.le_of_ble_eq_true rfl) w0 R ((F16_eq x0 R w0).mp h)

/-- canton/cantonref24.LoadLives, its body as a formula. -/
def F17 (x0 : Value) (R : Value → World → Prop) (w0 : World) : Prop :=
  CallV Tryd.prog (.func (.func 35) #[] #[]) #[x0] (@hid _ ⟨fun t14_1 w2 =>
  ExtractK Tryd.prog t14_1 0 (@hid _ ⟨fun t15_3 w4 =>
  ExtractK Tryd.prog t14_1 1 (@hid _ ⟨fun t16_5 w6 =>
  BinK Tryd.prog Go.BinOp.neq 3 t16_5 (Go.Value.int Go.IntKind.i64 0) (@hid _ ⟨fun t18_7 w8 =>
  BrK t18_7 (@hid _ ⟨
   R (.tuple #[(Go.Value.slice none 0 0), t16_5]) w8⟩) (@hid _ ⟨
   BuildK Tryd.prog 79 #[(0, t15_3)] (@hid _ ⟨fun t21_9 w10 =>
   BoxK Tryd.prog 79 t21_9 (@hid _ ⟨fun t22_11 w12 =>
   CallV Tryd.prog (.func (.func 36) #[] #[]) #[t22_11] (@hid _ ⟨fun t24_13 w14 =>
   NilK Tryd.prog t22_11 (@hid _ ⟨fun t26_15 w16 =>
   FieldAtK Tryd.prog 79 t26_15 2 (@hid _ ⟨fun t27_17 w18 =>
   LoadK Tryd.prog 3 t27_17 (@hid _ ⟨fun t28_19 w20 =>
   BinK Tryd.prog Go.BinOp.eql 3 t28_19 (Go.Value.int Go.IntKind.i64 0) (@hid _ ⟨fun t29_21 w22 =>
   GuardK t29_21 true (fun k w => k t24_13 w) (@hid _ ⟨fun t31_23 w24 =>
   GuardK t29_21 true (fun k w => BinK Tryd.prog Go.BinOp.lss 2 t31_23 (Go.Value.int Go.IntKind.i64 0) k w) (@hid _ ⟨fun t32_25 w26 =>
   PickK Tryd.prog t29_21 t32_25 (Go.Value.bool false) (@hid _ ⟨fun t33_27 w28 =>
   BrK t33_27 (@hid _ ⟨
    R (.tuple #[(Go.Value.slice none 0 0), (Go.Value.int Go.IntKind.i64 2)]) w28⟩) (@hid _ ⟨
    NilK Tryd.prog t22_11 (@hid _ ⟨fun t35_29 w30 =>
    FieldAtK Tryd.prog 79 t35_29 2 (@hid _ ⟨fun t36_31 w32 =>
    LoadK Tryd.prog 3 t36_31 (@hid _ ⟨fun t37_33 w34 =>
    BinK Tryd.prog Go.BinOp.eql 3 t37_33 (Go.Value.int Go.IntKind.i64 0) (@hid _ ⟨fun t38_35 w36 =>
    GuardK t38_35 true (fun k w => k t24_13 w) (@hid _ ⟨fun t40_37 w38 =>
    GuardK t38_35 true (fun k w => BinK Tryd.prog Go.BinOp.gtr 2 t40_37 (Go.Value.int Go.IntKind.i64 256) k w) (@hid _ ⟨fun t41_39 w40 =>
    PickK Tryd.prog t38_35 t41_39 (Go.Value.bool false) (@hid _ ⟨fun t42_41 w42 =>
    BrK t42_41 (@hid _ ⟨
     R (.tuple #[(Go.Value.slice none 0 0), (Go.Value.int Go.IntKind.i64 4)]) w42⟩) (@hid _ ⟨
     LoopK2 (Go.Value.slice none 0 0) (Go.Value.int Go.IntKind.i64 0) w42 (@hid _ ⟨fun _ x8_43 x9_44 w45 B46 =>
      BinK Tryd.prog Go.BinOp.lss 2 x9_44 t24_13 (@hid _ ⟨fun t45_47 w48 =>
      BrK t45_47 (@hid _ ⟨
       CallV Tryd.prog (.func (.func 37) #[] #[]) #[t22_11] (@hid _ ⟨fun t49_49 w50 =>
       BuildK Tryd.prog 39 #[(0, t49_49)] (@hid _ ⟨fun t50_51 w52 =>
       AllocK Tryd.prog 39 (@hid _ ⟨fun t10_53 w54 =>
       StoreK Tryd.prog 39 t10_53 t50_51 (@hid _ ⟨fun tu_55 w56 =>
       CallV Tryd.prog (.func (.func 36) #[] #[]) #[t22_11] (@hid _ ⟨fun t52_57 w58 =>
       FieldAtK Tryd.prog 39 t10_53 1 (@hid _ ⟨fun t53_59 w60 =>
       StoreK Tryd.prog 2 t53_59 t52_57 (@hid _ ⟨fun tu_61 w62 =>
       LoadK Tryd.prog 39 t10_53 (@hid _ ⟨fun t55_63 w64 =>
       BuildSliceK Tryd.prog 26 1 #[(0, t55_63)] (@hid _ ⟨fun t56_65 w66 =>
       BuiltinK Tryd.prog Go.Builtin.append #[26, 26] 26 #[false, false] #[x8_43, t56_65] (@hid _ ⟨fun t57_67 w68 =>
       BinK Tryd.prog Go.BinOp.add 2 x9_44 (Go.Value.int Go.IntKind.i64 1) (@hid _ ⟨fun t47_69 w70 =>
       B46 t57_67 t47_69 w70⟩) w68⟩) w66⟩) w64⟩) w62⟩) w60⟩) w58⟩) w56⟩) w54⟩) w52⟩) w50⟩) w48⟩) (@hid _ ⟨
       NilK Tryd.prog t22_11 (@hid _ ⟨fun t60_71 w72 =>
       FieldAtK Tryd.prog 79 t60_71 2 (@hid _ ⟨fun t61_73 w74 =>
       LoadK Tryd.prog 3 t61_73 (@hid _ ⟨fun t62_75 w76 =>
       BinK Tryd.prog Go.BinOp.neq 3 t62_75 (Go.Value.int Go.IntKind.i64 0) (@hid _ ⟨fun t63_77 w78 =>
       BrK t63_77 (@hid _ ⟨
        DrawK (@hid _ ⟨fun S79 w80 =>
        TakeO Tryd.prog S79 (nilSem t22_11) (@hid _ ⟨fun t65_81 =>
        TakeS Tryd.prog S79 (Instr.fieldAt 79 t65_81 2) (@hid _ ⟨fun t66_82 =>
        TakeS Tryd.prog S79 (Instr.loadAt 3 t66_82) (@hid _ ⟨fun t67_83 =>
        R (.tuple #[(Go.Value.slice none 0 0), t67_83]) w80⟩)⟩)⟩)⟩) w78⟩) (@hid _ ⟨
        CallV Tryd.prog (.func (.func 38) #[] #[]) #[t22_11] (@hid _ ⟨fun t70_84 w85 =>
        BinK Tryd.prog Go.BinOp.gtr 3 t70_84 (Go.Value.int Go.IntKind.i64 0) (@hid _ ⟨fun t71_86 w87 =>
        BrK t71_86 (@hid _ ⟨
         R (.tuple #[(Go.Value.slice none 0 0), (Go.Value.int Go.IntKind.i64 2)]) w87⟩) (@hid _ ⟨
         LoopK1 (Go.Value.int Go.IntKind.i64 0) w87 (@hid _ ⟨fun _ x11_88 w89 B90 =>
          BuiltinK Tryd.prog Go.Builtin.len #[26] 3 #[false] #[x8_43] (@hid _ ⟨fun t74_91 w92 =>
          BinK Tryd.prog Go.BinOp.lss 3 x11_88 t74_91 (@hid _ ⟨fun t75_93 w94 =>
          BrK t75_93 (@hid _ ⟨
           DrawK (@hid _ ⟨fun S95 w96 =>
           TakeS Tryd.prog S95 (Instr.indexAt 26 x8_43 x11_88) (@hid _ ⟨fun t80_97 =>
           TakeS Tryd.prog S95 (Instr.fieldAt 39 t80_97 0) (@hid _ ⟨fun t81_98 =>
           TakeS Tryd.prog S95 (Instr.loadAt 9 t81_98) (@hid _ ⟨fun t82_99 =>
           (CallV Tryd.prog (.func (.func 18) #[] #[]) #[t82_99] (@hid _ ⟨fun t83_100 w101 =>
           S95 w101 ∧
           TakeS Tryd.prog S95 (Op.unary Go.UnOp.not t83_100) (@hid _ ⟨fun t84_102 =>
           TakeG t84_102 false (fun k => k x11_88) (@hid _ ⟨fun t86_103 =>
           TakeG t84_102 false (fun k => BinT Tryd.prog S95 Go.BinOp.gtr 3 t86_103 (Go.Value.int Go.IntKind.i64 0) k) (@hid _ ⟨fun t87_104 =>
           TakeG t84_102 false (fun k => k t87_104) (@hid _ ⟨fun t88_105 =>
           TakeG t88_105 true (fun k => k x8_43) (@hid _ ⟨fun t89_106 =>
           TakeG t88_105 true (fun k => k x11_88) (@hid _ ⟨fun t90_107 =>
           TakeG t88_105 true (fun k => BinT Tryd.prog S95 Go.BinOp.sub 3 t90_107 (Go.Value.int Go.IntKind.i64 1) k) (@hid _ ⟨fun t91_108 =>
           TakeG t88_105 true (fun k => TakeS Tryd.prog S95 (Instr.indexAt 26 t89_106 t91_108) k) (@hid _ ⟨fun t92_109 =>
           TakeG t88_105 true (fun k => TakeS Tryd.prog S95 (Instr.fieldAt 39 t92_109 0) k) (@hid _ ⟨fun t93_110 =>
           TakeG t88_105 true (fun k => TakeS Tryd.prog S95 (Instr.loadAt 9 t93_110) k) (@hid _ ⟨fun t94_111 =>
           TakeG t88_105 true (fun k => k x8_43) (@hid _ ⟨fun t95_112 =>
           TakeG t88_105 true (fun k => k x11_88) (@hid _ ⟨fun t96_113 =>
           TakeG t88_105 true (fun k => TakeS Tryd.prog S95 (Instr.indexAt 26 t95_112 t96_113) k) (@hid _ ⟨fun t97_114 =>
           TakeG t88_105 true (fun k => TakeS Tryd.prog S95 (Instr.fieldAt 39 t97_114 0) k) (@hid _ ⟨fun t98_115 =>
           TakeG t88_105 true (fun k => TakeS Tryd.prog S95 (Instr.loadAt 9 t98_115) k) (@hid _ ⟨fun t99_116 =>
           TakeG t88_105 true (fun k => BinT Tryd.prog S95 Go.BinOp.geq 9 t94_111 t99_116 k) (@hid _ ⟨fun t100_117 =>
           TakeG t84_102 false (fun k => PickT t88_105 t100_117 (Go.Value.bool false) k) (@hid _ ⟨fun t101_118 =>
           PickT t84_102 (Go.Value.bool true) t101_118 (@hid _ ⟨fun t102_119 =>
           BrK t102_119 (@hid _ ⟨
            R (.tuple #[(Go.Value.slice none 0 0), (Go.Value.int Go.IntKind.i64 2)]) w101⟩) (@hid _ ⟨
            IndexAtK Tryd.prog 26 x8_43 x11_88 (@hid _ ⟨fun t105_120 w121 =>
            FieldAtK Tryd.prog 39 t105_120 1 (@hid _ ⟨fun t106_122 w123 =>
            LoadK Tryd.prog 2 t106_122 (@hid _ ⟨fun t107_124 w125 =>
            BinK Tryd.prog Go.BinOp.lss 2 t107_124 (Go.Value.int Go.IntKind.i64 1) (@hid _ ⟨fun t108_126 w127 =>
            GuardK t108_126 false (fun k w => k x8_43 w) (@hid _ ⟨fun t110_128 w129 =>
            GuardK t108_126 false (fun k w => k x11_88 w) (@hid _ ⟨fun t111_130 w131 =>
            GuardK t108_126 false (fun k w => IndexAtK Tryd.prog 26 t110_128 t111_130 k w) (@hid _ ⟨fun t112_132 w133 =>
            GuardK t108_126 false (fun k w => FieldAtK Tryd.prog 39 t112_132 1 k w) (@hid _ ⟨fun t113_134 w135 =>
            GuardK t108_126 false (fun k w => LoadK Tryd.prog 2 t113_134 k w) (@hid _ ⟨fun t114_136 w137 =>
            GuardK t108_126 false (fun k w => BinK Tryd.prog Go.BinOp.gtr 2 t114_136 (Go.Value.int Go.IntKind.i64 1000000000) k w) (@hid _ ⟨fun t115_138 w139 =>
            PickK Tryd.prog t108_126 (Go.Value.bool true) t115_138 (@hid _ ⟨fun t116_140 w141 =>
            BrK t116_140 (@hid _ ⟨
             R (.tuple #[(Go.Value.slice none 0 0), (Go.Value.int Go.IntKind.i64 1)]) w141⟩) (@hid _ ⟨
             BinK Tryd.prog Go.BinOp.add 3 x11_88 (Go.Value.int Go.IntKind.i64 1) (@hid _ ⟨fun t77_142 w143 =>
             B90 t77_142 w143⟩) w141⟩)⟩) w139⟩) w137⟩) w135⟩) w133⟩) w131⟩) w129⟩) w127⟩) w125⟩) w123⟩) w121⟩) w101⟩)⟩)⟩)⟩)⟩)⟩)⟩)⟩)⟩)⟩)⟩)⟩)⟩)⟩)⟩)⟩)⟩)⟩)⟩)⟩) w96) ∧
           True⟩)⟩)⟩)⟩) w94⟩) (@hid _ ⟨
           R (.tuple #[x8_43, (Go.Value.int Go.IntKind.i64 0)]) w94⟩)⟩) w92⟩) w89⟩)⟩)⟩) w85⟩) w78⟩)⟩) w76⟩) w74⟩) w72⟩) w48⟩)⟩) w45⟩)⟩)⟩) w40⟩) w38⟩) w36⟩) w34⟩) w32⟩) w30⟩) w28⟩)⟩) w26⟩) w24⟩) w22⟩) w20⟩) w18⟩) w16⟩) w14⟩) w12⟩) w10⟩) w8⟩)⟩) w6⟩) w4⟩) w2⟩) w0
def a17 : Ann := (.seq .no (.seq .no (.seq (.seq .no (.cond (.seq .no .no) .no)) (.seq .no (.seq .no (.seq (.seq .no (.cond (.seq .no .no) .no)) (.seq (.seq .no (.cond (.seq .no .no) .no)) (.seq .no (.seq (.seq .no (.block (.loop [8, 9] [(10, 10), (43, 57)] (.seq (.seq .no (.cond .no .no)) (.seq (.block (.seq .no (.seq .no .no))) .no))))) (.seq (.block (.seq .no (.cond (.seq (.plan (.take 0 (.take 1 (.take 2 (.take 3 (.take 4 (.take 5 .done))))))) .no) (.seq .no (.cond (.seq .no .no) .no))))) (.seq (.seq .no (.block (.loop [11] [(2, 3), (72, 116)] (.seq (.seq .no (.cond .no .no)) (.seq (.block (.seq (.seq (.plan (.take 0 (.take 1 (.take 2 (.take 3 (.take 4 (.alt 5 (.take 6 (.take 7 (.take 8 (.take 9 (.take 10 (.take 11 (.take 12 (.take 13 (.take 14 (.take 15 (.take 16 (.take 17 (.take 18 (.take 19 (.take 20 (.take 21 (.take 22 (.take 23 (.take 24 .done))))))))))))))))))) .nil))))))) (.cond (.seq .no .no) .no)) (.seq .no (.cond (.seq .no .no) .no)))) .no))))) (.seq .no .no))))))))))))
theorem F17_eq (x0 : Value) (R : Value → World → Prop) (w0 : World) : F17 x0 R w0 = vc Tryd.prog (bodyOf Tryd.f17) a17 (retQ Tryd.prog Tryd.f17 R) (envOf 0 [x0]) w0 := by kernel_rfl
theorem F17_calls (x0 : Value) (R : Value → World → Prop) (w0 : World) (h : F17 x0 R w0) : CallK Tryd.prog 17 #[x0] R w0 :=
  calls_vc (c := bodyOf Tryd.f17) Tryd.func17 (by kernel_rfl) (by kernel_rfl) a17 (by kernel_rfl) (by kernel_rfl) [x0] (by rw [Tryd.ntmps17]; exact Nat.le_of_ble_eq_true rfl) w0 R ((F17_eq x0 R w0).mp h)

/-- canton/cantonref7.Node, its body as a formula. -/
def F18 (x0 : Value) (R : Value → World → Prop) (w0 : World) : Prop :=
  CallV Tryd.prog (.func (.func 39) #[] #[]) #[x0] (@hid _ ⟨fun t4_1 w2 =>
  GuardK t4_1 true (fun k w => k x0 w) (@hid _ ⟨fun t6_3 w4 =>
  GuardK t4_1 true (fun k w => BinK Tryd.prog Go.BinOp.neq 9 t6_3 (Go.Value.string { data := #[47] }) k w) (@hid _ ⟨fun t7_5 w6 =>
  PickK Tryd.prog t4_1 t7_5 (Go.Value.bool false) (@hid _ ⟨fun t8_7 w8 =>
  R t8_7 w8⟩) w6⟩) w4⟩) w2⟩) w0
def a18 : Ann := (.seq .no (.seq .no .no))
theorem F18_eq (x0 : Value) (R : Value → World → Prop) (w0 : World) : F18 x0 R w0 = vc Tryd.prog (bodyOf Tryd.f18) a18 (retQ Tryd.prog Tryd.f18 R) (envOf 0 [x0]) w0 := by kernel_rfl
theorem F18_calls (x0 : Value) (R : Value → World → Prop) (w0 : World) (h : F18 x0 R w0) : CallK Tryd.prog 18 #[x0] R w0 :=
  calls_vc (c := bodyOf Tryd.f18) Tryd.func18 (by kernel_rfl) (by kernel_rfl) a18 (by kernel_rfl) (by kernel_rfl) [x0] (by rw [Tryd.ntmps18]; exact Nat.le_of_ble_eq_true rfl) w0 R ((F18_eq x0 R w0).mp h)

/-- canton/sorted.New[string,int64], its body as a formula. -/
def F19 (R : Value → World → Prop) (w0 : World) : Prop :=
  BuildK Tryd.prog 84 #[] (@hid _ ⟨fun t1_1 w2 =>
  BoxK Tryd.prog 84 t1_1 (@hid _ ⟨fun t2_3 w4 =>
  R t2_3 w4⟩) w2⟩) w0
def a19 : Ann := (.seq .no (.seq .no .no))
theorem F19_eq (R : Value → World → Prop) (w0 : World) : F19  R w0 = vc Tryd.prog (bodyOf Tryd.f19) a19 (retQ Tryd.prog Tryd.f19 R) (envOf 0 []) w0 := by kernel_rfl
theorem F19_calls (R : Value → World → Prop) (w0 : World) (h : F19  R w0) : CallK Tryd.prog 19 #[] R w0 :=
  calls_vc (c := bodyOf Tryd.f19) Tryd.func19 (by kernel_rfl) (by kernel_rfl) a19 (by kernel_rfl) (by kernel_rfl) [] (by rw [Tryd.ntmps19]; exact Nat.le_of_ble_eq_true rfl) w0 R ((F19_eq  R w0).mp h)

/-- canton/path.Depth, its body as a formula. -/
def F20 (x0 : Value) (R : Value → World → Prop) (w0 : World) : Prop :=
  CallV Tryd.prog (.func (.func 40) #[] #[]) #[x0] (@hid _ ⟨fun t7_1 w2 =>
  ExtractK Tryd.prog t7_1 0 (@hid _ ⟨fun t8_3 w4 =>
  ExtractK Tryd.prog t7_1 1 (@hid _ ⟨fun t9_5 w6 =>
  BinK Tryd.prog Go.BinOp.neq 29 t9_5 (Go.Value.int Go.IntKind.i64 0) (@hid _ ⟨fun t11_7 w8 =>
  BrK t11_7 (@hid _ ⟨
   R (Go.Value.int Go.IntKind.i64 (-1)) w8⟩) (@hid _ ⟨
   BuiltinK Tryd.prog Go.Builtin.len #[22] 3 #[false] #[t8_3] (@hid _ ⟨fun t13_9 w10 =>
   R t13_9 w10⟩) w8⟩)⟩) w6⟩) w4⟩) w2⟩) w0
def a20 : Ann := (.seq .no (.seq .no (.seq (.seq .no (.cond (.seq .no .no) .no)) (.seq .no .no))))
theorem F20_eq (x0 : Value) (R : Value → World → Prop) (w0 : World) : F20 x0 R w0 = vc Tryd.prog (bodyOf Tryd.f20) a20 (retQ Tryd.prog Tryd.f20 R) (envOf 0 [x0]) w0 := by kernel_rfl
theorem F20_calls (x0 : Value) (R : Value → World → Prop) (w0 : World) (h : F20 x0 R w0) : CallK Tryd.prog 20 #[x0] R w0 :=
  calls_vc (c := bodyOf Tryd.f20) Tryd.func20 (by kernel_rfl) (by kernel_rfl) a20 (by kernel_rfl) (by kernel_rfl) [x0] (by rw [Tryd.ntmps20]; exact Nat.le_of_ble_eq_true rfl) w0 R ((F20_eq x0 R w0).mp h)

/-- (*canton/sorted.Map[string, int64]).Get, its body as a formula. -/
def F21 (x0 x1 : Value) (R : Value → World → Prop) (w0 : World) : Prop :=
  CallV Tryd.prog (.func (.func 41) #[] #[]) #[x0, x1] (@hid _ ⟨fun t12_1 w2 =>
  ExtractK Tryd.prog t12_1 0 (@hid _ ⟨fun t13_3 w4 =>
  ExtractK Tryd.prog t12_1 1 (@hid _ ⟨fun t14_5 w6 =>
  UnK Tryd.prog Go.UnOp.not t14_5 (@hid _ ⟨fun t16_7 w8 =>
  BrK t16_7 (@hid _ ⟨
   R (.tuple #[(Go.Value.int Go.IntKind.i64 0), (Go.Value.bool false)]) w8⟩) (@hid _ ⟨
   NilK Tryd.prog x0 (@hid _ ⟨fun t19_9 w10 =>
   FieldAtK Tryd.prog 84 t19_9 0 (@hid _ ⟨fun t20_11 w12 =>
   LoadK Tryd.prog 82 t20_11 (@hid _ ⟨fun t21_13 w14 =>
   IndexAtK Tryd.prog 82 t21_13 t13_3 (@hid _ ⟨fun t23_15 w16 =>
   FieldAtK Tryd.prog 90 t23_15 1 (@hid _ ⟨fun t24_17 w18 =>
   LoadK Tryd.prog 2 t24_17 (@hid _ ⟨fun t25_19 w20 =>
   R (.tuple #[t25_19, (Go.Value.bool true)]) w20⟩) w18⟩) w16⟩) w14⟩) w12⟩) w10⟩) w8⟩)⟩) w6⟩) w4⟩) w2⟩) w0
def a21 : Ann := (.seq .no (.seq .no (.seq (.seq .no (.cond (.seq .no (.seq .no .no)) .no)) (.seq .no .no))))
theorem F21_eq (x0 x1 : Value) (R : Value → World → Prop) (w0 : World) : F21 x0 x1 R w0 = vc Tryd.prog (bodyOf Tryd.f21) a21 (retQ Tryd.prog Tryd.f21 R) (envOf 0 [x0, x1]) w0 := by kernel_rfl
theorem F21_calls (x0 x1 : Value) (R : Value → World → Prop) (w0 : World) (h : F21 x0 x1 R w0) : CallK Tryd.prog 21 #[x0, x1] R w0 :=
  calls_vc (c := bodyOf Tryd.f21) Tryd.func21 (by kernel_rfl) (by kernel_rfl) a21 (by kernel_rfl) (by kernel_rfl) [x0, x1] (by rw [Tryd.ntmps21]; exact Nat.le_of_ble_eq_true rfl) w0 R ((F21_eq x0 x1 R w0).mp h)

/-- (*canton/sorted.Map[string, int64]).Len, its body as a formula. -/
def F22 (x0 : Value) (R : Value → World → Prop) (w0 : World) : Prop :=
  NilK Tryd.prog x0 (@hid _ ⟨fun t4_1 w2 =>
  FieldAtK Tryd.prog 84 t4_1 0 (@hid _ ⟨fun t5_3 w4 =>
  LoadK Tryd.prog 82 t5_3 (@hid _ ⟨fun t6_5 w6 =>
  BuiltinK Tryd.prog Go.Builtin.len #[82] 3 #[false] #[t6_5] (@hid _ ⟨fun t7_7 w8 =>
  R t7_7 w8⟩) w6⟩) w4⟩) w2⟩) w0
def a22 : Ann := (.seq .no (.seq .no .no))
theorem F22_eq (x0 : Value) (R : Value → World → Prop) (w0 : World) : F22 x0 R w0 = vc Tryd.prog (bodyOf Tryd.f22) a22 (retQ Tryd.prog Tryd.f22 R) (envOf 0 [x0]) w0 := by kernel_rfl
theorem F22_calls (x0 : Value) (R : Value → World → Prop) (w0 : World) (h : F22 x0 R w0) : CallK Tryd.prog 22 #[x0] R w0 :=
  calls_vc (c := bodyOf Tryd.f22) Tryd.func22 (by kernel_rfl) (by kernel_rfl) a22 (by kernel_rfl) (by kernel_rfl) [x0] (by rw [Tryd.ntmps22]; exact Nat.le_of_ble_eq_true rfl) w0 R ((F22_eq x0 R w0).mp h)

/-- (*canton/sorted.Map[string, int64]).Put, its body as a formula. -/
def F23 (x0 x1 x2 : Value) (R : Value → World → Prop) (w0 : World) : Prop :=
  CallV Tryd.prog (.func (.func 41) #[] #[]) #[x0, x1] (@hid _ ⟨fun t12_1 w2 =>
  ExtractK Tryd.prog t12_1 0 (@hid _ ⟨fun t13_3 w4 =>
  ExtractK Tryd.prog t12_1 1 (@hid _ ⟨fun t14_5 w6 =>
  BrK t14_5 (@hid _ ⟨
   NilK Tryd.prog x0 (@hid _ ⟨fun t17_7 w8 =>
   FieldAtK Tryd.prog 84 t17_7 0 (@hid _ ⟨fun t18_9 w10 =>
   LoadK Tryd.prog 82 t18_9 (@hid _ ⟨fun t19_11 w12 =>
   IndexAtK Tryd.prog 82 t19_11 t13_3 (@hid _ ⟨fun t22_13 w14 =>
   FieldAtK Tryd.prog 90 t22_13 1 (@hid _ ⟨fun t23_15 w16 =>
   StoreK Tryd.prog 2 t23_15 x2 (@hid _ ⟨fun tu_17 w18 =>
   R (Go.Value.bool false) w18⟩) w16⟩) w14⟩) w12⟩) w10⟩) w8⟩) w6⟩) (@hid _ ⟨
   NilK Tryd.prog x0 (@hid _ ⟨fun t26_19 w20 =>
   FieldAtK Tryd.prog 84 t26_19 0 (@hid _ ⟨fun t27_21 w22 =>
   LoadK Tryd.prog 82 t27_21 (@hid _ ⟨fun t28_23 w24 =>
   BuildK Tryd.prog 90 #[(0, x1), (1, x2)] (@hid _ ⟨fun t32_25 w26 =>
   BuildSliceK Tryd.prog 82 1 #[(0, t32_25)] (@hid _ ⟨fun t33_27 w28 =>
   CallV Tryd.prog (.func (.func 42) #[] #[]) #[t28_23, t13_3, t33_27] (@hid _ ⟨fun t34_29 w30 =>
   NilK Tryd.prog x0 (@hid _ ⟨fun t35_31 w32 =>
   FieldAtK Tryd.prog 84 t35_31 0 (@hid _ ⟨fun t36_33 w34 =>
   StoreK Tryd.prog 82 t36_33 t34_29 (@hid _ ⟨fun tu_35 w36 =>
   R (Go.Value.bool true) w36⟩) w34⟩) w32⟩) w30⟩) w28⟩) w26⟩) w24⟩) w22⟩) w20⟩) w6⟩)⟩) w4⟩) w2⟩) w0
def a23 : Ann := (.seq .no (.seq .no (.seq (.seq .no (.cond (.seq .no (.seq .no .no)) .no)) (.seq .no (.seq .no .no)))))
theorem F23_eq (x0 x1 x2 : Value) (R : Value → World → Prop) (w0 : World) : F23 x0 x1 x2 R w0 = vc Tryd.prog (bodyOf Tryd.f23) a23 (retQ Tryd.prog Tryd.f23 R) (envOf 0 [x0, x1, x2]) w0 := by kernel_rfl
theorem F23_calls (x0 x1 x2 : Value) (R : Value → World → Prop) (w0 : World) (h : F23 x0 x1 x2 R w0) : CallK Tryd.prog 23 #[x0, x1, x2] R w0 :=
  calls_vc (c := bodyOf Tryd.f23) Tryd.func23 (by kernel_rfl) (by kernel_rfl) a23 (by kernel_rfl) (by kernel_rfl) [x0, x1, x2] (by rw [Tryd.ntmps23]; exact Nat.le_of_ble_eq_true rfl) w0 R ((F23_eq x0 x1 x2 R w0).mp h)

/-- (*canton/codec.Enc).Int, its body as a formula. -/
def F24 (x0 x1 : Value) (R : Value → World → Prop) (w0 : World) : Prop :=
  BuiltinK Tryd.prog Go.Builtin.len #[92] 3 #[false] #[x1] (@hid _ ⟨fun t8_1 w2 =>
  LoopK1 (Go.Value.int Go.IntKind.i64 0) w2 (@hid _ ⟨fun _ x9_3 w4 B5 =>
   BinK Tryd.prog Go.BinOp.lss 3 x9_3 t8_1 (@hid _ ⟨fun t10_6 w7 =>
   BrK t10_6 (@hid _ ⟨
    IndexAtK Tryd.prog 92 x1 x9_3 (@hid _ ⟨fun t11_8 w9 =>
    LoadK Tryd.prog 2 t11_8 (@hid _ ⟨fun t12_10 w11 =>
    ConvK Tryd.prog 2 93 t12_10 (@hid _ ⟨fun t14_12 w13 =>
    BinK Tryd.prog Go.BinOp.shl 93 t14_12 (Go.Value.int Go.IntKind.u64 1) (@hid _ ⟨fun t15_14 w15 =>
    BinK Tryd.prog Go.BinOp.shr 2 t12_10 (Go.Value.int Go.IntKind.u64 63) (@hid _ ⟨fun t17_16 w17 =>
    ConvK Tryd.prog 2 93 t17_16 (@hid _ ⟨fun t18_18 w19 =>
    BinK Tryd.prog Go.BinOp.xor 93 t15_14 t18_18 (@hid _ ⟨fun t19_20 w21 =>
    LoopK1 t19_20 w21 (@hid _ ⟨fun _ x6_22 w23 B24 =>
     BinK Tryd.prog Go.BinOp.geq 93 x6_22 (Go.Value.int Go.IntKind.u64 128) (@hid _ ⟨fun t21_25 w26 =>
     BrK t21_25 (@hid _ ⟨
      NilK Tryd.prog x0 (@hid _ ⟨fun t24_27 w28 =>
      FieldAtK Tryd.prog 60 t24_27 0 (@hid _ ⟨fun t25_29 w30 =>
      LoadK Tryd.prog 32 t25_29 (@hid _ ⟨fun t26_31 w32 =>
      ConvK Tryd.prog 93 5 x6_22 (@hid _ ⟨fun t28_33 w34 =>
      BinK Tryd.prog Go.BinOp.or 5 t28_33 (Go.Value.int Go.IntKind.u8 128) (@hid _ ⟨fun t29_35 w36 =>
      BuildSliceK Tryd.prog 32 1 #[(0, t29_35)] (@hid _ ⟨fun t30_37 w38 =>
      BuiltinK Tryd.prog Go.Builtin.append #[32, 32] 32 #[false, false] #[t26_31, t30_37] (@hid _ ⟨fun t31_39 w40 =>
      NilK Tryd.prog x0 (@hid _ ⟨fun t32_41 w42 =>
      FieldAtK Tryd.prog 60 t32_41 0 (@hid _ ⟨fun t33_43 w44 =>
      StoreK Tryd.prog 32 t33_43 t31_39 (@hid _ ⟨fun tu_45 w46 =>
      BinK Tryd.prog Go.BinOp.shr 93 x6_22 (Go.Value.int Go.IntKind.u64 7) (@hid _ ⟨fun t35_47 w48 =>
      B24 t35_47 w48⟩) w46⟩) w44⟩) w42⟩) w40⟩) w38⟩) w36⟩) w34⟩) w32⟩) w30⟩) w28⟩) w26⟩) (@hid _ ⟨
      NilK Tryd.prog x0 (@hid _ ⟨fun t38_49 w50 =>
      FieldAtK Tryd.prog 60 t38_49 0 (@hid _ ⟨fun t39_51 w52 =>
      LoadK Tryd.prog 32 t39_51 (@hid _ ⟨fun t40_53 w54 =>
      ConvK Tryd.prog 93 5 x6_22 (@hid _ ⟨fun t42_55 w56 =>
      BuildSliceK Tryd.prog 32 1 #[(0, t42_55)] (@hid _ ⟨fun t43_57 w58 =>
      BuiltinK Tryd.prog Go.Builtin.append #[32, 32] 32 #[false, false] #[t40_53, t43_57] (@hid _ ⟨fun t44_59 w60 =>
      NilK Tryd.prog x0 (@hid _ ⟨fun t45_61 w62 =>
      FieldAtK Tryd.prog 60 t45_61 0 (@hid _ ⟨fun t46_63 w64 =>
      StoreK Tryd.prog 32 t46_63 t44_59 (@hid _ ⟨fun tu_65 w66 =>
      BinK Tryd.prog Go.BinOp.add 3 x9_3 (Go.Value.int Go.IntKind.i64 1) (@hid _ ⟨fun t47_67 w68 =>
      B5 t47_67 w68⟩) w66⟩) w64⟩) w62⟩) w60⟩) w58⟩) w56⟩) w54⟩) w52⟩) w50⟩) w26⟩)⟩) w23⟩)⟩) w19⟩) w17⟩) w15⟩) w13⟩) w11⟩) w9⟩) w7⟩) (@hid _ ⟨
    R (.tuple #[]) w7⟩)⟩) w4⟩)⟩) w0
def a24 : Ann := (.seq .no (.block (.loop [9] [(5, 6), (10, 47)] (.seq .no (.seq (.cond .no .no) (.seq (.block (.seq .no (.seq .no (.seq (.block (.loop [6] [(20, 35)] (.seq (.seq .no (.cond .no .no)) (.block (.seq .no .no))))) .no)))) .no))))))
theorem F24_eq (x0 x1 : Value) (R : Value → World → Prop) (w0 : World) : F24 x0 x1 R w0 = vc Tryd.prog (bodyOf Tryd.f24) a24 (retQ Tryd.prog Tryd.f24 R) (envOf 0 [x0, x1]) w0 := by kernel_rfl
theorem F24_calls (x0 x1 : Value) (R : Value → World → Prop) (w0 : World) (h : F24 x0 x1 R w0) : CallK Tryd.prog 24 #[x0, x1] R w0 :=
  calls_vc (c := bodyOf Tryd.f24) Tryd.func24 (by kernel_rfl) (by kernel_rfl) a24 (by kernel_rfl) (by kernel_rfl) [x0, x1] (by rw [Tryd.ntmps24]; exact Nat.le_of_ble_eq_true rfl) w0 R ((F24_eq x0 x1 R w0).mp h)

/-- (*canton/sorted.Map[string, int64]).At, its body as a formula. -/
def F25 (x0 x1 : Value) (R : Value → World → Prop) (w0 : World) : Prop :=
  BinK Tryd.prog Go.BinOp.lss 3 x1 (Go.Value.int Go.IntKind.i64 0) (@hid _ ⟨fun t9_1 w2 =>
  GuardK t9_1 false (fun k w => k x1 w) (@hid _ ⟨fun t11_3 w4 =>
  GuardK t9_1 false (fun k w => k x0 w) (@hid _ ⟨fun t12_5 w6 =>
  GuardK t9_1 false (fun k w => NilK Tryd.prog t12_5 k w) (@hid _ ⟨fun t13_7 w8 =>
  GuardK t9_1 false (fun k w => FieldAtK Tryd.prog 84 t13_7 0 k w) (@hid _ ⟨fun t14_9 w10 =>
  GuardK t9_1 false (fun k w => LoadK Tryd.prog 82 t14_9 k w) (@hid _ ⟨fun t15_11 w12 =>
  GuardK t9_1 false (fun k w => BuiltinK Tryd.prog Go.Builtin.len #[82] 3 #[false] #[t15_11] k w) (@hid _ ⟨fun t16_13 w14 =>
  GuardK t9_1 false (fun k w => BinK Tryd.prog Go.BinOp.geq 3 t11_3 t16_13 k w) (@hid _ ⟨fun t17_15 w16 =>
  PickK Tryd.prog t9_1 (Go.Value.bool true) t17_15 (@hid _ ⟨fun t18_17 w18 =>
  BrK t18_17 (@hid _ ⟨
   AllocK Tryd.prog 90 (@hid _ ⟨fun t7_19 w20 =>
   DrawK (@hid _ ⟨fun S21 w22 =>
   TakeS Tryd.prog S21 (Instr.fieldAt 90 t7_19 0) (@hid _ ⟨fun t19_23 =>
   TakeS Tryd.prog S21 (Instr.loadAt 9 t19_23) (@hid _ ⟨fun t20_24 =>
   TakeS Tryd.prog S21 (Instr.fieldAt 90 t7_19 1) (@hid _ ⟨fun t21_25 =>
   TakeS Tryd.prog S21 (Instr.loadAt 2 t21_25) (@hid _ ⟨fun t22_26 =>
   R (.tuple #[t20_24, t22_26, (Go.Value.bool false)]) w22⟩)⟩)⟩)⟩)⟩) w20⟩) w18⟩) (@hid _ ⟨
   DrawK (@hid _ ⟨fun S27 w28 =>
   TakeO Tryd.prog S27 (nilSem x0) (@hid _ ⟨fun t24_29 =>
   TakeS Tryd.prog S27 (Instr.fieldAt 84 t24_29 0) (@hid _ ⟨fun t25_30 =>
   TakeS Tryd.prog S27 (Instr.loadAt 82 t25_30) (@hid _ ⟨fun t26_31 =>
   TakeS Tryd.prog S27 (Instr.indexAt 82 t26_31 x1) (@hid _ ⟨fun t28_32 =>
   TakeS Tryd.prog S27 (Instr.fieldAt 90 t28_32 0) (@hid _ ⟨fun t29_33 =>
   TakeS Tryd.prog S27 (Instr.loadAt 9 t29_33) (@hid _ ⟨fun t30_34 =>
   TakeO Tryd.prog S27 (nilSem x0) (@hid _ ⟨fun t32_35 =>
   TakeS Tryd.prog S27 (Instr.fieldAt 84 t32_35 0) (@hid _ ⟨fun t33_36 =>
   TakeS Tryd.prog S27 (Instr.loadAt 82 t33_36) (@hid _ ⟨fun t34_37 =>
   TakeS Tryd.prog S27 (Instr.indexAt 82 t34_37 x1) (@hid _ ⟨fun t36_38 =>
   TakeS Tryd.prog S27 (Instr.fieldAt 90 t36_38 1) (@hid _ ⟨fun t37_39 =>
   TakeS Tryd.prog S27 (Instr.loadAt 2 t37_39) (@hid _ ⟨fun t38_40 =>
   R (.tuple #[t30_34, t38_40, (Go.Value.bool true)]) w28⟩)⟩)⟩)⟩)⟩)⟩)⟩)⟩)⟩)⟩)⟩)⟩)⟩) w18⟩)⟩) w16⟩) w14⟩) w12⟩) w10⟩) w8⟩) w6⟩) w4⟩) w2⟩) w0
def a25 : Ann := (.seq .no (.seq (.seq .no (.cond (.seq .no (.seq (.plan (.take 0 (.take 1 (.take 2 (.take 3 (.take 4 (.take 5 (.take 6 .done)))))))) .no)) .no)) (.seq (.plan (.take 0 (.take 1 (.take 2 (.take 3 (.take 4 (.take 5 (.take 6 (.take 7 (.take 8 (.take 9 (.take 10 (.take 11 (.take 12 (.take 13 (.take 14 (.take 15 (.take 16 (.take 17 (.take 18 .done)))))))))))))))))))) .no)))
theorem F25_eq (x0 x1 : Value) (R : Value → World → Prop) (w0 : World) : F25 x0 x1 R w0 = vc Tryd.prog (bodyOf Tryd.f25) a25 (retQ Tryd.prog Tryd.f25 R) (envOf 0 [x0, x1]) w0 := by kernel_rfl
theorem F25_calls (x0 x1 : Value) (R : Value → World → Prop) (w0 : World) (h : F25 x0 x1 R w0) : CallK Tryd.prog 25 #[x0, x1] R w0 :=
  calls_vc (c := bodyOf Tryd.f25) Tryd.func25 (by kernel_rfl) (by kernel_rfl) a25 (by kernel_rfl) (by kernel_rfl) [x0, x1] (by rw [Tryd.ntmps25]; exact Nat.le_of_ble_eq_true rfl) w0 R ((F25_eq x0 x1 R w0).mp h)

/-- (*canton/codec.Enc).Text, its body as a formula. -/
def F26 (x0 x1 : Value) (R : Value → World → Prop) (w0 : World) : Prop :=
  BuiltinK Tryd.prog Go.Builtin.len #[22] 3 #[false] #[x1] (@hid _ ⟨fun t7_1 w2 =>
  LoopK1 (Go.Value.int Go.IntKind.i64 0) w2 (@hid _ ⟨fun _ x8_3 w4 B5 =>
   BinK Tryd.prog Go.BinOp.lss 3 x8_3 t7_1 (@hid _ ⟨fun t9_6 w7 =>
   BrK t9_6 (@hid _ ⟨
    IndexAtK Tryd.prog 22 x1 x8_3 (@hid _ ⟨fun t10_8 w9 =>
    LoadK Tryd.prog 9 t10_8 (@hid _ ⟨fun t11_10 w11 =>
    BuiltinK Tryd.prog Go.Builtin.len #[9] 3 #[false] #[t11_10] (@hid _ ⟨fun t14_12 w13 =>
    BuildSliceK Tryd.prog 92 1 #[(0, t14_12)] (@hid _ ⟨fun t15_14 w15 =>
    CallV Tryd.prog (.func (.func 24) #[] #[]) #[x0, t15_14] (@hid _ ⟨fun t16_16 w17 =>
    NilK Tryd.prog x0 (@hid _ ⟨fun t19_18 w19 =>
    FieldAtK Tryd.prog 60 t19_18 0 (@hid _ ⟨fun t20_20 w21 =>
    LoadK Tryd.prog 32 t20_20 (@hid _ ⟨fun t21_22 w23 =>
    BuiltinK Tryd.prog Go.Builtin.append #[32, 9] 32 #[false, false] #[t21_22, t11_10] (@hid _ ⟨fun t23_24 w25 =>
    NilK Tryd.prog x0 (@hid _ ⟨fun t24_26 w27 =>
    FieldAtK Tryd.prog 60 t24_26 0 (@hid _ ⟨fun t25_28 w29 =>
    StoreK Tryd.prog 32 t25_28 t23_24 (@hid _ ⟨fun tu_30 w31 =>
    BinK Tryd.prog Go.BinOp.add 3 x8_3 (Go.Value.int Go.IntKind.i64 1) (@hid _ ⟨fun t26_32 w33 =>
    B5 t26_32 w33⟩) w31⟩) w29⟩) w27⟩) w25⟩) w23⟩) w21⟩) w19⟩) w17⟩) w15⟩) w13⟩) w11⟩) w9⟩) w7⟩) (@hid _ ⟨
    R (.tuple #[]) w7⟩)⟩) w4⟩)⟩) w0
def a26 : Ann := (.seq .no (.block (.loop [8] [(5, 5), (9, 26)] (.seq .no (.seq (.cond .no .no) (.seq (.block (.seq .no (.seq .no .no))) .no))))))
theorem F26_eq (x0 x1 : Value) (R : Value → World → Prop) (w0 : World) : F26 x0 x1 R w0 = vc Tryd.prog (bodyOf Tryd.f26) a26 (retQ Tryd.prog Tryd.f26 R) (envOf 0 [x0, x1]) w0 := by kernel_rfl
theorem F26_calls (x0 x1 : Value) (R : Value → World → Prop) (w0 : World) (h : F26 x0 x1 R w0) : CallK Tryd.prog 26 #[x0, x1] R w0 :=
  calls_vc (c := bodyOf Tryd.f26) Tryd.func26 (by kernel_rfl) (by kernel_rfl) a26 (by kernel_rfl) (by kernel_rfl) [x0, x1] (by rw [Tryd.ntmps26]; exact Nat.le_of_ble_eq_true rfl) w0 R ((F26_eq x0 x1 R w0).mp h)

/-- canton/codec.Seal, its body as a formula. -/
def F27 (x0 : Value) (R : Value → World → Prop) (w0 : World) : Prop :=
  CallV Tryd.prog (.func (.func 43) #[] #[]) #[x0] (@hid _ ⟨fun t7_1 w2 =>
  CallV Tryd.prog (.func (.func 44) #[] #[]) #[x0] (@hid _ ⟨fun t9_3 w4 =>
  LoopK2 t7_1 (Go.Value.int Go.IntKind.i64 0) w4 (@hid _ ⟨fun _ x3_5 x10_6 w7 B8 =>
   BinK Tryd.prog Go.BinOp.lss 3 x10_6 (Go.Value.int Go.IntKind.i64 4) (@hid _ ⟨fun t11_9 w10 =>
   BrK t11_9 (@hid _ ⟨
    BinK Tryd.prog Go.BinOp.mul 3 (Go.Value.int Go.IntKind.i64 8) x10_6 (@hid _ ⟨fun t16_11 w12 =>
    BinK Tryd.prog Go.BinOp.shr 72 t9_3 t16_11 (@hid _ ⟨fun t17_13 w14 =>
    ConvK Tryd.prog 72 5 t17_13 (@hid _ ⟨fun t18_15 w16 =>
    BuildSliceK Tryd.prog 32 1 #[(0, t18_15)] (@hid _ ⟨fun t19_17 w18 =>
    BuiltinK Tryd.prog Go.Builtin.append #[32, 32] 32 #[false, false] #[x3_5, t19_17] (@hid _ ⟨fun t20_19 w20 =>
    BinK Tryd.prog Go.BinOp.add 3 x10_6 (Go.Value.int Go.IntKind.i64 1) (@hid _ ⟨fun t21_21 w22 =>
    B8 t20_19 t21_21 w22⟩) w20⟩) w18⟩) w16⟩) w14⟩) w12⟩) w10⟩) (@hid _ ⟨
    CallV Tryd.prog (.func (.func 45) #[] #[]) #[x3_5] (@hid _ ⟨fun t23_23 w24 =>
    R t23_23 w24⟩) w10⟩)⟩) w7⟩)⟩) w2⟩) w0
def a27 : Ann := (.seq .no (.seq .no (.seq (.seq .no (.block (.loop [3, 10] [(5, 5), (11, 21)] (.seq .no (.seq (.cond .no .no) (.seq (.block (.seq .no .no)) .no)))))) (.seq .no .no))))
theorem F27_eq (x0 : Value) (R : Value → World → Prop) (w0 : World) : F27 x0 R w0 = vc Tryd.prog (bodyOf Tryd.f27) a27 (retQ Tryd.prog Tryd.f27 R) (envOf 0 [x0]) w0 := by kernel_rfl
theorem F27_calls (x0 : Value) (R : Value → World → Prop) (w0 : World) (h : F27 x0 R w0) : CallK Tryd.prog 27 #[x0] R w0 :=
  calls_vc (c := bodyOf Tryd.f27) Tryd.func27 (by kernel_rfl) (by kernel_rfl) a27 (by kernel_rfl) (by kernel_rfl) [x0] (by rw [Tryd.ntmps27]; exact Nat.le_of_ble_eq_true rfl) w0 R ((F27_eq x0 R w0).mp h)

/-- (*canton/codec.Enc).Bytes, its body as a formula. -/
def F28 (x0 : Value) (R : Value → World → Prop) (w0 : World) : Prop :=
  NilK Tryd.prog x0 (@hid _ ⟨fun t4_1 w2 =>
  FieldAtK Tryd.prog 60 t4_1 0 (@hid _ ⟨fun t5_3 w4 =>
  LoadK Tryd.prog 32 t5_3 (@hid _ ⟨fun t6_5 w6 =>
  CallV Tryd.prog (.func (.func 43) #[] #[]) #[t6_5] (@hid _ ⟨fun t7_7 w8 =>
  CallV Tryd.prog (.func (.func 45) #[] #[]) #[t7_7] (@hid _ ⟨fun t8_9 w10 =>
  R t8_9 w10⟩) w8⟩) w6⟩) w4⟩) w2⟩) w0
def a28 : Ann := (.seq .no (.seq .no .no))
theorem F28_eq (x0 : Value) (R : Value → World → Prop) (w0 : World) : F28 x0 R w0 = vc Tryd.prog (bodyOf Tryd.f28) a28 (retQ Tryd.prog Tryd.f28 R) (envOf 0 [x0]) w0 := by kernel_rfl
theorem F28_calls (x0 : Value) (R : Value → World → Prop) (w0 : World) (h : F28 x0 R w0) : CallK Tryd.prog 28 #[x0] R w0 :=
  calls_vc (c := bodyOf Tryd.f28) Tryd.func28 (by kernel_rfl) (by kernel_rfl) a28 (by kernel_rfl) (by kernel_rfl) [x0] (by rw [Tryd.ntmps28]; exact Nat.le_of_ble_eq_true rfl) w0 R ((F28_eq x0 R w0).mp h)

/-- canton/cantonref7.PutInt, its body as a formula. -/
def F29 (x0 : Value) (R : Value → World → Prop) (w0 : World) : Prop :=
  ConvK Tryd.prog 2 93 x0 (@hid _ ⟨fun t6_1 w2 =>
  BinK Tryd.prog Go.BinOp.shl 93 t6_1 (Go.Value.int Go.IntKind.u64 1) (@hid _ ⟨fun t7_3 w4 =>
  CutK1 (@hid _ ⟨fun R5 =>
   BinK Tryd.prog Go.BinOp.lss 2 x0 (Go.Value.int Go.IntKind.i64 0) (@hid _ ⟨fun t9_8 w9 =>
   BrK t9_8 (@hid _ ⟨
    BinK Tryd.prog Go.BinOp.add 2 x0 (Go.Value.int Go.IntKind.i64 1) (@hid _ ⟨fun t11_10 w11 =>
    BinK Tryd.prog Go.BinOp.sub 2 (Go.Value.int Go.IntKind.i64 0) t11_10 (@hid _ ⟨fun t12_12 w13 =>
    ConvK Tryd.prog 2 93 t12_12 (@hid _ ⟨fun t13_14 w15 =>
    BinK Tryd.prog Go.BinOp.shl 93 t13_14 (Go.Value.int Go.IntKind.u64 1) (@hid _ ⟨fun t14_16 w17 =>
    BinK Tryd.prog Go.BinOp.or 93 t14_16 (Go.Value.int Go.IntKind.u64 1) (@hid _ ⟨fun t15_18 w19 =>
    R5 t15_18 w19⟩) w17⟩) w15⟩) w13⟩) w11⟩) w9⟩) (@hid _ ⟨
    R5 t7_3 w9⟩)⟩) w4⟩)
  (@hid _ ⟨fun _ x3_6 w7 =>
   LoopK2 x3_6 (Go.Value.slice none 0 0) w7 (@hid _ ⟨fun _ x3_20 x4_21 w22 B23 =>
    BinK Tryd.prog Go.BinOp.geq 93 x3_20 (Go.Value.int Go.IntKind.u64 128) (@hid _ ⟨fun t17_24 w25 =>
    BrK t17_24 (@hid _ ⟨
     BinK Tryd.prog Go.BinOp.and 93 x3_20 (Go.Value.int Go.IntKind.u64 127) (@hid _ ⟨fun t20_26 w27 =>
     BinK Tryd.prog Go.BinOp.or 93 t20_26 (Go.Value.int Go.IntKind.u64 128) (@hid _ ⟨fun t21_28 w29 =>
     ConvK Tryd.prog 93 5 t21_28 (@hid _ ⟨fun t22_30 w31 =>
     BuildSliceK Tryd.prog 32 1 #[(0, t22_30)] (@hid _ ⟨fun t23_32 w33 =>
     BuiltinK Tryd.prog Go.Builtin.append #[32, 32] 32 #[false, false] #[x4_21, t23_32] (@hid _ ⟨fun t24_34 w35 =>
     BinK Tryd.prog Go.BinOp.shr 93 x3_20 (Go.Value.int Go.IntKind.u64 7) (@hid _ ⟨fun t26_36 w37 =>
     B23 t26_36 t24_34 w37⟩) w35⟩) w33⟩) w31⟩) w29⟩) w27⟩) w25⟩) (@hid _ ⟨
     ConvK Tryd.prog 93 5 x3_20 (@hid _ ⟨fun t29_38 w39 =>
     BuildSliceK Tryd.prog 32 1 #[(0, t29_38)] (@hid _ ⟨fun t30_40 w41 =>
     BuiltinK Tryd.prog Go.Builtin.append #[32, 32] 32 #[false, false] #[x4_21, t30_40] (@hid _ ⟨fun t31_42 w43 =>
     R t31_42 w43⟩) w41⟩) w39⟩) w25⟩)⟩) w22⟩)⟩)⟩) w2⟩) w0
def a29 : Ann := (.seq .no (.seq .no (.cut [3] [(8, 15)] (.seq .no (.cond .no .no)) (.seq .no (.seq (.block (.loop [3, 4] [(16, 26)] (.seq (.seq .no (.cond .no .no)) (.block (.seq .no .no))))) (.seq .no .no))))))
theorem F29_eq (x0 : Value) (R : Value → World → Prop) (w0 : World) : F29 x0 R w0 = vc Tryd.prog (bodyOf Tryd.f29) a29 (retQ Tryd.prog Tryd.f29 R) (envOf 0 [x0]) w0 := by kernel_rfl
theorem F29_calls (x0 : Value) (R : Value → World → Prop) (w0 : World) (h : F29 x0 R w0) : CallK Tryd.prog 29 #[x0] R w0 :=
  calls_vc (c := bodyOf Tryd.f29) Tryd.func29 (by kernel_rfl) (by kernel_rfl) a29 (by kernel_rfl) (by kernel_rfl) [x0] (by rw [Tryd.ntmps29]; exact Nat.le_of_ble_eq_true rfl) w0 R ((F29_eq x0 R w0).mp h)

/-- canton/cantonref7.PutText, its body as a formula. -/
def F30 (x0 : Value) (R : Value → World → Prop) (w0 : World) : Prop :=
  BuiltinK Tryd.prog Go.Builtin.len #[9] 3 #[false] #[x0] (@hid _ ⟨fun t4_1 w2 =>
  CallV Tryd.prog (.func (.func 29) #[] #[]) #[t4_1] (@hid _ ⟨fun t5_3 w4 =>
  BuiltinK Tryd.prog Go.Builtin.append #[32, 9] 32 #[false, false] #[t5_3, x0] (@hid _ ⟨fun t7_5 w6 =>
  R t7_5 w6⟩) w4⟩) w2⟩) w0
def a30 : Ann := (.seq .no (.seq .no .no))
theorem F30_eq (x0 : Value) (R : Value → World → Prop) (w0 : World) : F30 x0 R w0 = vc Tryd.prog (bodyOf Tryd.f30) a30 (retQ Tryd.prog Tryd.f30 R) (envOf 0 [x0]) w0 := by kernel_rfl
theorem F30_calls (x0 : Value) (R : Value → World → Prop) (w0 : World) (h : F30 x0 R w0) : CallK Tryd.prog 30 #[x0] R w0 :=
  calls_vc (c := bodyOf Tryd.f30) Tryd.func30 (by kernel_rfl) (by kernel_rfl) a30 (by kernel_rfl) (by kernel_rfl) [x0] (by rw [Tryd.ntmps30]; exact Nat.le_of_ble_eq_true rfl) w0 R ((F30_eq x0 R w0).mp h)

/-- canton/codec.Open, its body as a formula. -/
def F31 (x0 : Value) (R : Value → World → Prop) (w0 : World) : Prop :=
  BuiltinK Tryd.prog Go.Builtin.len #[32] 3 #[false] #[x0] (@hid _ ⟨fun t6_1 w2 =>
  BinK Tryd.prog Go.BinOp.lss 3 t6_1 (Go.Value.int Go.IntKind.i64 4) (@hid _ ⟨fun t7_3 w4 =>
  BrK t7_3 (@hid _ ⟨
   R (.tuple #[(Go.Value.slice none 0 0), (Go.Value.int Go.IntKind.i64 3)]) w4⟩) (@hid _ ⟨
   BuiltinK Tryd.prog Go.Builtin.len #[32] 3 #[false] #[x0] (@hid _ ⟨fun t10_5 w6 =>
   BinK Tryd.prog Go.BinOp.sub 3 t10_5 (Go.Value.int Go.IntKind.i64 4) (@hid _ ⟨fun t11_7 w8 =>
   SliceK Tryd.prog 32 x0 none (some t11_7) none (@hid _ ⟨fun t12_9 w10 =>
   DrawK (@hid _ ⟨fun S11 w12 =>
   TakeS Tryd.prog S11 (convert 32 9 x0) (@hid _ ⟨fun t17_13 =>
   (CallV Tryd.prog (.func (.func 27) #[] #[]) #[t12_9] (@hid _ ⟨fun t14_14 w15 =>
   S11 w15 ∧
   (ConvK Tryd.prog 32 9 t14_14 (@hid _ ⟨fun t15_16 w17 =>
   S11 w17 ∧
   BinT Tryd.prog S11 Go.BinOp.neq 9 t15_16 t17_13 (@hid _ ⟨fun t18_18 =>
   BrK t18_18 (@hid _ ⟨
    R (.tuple #[(Go.Value.slice none 0 0), (Go.Value.int Go.IntKind.i64 10)]) w17⟩) (@hid _ ⟨
    CallV Tryd.prog (.func (.func 43) #[] #[]) #[t12_9] (@hid _ ⟨fun t20_19 w20 =>
    CallV Tryd.prog (.func (.func 45) #[] #[]) #[t20_19] (@hid _ ⟨fun t21_21 w22 =>
    R (.tuple #[t21_21, (Go.Value.int Go.IntKind.i64 0)]) w22⟩) w20⟩) w17⟩)⟩)⟩) w15) ∧
   True⟩) w12) ∧
   True⟩)⟩) w10⟩) w8⟩) w6⟩) w4⟩)⟩) w2⟩) w0
def a31 : Ann := (.seq .no (.seq (.seq .no (.cond (.seq .no .no) .no)) (.seq .no (.seq (.seq (.plan (.take 0 (.take 3 (.take 4 (.alt 1 (.alt 2 (.take 5 .done) .nil) .nil))))) (.cond (.seq .no .no) .no)) (.seq .no .no)))))
theorem F31_eq (x0 : Value) (R : Value → World → Prop) (w0 : World) : F31 x0 R w0 = vc Tryd.prog (bodyOf Tryd.f31) a31 (retQ Tryd.prog Tryd.f31 R) (envOf 0 [x0]) w0 := by kernel_rfl
theorem F31_calls (x0 : Value) (R : Value → World → Prop) (w0 : World) (h : F31 x0 R w0) : CallK Tryd.prog 31 #[x0] R w0 :=
  calls_vc (c := bodyOf Tryd.f31) Tryd.func31 (by kernel_rfl) (by kernel_rfl) a31 (by kernel_rfl) (by kernel_rfl) [x0] (by rw [Tryd.ntmps31]; exact Nat.le_of_ble_eq_true rfl) w0 R ((F31_eq x0 R w0).mp h)

/-- (*canton/lives.Lives).read, its body as a formula. -/
def F32 (x0 x1 : Value) (R : Value → World → Prop) (w0 : World) : Prop :=
  CallV Tryd.prog (.func (.func 46) #[] #[]) #[x1] (@hid _ ⟨fun t11_1 w2 =>
  CallV Tryd.prog (.func (.func 47) #[] #[]) #[x1] (@hid _ ⟨fun t14_3 w4 =>
  BinK Tryd.prog Go.BinOp.neq 29 t14_3 (Go.Value.int Go.IntKind.i64 0) (@hid _ ⟨fun t15_5 w6 =>
  BrK t15_5 (@hid _ ⟨
   CallV Tryd.prog (.func (.func 47) #[] #[]) #[x1] (@hid _ ⟨fun t17_7 w8 =>
   R t17_7 w8⟩) w6⟩) (@hid _ ⟨
   BinK Tryd.prog Go.BinOp.gtr 2 t11_1 (Go.Value.int Go.IntKind.i64 256) (@hid _ ⟨fun t20_9 w10 =>
   BrK t20_9 (@hid _ ⟨
    R (Go.Value.int Go.IntKind.i64 4) w10⟩) (@hid _ ⟨
    BinK Tryd.prog Go.BinOp.lss 2 t11_1 (Go.Value.int Go.IntKind.i64 0) (@hid _ ⟨fun t23_11 w12 =>
    BrK t23_11 (@hid _ ⟨
     R (Go.Value.int Go.IntKind.i64 2) w12⟩) (@hid _ ⟨
     LoopK2 (Go.Value.slice none 0 0) (Go.Value.int Go.IntKind.i64 0) w12 (@hid _ ⟨fun _ x6_13 x25_14 w15 B16 =>
      BinK Tryd.prog Go.BinOp.lss 2 x25_14 t11_1 (@hid _ ⟨fun t26_17 w18 =>
      BrK t26_17 (@hid _ ⟨
       CallV Tryd.prog (.func (.func 48) #[] #[]) #[x1] (@hid _ ⟨fun t29_19 w20 =>
       CallV Tryd.prog (.func (.func 46) #[] #[]) #[x1] (@hid _ ⟨fun t31_21 w22 =>
       BuildK Tryd.prog 97 #[(0, t29_19), (1, t31_21)] (@hid _ ⟨fun t32_23 w24 =>
       BuildSliceK Tryd.prog 95 1 #[(0, t32_23)] (@hid _ ⟨fun t33_25 w26 =>
       BuiltinK Tryd.prog Go.Builtin.append #[95, 95] 95 #[false, false] #[x6_13, t33_25] (@hid _ ⟨fun t34_27 w28 =>
       BinK Tryd.prog Go.BinOp.add 2 x25_14 (Go.Value.int Go.IntKind.i64 1) (@hid _ ⟨fun t35_29 w30 =>
       B16 t34_27 t35_29 w30⟩) w28⟩) w26⟩) w24⟩) w22⟩) w20⟩) w18⟩) (@hid _ ⟨
       CallV Tryd.prog (.func (.func 47) #[] #[]) #[x1] (@hid _ ⟨fun t38_31 w32 =>
       BinK Tryd.prog Go.BinOp.neq 29 t38_31 (Go.Value.int Go.IntKind.i64 0) (@hid _ ⟨fun t39_33 w34 =>
       BrK t39_33 (@hid _ ⟨
        CallV Tryd.prog (.func (.func 47) #[] #[]) #[x1] (@hid _ ⟨fun t41_35 w36 =>
        R t41_35 w36⟩) w34⟩) (@hid _ ⟨
        CallV Tryd.prog (.func (.func 49) #[] #[]) #[x1] (@hid _ ⟨fun t44_37 w38 =>
        BinK Tryd.prog Go.BinOp.gtr 3 t44_37 (Go.Value.int Go.IntKind.i64 0) (@hid _ ⟨fun t45_39 w40 =>
        BrK t45_39 (@hid _ ⟨
         R (Go.Value.int Go.IntKind.i64 2) w40⟩) (@hid _ ⟨
         BuiltinK Tryd.prog Go.Builtin.len #[95] 3 #[false] #[x6_13] (@hid _ ⟨fun t47_41 w42 =>
         LoopK2 (Go.Value.string { data := #[] }) (Go.Value.int Go.IntKind.i64 0) w42 (@hid _ ⟨fun _ x7_43 x48_44 w45 B46 =>
          BinK Tryd.prog Go.BinOp.lss 3 x48_44 t47_41 (@hid _ ⟨fun t49_47 w48 =>
          BrK t49_47 (@hid _ ⟨
           IndexAtK Tryd.prog 95 x6_13 x48_44 (@hid _ ⟨fun t50_49 w50 =>
           LoadK Tryd.prog 97 t50_49 (@hid _ ⟨fun t51_51 w52 =>
           AllocK Tryd.prog 97 (@hid _ ⟨fun t9_53 w54 =>
           StoreK Tryd.prog 97 t9_53 t51_51 (@hid _ ⟨fun tu_55 w56 =>
           FieldAtK Tryd.prog 97 t9_53 0 (@hid _ ⟨fun t53_57 w58 =>
           LoadK Tryd.prog 9 t53_57 (@hid _ ⟨fun t54_59 w60 =>
           CallV Tryd.prog (.func (.func 20) #[] #[]) #[t54_59] (@hid _ ⟨fun t55_61 w62 =>
           BinK Tryd.prog Go.BinOp.lss 3 t55_61 (Go.Value.int Go.IntKind.i64 1) (@hid _ ⟨fun t56_63 w64 =>
           GuardK t56_63 false (fun k w => FieldAtK Tryd.prog 97 t9_53 0 k w) (@hid _ ⟨fun t58_65 w66 =>
           GuardK t56_63 false (fun k w => LoadK Tryd.prog 9 t58_65 k w) (@hid _ ⟨fun t59_67 w68 =>
           GuardK t56_63 false (fun k w => k x7_43 w) (@hid _ ⟨fun t60_69 w70 =>
           GuardK t56_63 false (fun k w => BinK Tryd.prog Go.BinOp.leq 9 t59_67 t60_69 k w) (@hid _ ⟨fun t61_71 w72 =>
           PickK Tryd.prog t56_63 (Go.Value.bool true) t61_71 (@hid _ ⟨fun t62_73 w74 =>
           BrK t62_73 (@hid _ ⟨
            R (Go.Value.int Go.IntKind.i64 2) w74⟩) (@hid _ ⟨
            FieldAtK Tryd.prog 97 t9_53 1 (@hid _ ⟨fun t64_75 w76 =>
            LoadK Tryd.prog 2 t64_75 (@hid _ ⟨fun t65_77 w78 =>
            BinK Tryd.prog Go.BinOp.lss 2 t65_77 (Go.Value.int Go.IntKind.i64 1) (@hid _ ⟨fun t66_79 w80 =>
            GuardK t66_79 false (fun k w => FieldAtK Tryd.prog 97 t9_53 1 k w) (@hid _ ⟨fun t68_81 w82 =>
            GuardK t66_79 false (fun k w => LoadK Tryd.prog 2 t68_81 k w) (@hid _ ⟨fun t69_83 w84 =>
            GuardK t66_79 false (fun k w => BinK Tryd.prog Go.BinOp.gtr 2 t69_83 (Go.Value.int Go.IntKind.i64 1000000000) k w) (@hid _ ⟨fun t70_85 w86 =>
            PickK Tryd.prog t66_79 (Go.Value.bool true) t70_85 (@hid _ ⟨fun t71_87 w88 =>
            BrK t71_87 (@hid _ ⟨
             R (Go.Value.int Go.IntKind.i64 1) w88⟩) (@hid _ ⟨
             DrawK (@hid _ ⟨fun S89 w90 =>
             TakeO Tryd.prog S89 (nilSem x0) (@hid _ ⟨fun t73_91 =>
             TakeS Tryd.prog S89 (Instr.fieldAt 52 t73_91 0) (@hid _ ⟨fun t74_92 =>
             TakeS Tryd.prog S89 (Instr.loadAt 49 t74_92) (@hid _ ⟨fun t75_93 =>
             TakeS Tryd.prog S89 (Instr.fieldAt 97 t9_53 0) (@hid _ ⟨fun t76_94 =>
             TakeS Tryd.prog S89 (Instr.loadAt 9 t76_94) (@hid _ ⟨fun t77_95 =>
             TakeS Tryd.prog S89 (Instr.fieldAt 97 t9_53 1) (@hid _ ⟨fun t78_96 =>
             TakeS Tryd.prog S89 (Instr.loadAt 2 t78_96) (@hid _ ⟨fun t79_97 =>
             (CallV Tryd.prog (.func (.func 23) #[] #[]) #[t75_93, t77_95, t79_97] (@hid _ ⟨fun t80_98 w99 =>
             S89 w99 ∧
             FieldAtK Tryd.prog 97 t9_53 0 (@hid _ ⟨fun t81_100 w101 =>
             LoadK Tryd.prog 9 t81_100 (@hid _ ⟨fun t82_102 w103 =>
             BinK Tryd.prog Go.BinOp.add 3 x48_44 (Go.Value.int Go.IntKind.i64 1) (@hid _ ⟨fun t83_104 w105 =>
             B46 t82_102 t83_104 w105⟩) w103⟩) w101⟩) w99⟩) w90) ∧
             True⟩)⟩)⟩)⟩)⟩)⟩)⟩)⟩) w88⟩)⟩) w86⟩) w84⟩) w82⟩) w80⟩) w78⟩) w76⟩) w74⟩)⟩) w72⟩) w70⟩) w68⟩) w66⟩) w64⟩) w62⟩) w60⟩) w58⟩) w56⟩) w54⟩) w52⟩) w50⟩) w48⟩) (@hid _ ⟨
           R (Go.Value.int Go.IntKind.i64 0) w48⟩)⟩) w45⟩)⟩) w40⟩)⟩) w38⟩) w34⟩)⟩) w32⟩) w18⟩)⟩) w15⟩)⟩)⟩) w10⟩)⟩) w6⟩)⟩) w4⟩) w2⟩) w0
def a32 : Ann := (.seq .no (.seq .no (.seq (.block (.seq .no (.cond (.seq .no .no) (.seq .no (.cond (.seq .no .no) (.seq .no (.cond (.seq .no .no) .no))))))) (.seq .no (.seq (.seq .no (.block (.loop [6, 25] [(26, 35)] (.seq .no (.seq (.cond .no .no) (.seq (.block .no) .no)))))) (.seq (.block (.seq .no (.cond (.seq .no .no) (.seq .no (.cond (.seq .no .no) .no))))) (.seq .no (.seq (.seq .no (.block (.loop [7, 48] [(4, 4), (9, 9), (49, 83)] (.seq .no (.seq (.cond .no .no) (.seq (.block (.seq .no (.seq (.block (.seq .no (.cond (.seq .no .no) (.seq .no (.cond (.seq .no .no) .no))))) (.seq (.plan (.take 0 (.take 1 (.take 2 (.take 3 (.take 4 (.take 5 (.take 6 (.take 7 (.alt 8 .done .nil)))))))))) .no)))) .no)))))) (.seq .no .no)))))))))
theorem F32_eq (x0 x1 : Value) (R : Value → World → Prop) (w0 : World) : F32 x0 x1 R w0 = vc Tryd.prog (bodyOf Tryd.f32) a32 (retQ Tryd.prog Tryd.f32 R) (envOf 0 [x0, x1]) w0 := by kernel_rfl
theorem F32_calls (x0 x1 : Value) (R : Value → World → Prop) (w0 : World) (h : F32 x0 x1 R w0) : CallK Tryd.prog 32 #[x0, x1] R w0 :=
  calls_vc (c := bodyOf Tryd.f32) Tryd.func32 (by kernel_rfl) (by kernel_rfl) a32 (by kernel_rfl) (by kernel_rfl) [x0, x1] (by rw [Tryd.ntmps32]; exact Nat.le_of_ble_eq_true rfl) w0 R ((F32_eq x0 x1 R w0).mp h)

/-- canton/codec.Of, its body as a formula. -/
def F33 (x0 : Value) (R : Value → World → Prop) (w0 : World) : Prop :=
  CallV Tryd.prog (.func (.func 43) #[] #[]) #[x0] (@hid _ ⟨fun t4_1 w2 =>
  BuildK Tryd.prog 99 #[(0, t4_1)] (@hid _ ⟨fun t5_3 w4 =>
  BoxK Tryd.prog 99 t5_3 (@hid _ ⟨fun t6_5 w6 =>
  R t6_5 w6⟩) w4⟩) w2⟩) w0
def a33 : Ann := (.seq .no (.seq .no .no))
theorem F33_eq (x0 : Value) (R : Value → World → Prop) (w0 : World) : F33 x0 R w0 = vc Tryd.prog (bodyOf Tryd.f33) a33 (retQ Tryd.prog Tryd.f33 R) (envOf 0 [x0]) w0 := by kernel_rfl
theorem F33_calls (x0 : Value) (R : Value → World → Prop) (w0 : World) (h : F33 x0 R w0) : CallK Tryd.prog 33 #[x0] R w0 :=
  calls_vc (c := bodyOf Tryd.f33) Tryd.func33 (by kernel_rfl) (by kernel_rfl) a33 (by kernel_rfl) (by kernel_rfl) [x0] (by rw [Tryd.ntmps33]; exact Nat.le_of_ble_eq_true rfl) w0 R ((F33_eq x0 R w0).mp h)

/-- canton/cantonref7.Sum, its body as a formula. -/
def F34 (x0 : Value) (R : Value → World → Prop) (w0 : World) : Prop :=
  LoopK2 (Go.Value.int Go.IntKind.u32 4294967295) (Go.Value.int Go.IntKind.i64 0) w0 (@hid _ ⟨fun _ x3_1 x4_2 w3 B4 =>
   BuiltinK Tryd.prog Go.Builtin.len #[32] 3 #[false] #[x0] (@hid _ ⟨fun t9_5 w6 =>
   BinK Tryd.prog Go.BinOp.lss 3 x4_2 t9_5 (@hid _ ⟨fun t10_7 w8 =>
   BrK t10_7 (@hid _ ⟨
    IndexAtK Tryd.prog 32 x0 x4_2 (@hid _ ⟨fun t16_9 w10 =>
    LoadK Tryd.prog 5 t16_9 (@hid _ ⟨fun t17_11 w12 =>
    ConvK Tryd.prog 5 72 t17_11 (@hid _ ⟨fun t18_13 w14 =>
    BinK Tryd.prog Go.BinOp.xor 72 x3_1 t18_13 (@hid _ ⟨fun t19_15 w16 =>
    LoopK2 t19_15 (Go.Value.int Go.IntKind.i64 0) w16 (@hid _ ⟨fun _ x3_17 x5_18 w19 B20 =>
     BinK Tryd.prog Go.BinOp.lss 3 x5_18 (Go.Value.int Go.IntKind.i64 8) (@hid _ ⟨fun t21_21 w22 =>
     BrK t21_21 (@hid _ ⟨
      BinK Tryd.prog Go.BinOp.and 72 x3_17 (Go.Value.int Go.IntKind.u32 1) (@hid _ ⟨fun t25_23 w24 =>
      BinK Tryd.prog Go.BinOp.shr 72 x3_17 (Go.Value.int Go.IntKind.u64 1) (@hid _ ⟨fun t27_25 w26 =>
      BinK Tryd.prog Go.BinOp.eql 72 t25_23 (Go.Value.int Go.IntKind.u32 1) (@hid _ ⟨fun t29_27 w28 =>
      BrK t29_27 (@hid _ ⟨
       BinK Tryd.prog Go.BinOp.xor 72 t27_25 (Go.Value.int Go.IntKind.u32 3988292384) (@hid _ ⟨fun t31_29 w30 =>
       BinK Tryd.prog Go.BinOp.add 3 x5_18 (Go.Value.int Go.IntKind.i64 1) (@hid _ ⟨fun t23_31 w32 =>
       B20 t31_29 t23_31 w32⟩) w30⟩) w28⟩) (@hid _ ⟨
       BinK Tryd.prog Go.BinOp.add 3 x5_18 (Go.Value.int Go.IntKind.i64 1) (@hid _ ⟨fun t23_33 w34 =>
       B20 t27_25 t23_33 w34⟩) w28⟩)⟩) w26⟩) w24⟩) w22⟩) (@hid _ ⟨
      BinK Tryd.prog Go.BinOp.add 3 x4_2 (Go.Value.int Go.IntKind.i64 1) (@hid _ ⟨fun t12_35 w36 =>
      B4 x3_17 t12_35 w36⟩) w22⟩)⟩) w19⟩)⟩) w14⟩) w12⟩) w10⟩) w8⟩) (@hid _ ⟨
    UnK Tryd.prog Go.UnOp.xor x3_1 (@hid _ ⟨fun t33_37 w38 =>
    R t33_37 w38⟩) w8⟩)⟩) w6⟩) w3⟩)
def a34 : Ann := (.seq .no (.seq .no (.seq (.seq .no (.block (.loop [3, 4] [(5, 31)] (.seq (.seq .no (.cond .no .no)) (.seq (.block (.seq .no (.seq .no (.block (.loop [3, 5] [(6, 6), (20, 31)] (.seq (.seq .no (.cond .no .no)) (.seq (.block (.seq .no (.seq .no (.seq .no (.cond .no .no))))) .no))))))) .no))))) (.seq .no .no))))
theorem F34_eq (x0 : Value) (R : Value → World → Prop) (w0 : World) : F34 x0 R w0 = vc Tryd.prog (bodyOf Tryd.f34) a34 (retQ Tryd.prog Tryd.f34 R) (envOf 0 [x0]) w0 := by kernel_rfl
theorem F34_calls (x0 : Value) (R : Value → World → Prop) (w0 : World) (h : F34 x0 R w0) : CallK Tryd.prog 34 #[x0] R w0 :=
  calls_vc (c := bodyOf Tryd.f34) Tryd.func34 (by kernel_rfl) (by kernel_rfl) a34 (by kernel_rfl) (by kernel_rfl) [x0] (by rw [Tryd.ntmps34]; exact Nat.le_of_ble_eq_true rfl) w0 R ((F34_eq x0 R w0).mp h)

/-- canton/cantonref7.Open, its body as a formula. -/
def F35 (x0 : Value) (R : Value → World → Prop) (w0 : World) : Prop :=
  BuiltinK Tryd.prog Go.Builtin.len #[32] 3 #[false] #[x0] (@hid _ ⟨fun t6_1 w2 =>
  BinK Tryd.prog Go.BinOp.sub 3 t6_1 (Go.Value.int Go.IntKind.i64 4) (@hid _ ⟨fun t7_3 w4 =>
  BinK Tryd.prog Go.BinOp.lss 3 t7_3 (Go.Value.int Go.IntKind.i64 0) (@hid _ ⟨fun t9_5 w6 =>
  BrK t9_5 (@hid _ ⟨
   R (.tuple #[(Go.Value.slice none 0 0), (Go.Value.int Go.IntKind.i64 3)]) w6⟩) (@hid _ ⟨
   DrawK (@hid _ ⟨fun S7 w8 =>
   TakeS Tryd.prog S7 (Instr.sliceAt 32 x0 none (some t7_3) none) (@hid _ ⟨fun t12_9 =>
   TakeS Tryd.prog S7 (convert 32 9 x0) (@hid _ ⟨fun t16_10 =>
   (CallV Tryd.prog (.func (.func 16) #[] #[]) #[t12_9] (@hid _ ⟨fun t13_11 w12 =>
   S7 w12 ∧
   (ConvK Tryd.prog 32 9 t13_11 (@hid _ ⟨fun t14_13 w14 =>
   S7 w14 ∧
   BinT Tryd.prog S7 Go.BinOp.neq 9 t14_13 t16_10 (@hid _ ⟨fun t17_15 =>
   BrK t17_15 (@hid _ ⟨
    R (.tuple #[(Go.Value.slice none 0 0), (Go.Value.int Go.IntKind.i64 10)]) w14⟩) (@hid _ ⟨
    BuildSliceK Tryd.prog 32 0 #[] (@hid _ ⟨fun t18_16 w17 =>
    SliceK Tryd.prog 32 x0 none (some t7_3) none (@hid _ ⟨fun t21_18 w19 =>
    BuiltinK Tryd.prog Go.Builtin.append #[32, 32] 32 #[false, false] #[t18_16, t21_18] (@hid _ ⟨fun t22_20 w21 =>
    R (.tuple #[t22_20, (Go.Value.int Go.IntKind.i64 0)]) w21⟩) w19⟩) w17⟩) w14⟩)⟩)⟩) w12) ∧
   True⟩) w8) ∧
   True⟩)⟩)⟩) w6⟩)⟩) w4⟩) w2⟩) w0
def a35 : Ann := (.seq .no (.seq .no (.seq (.seq .no (.cond (.seq .no .no) .no)) (.seq (.seq (.plan (.take 0 (.take 1 (.take 2 (.take 5 (.take 6 (.alt 3 (.alt 4 (.take 7 .done) .nil) .nil))))))) (.cond (.seq .no .no) .no)) (.seq .no .no)))))
theorem F35_eq (x0 : Value) (R : Value → World → Prop) (w0 : World) : F35 x0 R w0 = vc Tryd.prog (bodyOf Tryd.f35) a35 (retQ Tryd.prog Tryd.f35 R) (envOf 0 [x0]) w0 := by kernel_rfl
theorem F35_calls (x0 : Value) (R : Value → World → Prop) (w0 : World) (h : F35 x0 R w0) : CallK Tryd.prog 35 #[x0] R w0 :=
  calls_vc (c := bodyOf Tryd.f35) Tryd.func35 (by kernel_rfl) (by kernel_rfl) a35 (by kernel_rfl) (by kernel_rfl) [x0] (by rw [Tryd.ntmps35]; exact Nat.le_of_ble_eq_true rfl) w0 R ((F35_eq x0 R w0).mp h)

/-- (*canton/cantonref7.Dec).Int, its body as a formula. -/
def F36 (x0 : Value) (R : Value → World → Prop) (w0 : World) : Prop :=
  NilK Tryd.prog x0 (@hid _ ⟨fun t8_1 w2 =>
  FieldAtK Tryd.prog 79 t8_1 2 (@hid _ ⟨fun t9_3 w4 =>
  LoadK Tryd.prog 3 t9_3 (@hid _ ⟨fun t10_5 w6 =>
  BinK Tryd.prog Go.BinOp.neq 3 t10_5 (Go.Value.int Go.IntKind.i64 0) (@hid _ ⟨fun t11_7 w8 =>
  BrK t11_7 (@hid _ ⟨
   R (Go.Value.int Go.IntKind.i64 0) w8⟩) (@hid _ ⟨
   LoopK2 (Go.Value.int Go.IntKind.u64 0) (Go.Value.int Go.IntKind.i64 0) w8 (@hid _ ⟨fun _ x3_9 x4_10 w11 B12 =>
    BinK Tryd.prog Go.BinOp.lss 3 x4_10 (Go.Value.int Go.IntKind.i64 10) (@hid _ ⟨fun t13_13 w14 =>
    BrK t13_13 (@hid _ ⟨
     DrawK (@hid _ ⟨fun S15 w16 =>
     TakeO Tryd.prog S15 (nilSem x0) (@hid _ ⟨fun t17_17 =>
     TakeS Tryd.prog S15 (Instr.fieldAt 79 t17_17 1) (@hid _ ⟨fun t18_18 =>
     TakeS Tryd.prog S15 (Instr.loadAt 3 t18_18) (@hid _ ⟨fun t19_19 =>
     BinT Tryd.prog S15 Go.BinOp.add 3 t19_19 x4_10 (@hid _ ⟨fun t21_20 =>
     TakeO Tryd.prog S15 (nilSem x0) (@hid _ ⟨fun t23_21 =>
     TakeS Tryd.prog S15 (Instr.fieldAt 79 t23_21 0) (@hid _ ⟨fun t24_22 =>
     TakeS Tryd.prog S15 (Instr.loadAt 32 t24_22) (@hid _ ⟨fun t25_23 =>
     TakeO Tryd.prog S15 (builtin Go.Builtin.len #[32] 3 #[false] #[t25_23]) (@hid _ ⟨fun t26_24 =>
     BinT Tryd.prog S15 Go.BinOp.eql 3 t21_20 t26_24 (@hid _ ⟨fun t27_25 =>
     BrK t27_25 (@hid _ ⟨
      NilK Tryd.prog x0 (@hid _ ⟨fun t29_26 w27 =>
      FieldAtK Tryd.prog 79 t29_26 2 (@hid _ ⟨fun t30_28 w29 =>
      StoreK Tryd.prog 3 t30_28 (Go.Value.int Go.IntKind.i64 3) (@hid _ ⟨fun tu_30 w31 =>
      R (Go.Value.int Go.IntKind.i64 0) w31⟩) w29⟩) w27⟩) w16⟩) (@hid _ ⟨
      DrawK (@hid _ ⟨fun S32 w33 =>
      TakeO Tryd.prog S32 (nilSem x0) (@hid _ ⟨fun t32_34 =>
      TakeS Tryd.prog S32 (Instr.fieldAt 79 t32_34 0) (@hid _ ⟨fun t33_35 =>
      TakeS Tryd.prog S32 (Instr.loadAt 32 t33_35) (@hid _ ⟨fun t34_36 =>
      TakeO Tryd.prog S32 (nilSem x0) (@hid _ ⟨fun t36_37 =>
      TakeS Tryd.prog S32 (Instr.fieldAt 79 t36_37 1) (@hid _ ⟨fun t37_38 =>
      TakeS Tryd.prog S32 (Instr.loadAt 3 t37_38) (@hid _ ⟨fun t38_39 =>
      BinT Tryd.prog S32 Go.BinOp.add 3 t38_39 x4_10 (@hid _ ⟨fun t40_40 =>
      TakeS Tryd.prog S32 (Instr.indexAt 32 t34_36 t40_40) (@hid _ ⟨fun t41_41 =>
      TakeS Tryd.prog S32 (Instr.loadAt 5 t41_41) (@hid _ ⟨fun t42_42 =>
      TakeS Tryd.prog S32 (convert 5 93 t42_42) (@hid _ ⟨fun t43_43 =>
      BinK Tryd.prog Go.BinOp.eql 3 x4_10 (Go.Value.int Go.IntKind.i64 9) (@hid _ ⟨fun t45_44 w45 =>
      GuardK t45_44 true (fun k w => k t43_43 w) (@hid _ ⟨fun t47_46 w47 =>
      GuardK t45_44 true (fun k w => BinK Tryd.prog Go.BinOp.gtr 93 t47_46 (Go.Value.int Go.IntKind.u64 1) k w) (@hid _ ⟨fun t48_48 w49 =>
      PickK Tryd.prog t45_44 t48_48 (Go.Value.bool false) (@hid _ ⟨fun t49_50 w51 =>
      GuardK t49_50 false (fun k w => k x4_10 w) (@hid _ ⟨fun t51_52 w53 =>
      GuardK t49_50 false (fun k w => BinK Tryd.prog Go.BinOp.gtr 3 t51_52 (Go.Value.int Go.IntKind.i64 0) k w) (@hid _ ⟨fun t52_54 w55 =>
      GuardK t49_50 false (fun k w => k t52_54 w) (@hid _ ⟨fun t53_56 w57 =>
      GuardK t53_56 true (fun k w => k t43_43 w) (@hid _ ⟨fun t54_58 w59 =>
      GuardK t53_56 true (fun k w => BinK Tryd.prog Go.BinOp.eql 93 t54_58 (Go.Value.int Go.IntKind.u64 0) k w) (@hid _ ⟨fun t55_60 w61 =>
      GuardK t49_50 false (fun k w => PickK Tryd.prog t53_56 t55_60 (Go.Value.bool false) k w) (@hid _ ⟨fun t56_62 w63 =>
      PickK Tryd.prog t49_50 (Go.Value.bool true) t56_62 (@hid _ ⟨fun t57_64 w65 =>
      BrK t57_64 (@hid _ ⟨
       NilK Tryd.prog x0 (@hid _ ⟨fun t59_66 w67 =>
       FieldAtK Tryd.prog 79 t59_66 2 (@hid _ ⟨fun t60_68 w69 =>
       StoreK Tryd.prog 3 t60_68 (Go.Value.int Go.IntKind.i64 2) (@hid _ ⟨fun tu_70 w71 =>
       R (Go.Value.int Go.IntKind.i64 0) w71⟩) w69⟩) w67⟩) w65⟩) (@hid _ ⟨
       BinK Tryd.prog Go.BinOp.and 93 t43_43 (Go.Value.int Go.IntKind.u64 127) (@hid _ ⟨fun t63_72 w73 =>
       BinK Tryd.prog Go.BinOp.mul 3 (Go.Value.int Go.IntKind.i64 7) x4_10 (@hid _ ⟨fun t65_74 w75 =>
       ConvK Tryd.prog 3 74 t65_74 (@hid _ ⟨fun t66_76 w77 =>
       BinK Tryd.prog Go.BinOp.shl 93 t63_72 t66_76 (@hid _ ⟨fun t67_78 w79 =>
       BinK Tryd.prog Go.BinOp.or 93 x3_9 t67_78 (@hid _ ⟨fun t68_80 w81 =>
       BinK Tryd.prog Go.BinOp.lss 93 t43_43 (Go.Value.int Go.IntKind.u64 128) (@hid _ ⟨fun t70_82 w83 =>
       BrK t70_82 (@hid _ ⟨
        NilK Tryd.prog x0 (@hid _ ⟨fun t73_84 w85 =>
        FieldAtK Tryd.prog 79 t73_84 1 (@hid _ ⟨fun t74_86 w87 =>
        LoadK Tryd.prog 3 t74_86 (@hid _ ⟨fun t75_88 w89 =>
        BinK Tryd.prog Go.BinOp.add 3 t75_88 x4_10 (@hid _ ⟨fun t77_90 w91 =>
        BinK Tryd.prog Go.BinOp.add 3 t77_90 (Go.Value.int Go.IntKind.i64 1) (@hid _ ⟨fun t78_92 w93 =>
        NilK Tryd.prog x0 (@hid _ ⟨fun t79_94 w95 =>
        FieldAtK Tryd.prog 79 t79_94 1 (@hid _ ⟨fun t80_96 w97 =>
        StoreK Tryd.prog 3 t80_96 t78_92 (@hid _ ⟨fun tu_98 w99 =>
        BinK Tryd.prog Go.BinOp.shr 93 t68_80 (Go.Value.int Go.IntKind.u64 1) (@hid _ ⟨fun t82_100 w101 =>
        ConvK Tryd.prog 93 2 t82_100 (@hid _ ⟨fun t83_102 w103 =>
        BinK Tryd.prog Go.BinOp.and 93 t68_80 (Go.Value.int Go.IntKind.u64 1) (@hid _ ⟨fun t85_104 w105 =>
        BinK Tryd.prog Go.BinOp.eql 93 t85_104 (Go.Value.int Go.IntKind.u64 1) (@hid _ ⟨fun t86_106 w107 =>
        BrK t86_106 (@hid _ ⟨
         BinK Tryd.prog Go.BinOp.sub 2 (Go.Value.int Go.IntKind.i64 0) t83_102 (@hid _ ⟨fun t88_108 w109 =>
         BinK Tryd.prog Go.BinOp.sub 2 t88_108 (Go.Value.int Go.IntKind.i64 1) (@hid _ ⟨fun t89_110 w111 =>
         R t89_110 w111⟩) w109⟩) w107⟩) (@hid _ ⟨
         R t83_102 w107⟩)⟩) w105⟩) w103⟩) w101⟩) w99⟩) w97⟩) w95⟩) w93⟩) w91⟩) w89⟩) w87⟩) w85⟩) w83⟩) (@hid _ ⟨
        BinK Tryd.prog Go.BinOp.add 3 x4_10 (Go.Value.int Go.IntKind.i64 1) (@hid _ ⟨fun t15_112 w113 =>
        B12 t68_80 t15_112 w113⟩) w83⟩)⟩) w81⟩) w79⟩) w77⟩) w75⟩) w73⟩) w65⟩)⟩) w63⟩) w61⟩) w59⟩) w57⟩) w55⟩) w53⟩) w51⟩) w49⟩) w47⟩) w45⟩) w33⟩)⟩)⟩)⟩)⟩)⟩)⟩)⟩)⟩)⟩)⟩) w16⟩)⟩)⟩)⟩)⟩)⟩)⟩)⟩)⟩)⟩)⟩) w14⟩) (@hid _ ⟨
     R (Go.Value.int Go.IntKind.i64 0) w14⟩)⟩) w11⟩)⟩)⟩) w6⟩) w4⟩) w2⟩) w0
def a36 : Ann := (.seq .no (.seq (.seq .no (.cond (.seq .no .no) .no)) (.seq .no (.seq (.seq .no (.block (.loop [3, 4] [(2, 2), (5, 6), (12, 90)] (.seq (.seq .no (.cond .no .no)) (.seq (.block (.seq (.seq (.plan (.take 0 (.take 1 (.take 2 (.take 3 (.take 4 (.take 5 (.take 6 (.take 7 (.take 8 (.take 9 (.take 10 (.take 11 .done))))))))))))) (.cond (.seq .no (.seq .no .no)) .no)) (.seq (.plan (.take 0 (.take 1 (.take 2 (.take 3 (.take 4 (.take 5 (.take 6 (.take 7 (.take 8 (.take 9 (.take 10 (.take 11 (.take 12 (.take 13 .done))))))))))))))) (.seq (.seq .no (.cond (.seq .no (.seq .no .no)) .no)) (.seq .no (.seq .no (.cond (.seq .no (.seq .no (.seq (.seq .no (.cond (.seq .no .no) .no)) (.seq .no .no)))) .no))))))) .no))))) (.seq .no .no)))))
theorem F36_eq (x0 : Value) (R : Value → World → Prop) (w0 : World) : F36 x0 R w0 = vc Tryd.prog (bodyOf Tryd.f36) a36 (retQ Tryd.prog Tryd.f36 R) (envOf 0 [x0]) w0 := by kernel_rfl
theorem F36_calls (x0 : Value) (R : Value → World → Prop) (w0 : World) (h : F36 x0 R w0) : CallK Tryd.prog 36 #[x0] R w0 :=
  calls_vc (c := bodyOf Tryd.f36) Tryd.func36 (by kernel_rfl) (by kernel_rfl) a36 (by kernel_rfl) (by kernel_rfl) [x0] (by rw [Tryd.ntmps36]; exact Nat.le_of_ble_eq_true rfl) w0 R ((F36_eq x0 R w0).mp h)

/-- (*canton/cantonref7.Dec).Text, its body as a formula. -/
def F37 (x0 : Value) (R : Value → World → Prop) (w0 : World) : Prop :=
  CallV Tryd.prog (.func (.func 36) #[] #[]) #[x0] (@hid _ ⟨fun t6_1 w2 =>
  NilK Tryd.prog x0 (@hid _ ⟨fun t9_3 w4 =>
  FieldAtK Tryd.prog 79 t9_3 2 (@hid _ ⟨fun t10_5 w6 =>
  LoadK Tryd.prog 3 t10_5 (@hid _ ⟨fun t11_7 w8 =>
  BinK Tryd.prog Go.BinOp.neq 3 t11_7 (Go.Value.int Go.IntKind.i64 0) (@hid _ ⟨fun t12_9 w10 =>
  BrK t12_9 (@hid _ ⟨
   R (Go.Value.string { data := #[] }) w10⟩) (@hid _ ⟨
   BinK Tryd.prog Go.BinOp.lss 2 t6_1 (Go.Value.int Go.IntKind.i64 0) (@hid _ ⟨fun t15_11 w12 =>
   BrK t15_11 (@hid _ ⟨
    NilK Tryd.prog x0 (@hid _ ⟨fun t17_13 w14 =>
    FieldAtK Tryd.prog 79 t17_13 2 (@hid _ ⟨fun t18_15 w16 =>
    StoreK Tryd.prog 3 t18_15 (Go.Value.int Go.IntKind.i64 2) (@hid _ ⟨fun tu_17 w18 =>
    R (Go.Value.string { data := #[] }) w18⟩) w16⟩) w14⟩) w12⟩) (@hid _ ⟨
    DrawK (@hid _ ⟨fun S19 w20 =>
    TakeO Tryd.prog S19 (nilSem x0) (@hid _ ⟨fun t22_21 =>
    TakeS Tryd.prog S19 (Instr.fieldAt 79 t22_21 0) (@hid _ ⟨fun t23_22 =>
    TakeS Tryd.prog S19 (Instr.loadAt 32 t23_22) (@hid _ ⟨fun t24_23 =>
    TakeO Tryd.prog S19 (builtin Go.Builtin.len #[32] 3 #[false] #[t24_23]) (@hid _ ⟨fun t25_24 =>
    TakeO Tryd.prog S19 (nilSem x0) (@hid _ ⟨fun t27_25 =>
    TakeS Tryd.prog S19 (Instr.fieldAt 79 t27_25 1) (@hid _ ⟨fun t28_26 =>
    TakeS Tryd.prog S19 (Instr.loadAt 3 t28_26) (@hid _ ⟨fun t29_27 =>
    BinT Tryd.prog S19 Go.BinOp.sub 3 t25_24 t29_27 (@hid _ ⟨fun t30_28 =>
    BinT Tryd.prog S19 Go.BinOp.gtr 2 t6_1 t30_28 (@hid _ ⟨fun t31_29 =>
    BrK t31_29 (@hid _ ⟨
     NilK Tryd.prog x0 (@hid _ ⟨fun t33_30 w31 =>
     FieldAtK Tryd.prog 79 t33_30 2 (@hid _ ⟨fun t34_32 w33 =>
     StoreK Tryd.prog 3 t34_32 (Go.Value.int Go.IntKind.i64 3) (@hid _ ⟨fun tu_34 w35 =>
     R (Go.Value.string { data := #[] }) w35⟩) w33⟩) w31⟩) w20⟩) (@hid _ ⟨
     DrawK (@hid _ ⟨fun S36 w37 =>
     TakeO Tryd.prog S36 (nilSem x0) (@hid _ ⟨fun t36_38 =>
     TakeS Tryd.prog S36 (Instr.fieldAt 79 t36_38 0) (@hid _ ⟨fun t37_39 =>
     TakeS Tryd.prog S36 (Instr.loadAt 32 t37_39) (@hid _ ⟨fun t38_40 =>
     TakeO Tryd.prog S36 (nilSem x0) (@hid _ ⟨fun t40_41 =>
     TakeS Tryd.prog S36 (Instr.fieldAt 79 t40_41 1) (@hid _ ⟨fun t41_42 =>
     TakeS Tryd.prog S36 (Instr.loadAt 3 t41_42) (@hid _ ⟨fun t42_43 =>
     TakeO Tryd.prog S36 (nilSem x0) (@hid _ ⟨fun t44_44 =>
     TakeS Tryd.prog S36 (Instr.fieldAt 79 t44_44 1) (@hid _ ⟨fun t45_45 =>
     TakeS Tryd.prog S36 (Instr.loadAt 3 t45_45) (@hid _ ⟨fun t46_46 =>
     BinT Tryd.prog S36 Go.BinOp.add 3 t46_46 t6_1 (@hid _ ⟨fun t48_47 =>
     TakeS Tryd.prog S36 (Instr.sliceAt 32 t38_40 (some t42_43) (some t48_47) none) (@hid _ ⟨fun t49_48 =>
     TakeS Tryd.prog S36 (convert 32 9 t49_48) (@hid _ ⟨fun t50_49 =>
     NilK Tryd.prog x0 (@hid _ ⟨fun t53_50 w51 =>
     FieldAtK Tryd.prog 79 t53_50 1 (@hid _ ⟨fun t54_52 w53 =>
     LoadK Tryd.prog 3 t54_52 (@hid _ ⟨fun t55_54 w55 =>
     BinK Tryd.prog Go.BinOp.add 3 t55_54 t6_1 (@hid _ ⟨fun t57_56 w57 =>
     NilK Tryd.prog x0 (@hid _ ⟨fun t58_58 w59 =>
     FieldAtK Tryd.prog 79 t58_58 1 (@hid _ ⟨fun t59_60 w61 =>
     StoreK Tryd.prog 3 t59_60 t57_56 (@hid _ ⟨fun tu_62 w63 =>
     R t50_49 w63⟩) w61⟩) w59⟩) w57⟩) w55⟩) w53⟩) w51⟩) w37⟩)⟩)⟩)⟩)⟩)⟩)⟩)⟩)⟩)⟩)⟩)⟩)⟩) w20⟩)⟩)⟩)⟩)⟩)⟩)⟩)⟩)⟩)⟩)⟩) w12⟩)⟩) w10⟩)⟩) w8⟩) w6⟩) w4⟩) w2⟩) w0
def a37 : Ann := (.seq .no (.seq .no (.seq (.block (.seq .no (.cond (.seq .no .no) (.seq .no (.cond (.seq .no (.seq .no .no)) (.seq (.plan (.take 0 (.take 1 (.take 2 (.take 3 (.take 4 (.take 5 (.take 6 (.take 7 (.take 8 (.take 9 (.take 10 (.take 11 (.take 12 .done)))))))))))))) (.cond (.seq .no (.seq .no .no)) .no))))))) (.seq (.plan (.take 0 (.take 1 (.take 2 (.take 3 (.take 4 (.take 5 (.take 6 (.take 7 (.take 8 (.take 9 (.take 10 (.take 11 (.take 12 (.take 13 (.take 14 (.take 15 (.take 16 .done)))))))))))))))))) (.seq .no (.seq .no .no))))))
theorem F37_eq (x0 : Value) (R : Value → World → Prop) (w0 : World) : F37 x0 R w0 = vc Tryd.prog (bodyOf Tryd.f37) a37 (retQ Tryd.prog Tryd.f37 R) (envOf 0 [x0]) w0 := by kernel_rfl
theorem F37_calls (x0 : Value) (R : Value → World → Prop) (w0 : World) (h : F37 x0 R w0) : CallK Tryd.prog 37 #[x0] R w0 :=
  calls_vc (c := bodyOf Tryd.f37) Tryd.func37 (by kernel_rfl) (by kernel_rfl) a37 (by kernel_rfl) (by kernel_rfl) [x0] (by rw [Tryd.ntmps37]; exact Nat.le_of_ble_eq_true rfl) w0 R ((F37_eq x0 R w0).mp h)

/-- (*canton/cantonref7.Dec).Left, its body as a formula. -/
def F38 (x0 : Value) (R : Value → World → Prop) (w0 : World) : Prop :=
  NilK Tryd.prog x0 (@hid _ ⟨fun t4_1 w2 =>
  FieldAtK Tryd.prog 79 t4_1 2 (@hid _ ⟨fun t5_3 w4 =>
  LoadK Tryd.prog 3 t5_3 (@hid _ ⟨fun t6_5 w6 =>
  BinK Tryd.prog Go.BinOp.neq 3 t6_5 (Go.Value.int Go.IntKind.i64 0) (@hid _ ⟨fun t7_7 w8 =>
  BrK t7_7 (@hid _ ⟨
   R (Go.Value.int Go.IntKind.i64 0) w8⟩) (@hid _ ⟨
   DrawK (@hid _ ⟨fun S9 w10 =>
   TakeO Tryd.prog S9 (nilSem x0) (@hid _ ⟨fun t9_11 =>
   TakeS Tryd.prog S9 (Instr.fieldAt 79 t9_11 0) (@hid _ ⟨fun t10_12 =>
   TakeS Tryd.prog S9 (Instr.loadAt 32 t10_12) (@hid _ ⟨fun t11_13 =>
   TakeO Tryd.prog S9 (builtin Go.Builtin.len #[32] 3 #[false] #[t11_13]) (@hid _ ⟨fun t12_14 =>
   TakeO Tryd.prog S9 (nilSem x0) (@hid _ ⟨fun t14_15 =>
   TakeS Tryd.prog S9 (Instr.fieldAt 79 t14_15 1) (@hid _ ⟨fun t15_16 =>
   TakeS Tryd.prog S9 (Instr.loadAt 3 t15_16) (@hid _ ⟨fun t16_17 =>
   BinT Tryd.prog S9 Go.BinOp.sub 3 t12_14 t16_17 (@hid _ ⟨fun t17_18 =>
   R t17_18 w10⟩)⟩)⟩)⟩)⟩)⟩)⟩)⟩)⟩) w8⟩)⟩) w6⟩) w4⟩) w2⟩) w0
def a38 : Ann := (.seq .no (.seq (.seq .no (.cond (.seq .no .no) .no)) (.seq (.plan (.take 0 (.take 1 (.take 2 (.take 3 (.take 4 (.take 5 (.take 6 (.take 7 (.take 8 (.take 9 (.take 10 .done)))))))))))) .no)))
theorem F38_eq (x0 : Value) (R : Value → World → Prop) (w0 : World) : F38 x0 R w0 = vc Tryd.prog (bodyOf Tryd.f38) a38 (retQ Tryd.prog Tryd.f38 R) (envOf 0 [x0]) w0 := by kernel_rfl
theorem F38_calls (x0 : Value) (R : Value → World → Prop) (w0 : World) (h : F38 x0 R w0) : CallK Tryd.prog 38 #[x0] R w0 :=
  calls_vc (c := bodyOf Tryd.f38) Tryd.func38 (by kernel_rfl) (by kernel_rfl) a38 (by kernel_rfl) (by kernel_rfl) [x0] (by rw [Tryd.ntmps38]; exact Nat.le_of_ble_eq_true rfl) w0 R ((F38_eq x0 R w0).mp h)

/-- canton/cantonref7.Path, its body as a formula. -/
def F39 (x0 : Value) (R : Value → World → Prop) (w0 : World) : Prop :=
  CallV Tryd.prog (.func (.func 50) #[] #[]) #[x0] (@hid _ ⟨fun t7_1 w2 =>
  ExtractK Tryd.prog t7_1 0 (@hid _ ⟨fun t8_3 w4 =>
  ExtractK Tryd.prog t7_1 1 (@hid _ ⟨fun t9_5 w6 =>
  BinK Tryd.prog Go.BinOp.eql 3 t9_5 (Go.Value.int Go.IntKind.i64 0) (@hid _ ⟨fun t11_7 w8 =>
  R t11_7 w8⟩) w6⟩) w4⟩) w2⟩) w0
def a39 : Ann := (.seq .no (.seq .no (.seq .no .no)))
theorem F39_eq (x0 : Value) (R : Value → World → Prop) (w0 : World) : F39 x0 R w0 = vc Tryd.prog (bodyOf Tryd.f39) a39 (retQ Tryd.prog Tryd.f39 R) (envOf 0 [x0]) w0 := by kernel_rfl
theorem F39_calls (x0 : Value) (R : Value → World → Prop) (w0 : World) (h : F39 x0 R w0) : CallK Tryd.prog 39 #[x0] R w0 :=
  calls_vc (c := bodyOf Tryd.f39) Tryd.func39 (by kernel_rfl) (by kernel_rfl) a39 (by kernel_rfl) (by kernel_rfl) [x0] (by rw [Tryd.ntmps39]; exact Nat.le_of_ble_eq_true rfl) w0 R ((F39_eq x0 R w0).mp h)

/-- canton/path.Parse, its body as a formula. -/
def F40 (x0 : Value) (R : Value → World → Prop) (w0 : World) : Prop :=
  CallV Tryd.prog (.func (.func 51) #[] #[]) #[x0] (@hid _ ⟨fun t8_1 w2 =>
  ExtractK Tryd.prog t8_1 0 (@hid _ ⟨fun t9_3 w4 =>
  ExtractK Tryd.prog t8_1 1 (@hid _ ⟨fun t10_5 w6 =>
  UnK Tryd.prog Go.UnOp.not t10_5 (@hid _ ⟨fun t13_7 w8 =>
  GuardK t13_7 false (fun k w => k t9_3 w) (@hid _ ⟨fun t15_9 w10 =>
  GuardK t13_7 false (fun k w => CallV Tryd.prog (.func (.func 52) #[] #[]) #[t15_9, (.func (.func 53) #[] #[])] k w) (@hid _ ⟨fun t16_11 w12 =>
  PickK Tryd.prog t13_7 (Go.Value.bool true) t16_11 (@hid _ ⟨fun t17_13 w14 =>
  BrK t17_13 (@hid _ ⟨
   R (.tuple #[(Go.Value.slice none 0 0), (Go.Value.int Go.IntKind.i64 2)]) w14⟩) (@hid _ ⟨
   BuiltinK Tryd.prog Go.Builtin.len #[22] 3 #[false] #[t9_3] (@hid _ ⟨fun t20_15 w16 =>
   BinK Tryd.prog Go.BinOp.gtr 3 t20_15 (Go.Value.int Go.IntKind.i64 4) (@hid _ ⟨fun t21_17 w18 =>
   BrK t21_17 (@hid _ ⟨
    R (.tuple #[(Go.Value.slice none 0 0), (Go.Value.int Go.IntKind.i64 4)]) w18⟩) (@hid _ ⟨
    R (.tuple #[t9_3, (Go.Value.int Go.IntKind.i64 0)]) w18⟩)⟩) w16⟩) w14⟩)⟩) w12⟩) w10⟩) w8⟩) w6⟩) w4⟩) w2⟩) w0
def a40 : Ann := (.seq .no (.seq .no (.seq (.block (.seq .no (.cond (.seq .no .no) (.seq .no (.cond (.seq .no .no) .no))))) (.seq .no .no))))
theorem F40_eq (x0 : Value) (R : Value → World → Prop) (w0 : World) : F40 x0 R w0 = vc Tryd.prog (bodyOf Tryd.f40) a40 (retQ Tryd.prog Tryd.f40 R) (envOf 0 [x0]) w0 := by kernel_rfl
theorem F40_calls (x0 : Value) (R : Value → World → Prop) (w0 : World) (h : F40 x0 R w0) : CallK Tryd.prog 40 #[x0] R w0 :=
  calls_vc (c := bodyOf Tryd.f40) Tryd.func40 (by kernel_rfl) (by kernel_rfl) a40 (by kernel_rfl) (by kernel_rfl) [x0] (by rw [Tryd.ntmps40]; exact Nat.le_of_ble_eq_true rfl) w0 R ((F40_eq x0 R w0).mp h)

/-- (*canton/sorted.Map[string, int64]).find, its body as a formula. -/
def F41 (x0 x1 : Value) (R : Value → World → Prop) (w0 : World) : Prop :=
  NilK Tryd.prog x0 (@hid _ ⟨fun t7_1 w2 =>
  FieldAtK Tryd.prog 84 t7_1 0 (@hid _ ⟨fun t8_3 w4 =>
  LoadK Tryd.prog 82 t8_3 (@hid _ ⟨fun t9_5 w6 =>
  CallV Tryd.prog (.func (.func 55) #[] #[]) #[t9_5, x1, (.func (.func 56) #[] #[])] (@hid _ ⟨fun t11_7 w8 =>
  ExtractK Tryd.prog t11_7 0 (@hid _ ⟨fun t12_9 w10 =>
  ExtractK Tryd.prog t11_7 1 (@hid _ ⟨fun t13_11 w12 =>
  R (.tuple #[t12_9, t13_11]) w12⟩) w10⟩) w8⟩) w6⟩) w4⟩) w2⟩) w0
def a41 : Ann := (.seq .no (.seq .no .no))
theorem F41_eq (x0 x1 : Value) (R : Value → World → Prop) (w0 : World) : F41 x0 x1 R w0 = vc Tryd.prog (bodyOf Tryd.f41) a41 (retQ Tryd.prog Tryd.f41 R) (envOf 0 [x0, x1]) w0 := by kernel_rfl
theorem F41_calls (x0 x1 : Value) (R : Value → World → Prop) (w0 : World) (h : F41 x0 x1 R w0) : CallK Tryd.prog 41 #[x0, x1] R w0 :=
  calls_vc (c := bodyOf Tryd.f41) Tryd.func41 (by kernel_rfl) (by kernel_rfl) a41 (by kernel_rfl) (by kernel_rfl) [x0, x1] (by rw [Tryd.ntmps41]; exact Nat.le_of_ble_eq_true rfl) w0 R ((F41_eq x0 x1 R w0).mp h)

/-- slices.Insert[[]canton/sorted.pair[string, int64],canton/sorted.pair[string, int64]], its body as a formula. -/
def F42 (x0 x1 x2 : Value) (R : Value → World → Prop) (w0 : World) : Prop :=
  SliceK Tryd.prog 82 x0 (some x1) none none (@hid _ ⟨fun t12_1 w2 =>
  BuiltinK Tryd.prog Go.Builtin.len #[82] 3 #[false] #[x2] (@hid _ ⟨fun t14_3 w4 =>
  BinK Tryd.prog Go.BinOp.eql 3 t14_3 (Go.Value.int Go.IntKind.i64 0) (@hid _ ⟨fun t16_5 w6 =>
  BrK t16_5 (@hid _ ⟨
   R x0 w6⟩) (@hid _ ⟨
   BuiltinK Tryd.prog Go.Builtin.len #[82] 3 #[false] #[x0] (@hid _ ⟨fun t19_7 w8 =>
   BinK Tryd.prog Go.BinOp.eql 3 x1 t19_7 (@hid _ ⟨fun t22_9 w10 =>
   BrK t22_9 (@hid _ ⟨
    BuiltinK Tryd.prog Go.Builtin.append #[82, 82] 82 #[false, false] #[x0, x2] (@hid _ ⟨fun t25_11 w12 =>
    R t25_11 w12⟩) w10⟩) (@hid _ ⟨
    BinK Tryd.prog Go.BinOp.add 3 t19_7 t14_3 (@hid _ ⟨fun t28_13 w14 =>
    BuiltinK Tryd.prog Go.Builtin.cap #[82] 3 #[false] #[x0] (@hid _ ⟨fun t30_15 w16 =>
    BinK Tryd.prog Go.BinOp.gtr 3 t28_13 t30_15 (@hid _ ⟨fun t31_17 w18 =>
    BrK t31_17 (@hid _ ⟨
     SliceK Tryd.prog 82 x0 none (some x1) none (@hid _ ⟨fun t34_19 w20 =>
     BinK Tryd.prog Go.BinOp.add 3 t19_7 t14_3 (@hid _ ⟨fun t37_21 w22 =>
     BinK Tryd.prog Go.BinOp.sub 3 t37_21 x1 (@hid _ ⟨fun t39_23 w24 =>
     BuiltinK Tryd.prog Go.Builtin.append #[82, 3] 82 #[false, false] #[t34_19, t39_23] (@hid _ ⟨fun t40_25 w26 =>
     SliceK Tryd.prog 82 t40_25 (some x1) none none (@hid _ ⟨fun t43_27 w28 =>
     BuiltinK Tryd.prog Go.Builtin.copy #[82, 82] 3 #[false, false] #[t43_27, x2] (@hid _ ⟨fun t45_29 w30 =>
     DrawK (@hid _ ⟨fun S31 w32 =>
     BinT Tryd.prog S31 Go.BinOp.add 3 x1 t14_3 (@hid _ ⟨fun t49_33 =>
     TakeS Tryd.prog S31 (Instr.sliceAt 82 t40_25 (some t49_33) none none) (@hid _ ⟨fun t50_34 =>
     TakeS Tryd.prog S31 (Instr.sliceAt 82 x0 (some x1) none none) (@hid _ ⟨fun t53_35 =>
     (BuiltinK Tryd.prog Go.Builtin.copy #[82, 82] 3 #[false, false] #[t50_34, t53_35] (@hid _ ⟨fun t54_36 w37 =>
     S31 w37 ∧
     R t40_25 w37⟩) w32) ∧
     True⟩)⟩)⟩)⟩) w30⟩) w28⟩) w26⟩) w24⟩) w22⟩) w20⟩) w18⟩) (@hid _ ⟨
     BinK Tryd.prog Go.BinOp.add 3 t19_7 t14_3 (@hid _ ⟨fun t59_38 w39 =>
     SliceK Tryd.prog 82 x0 none (some t59_38) none (@hid _ ⟨fun t60_40 w41 =>
     BinK Tryd.prog Go.BinOp.add 3 x1 t14_3 (@hid _ ⟨fun t65_42 w43 =>
     SliceK Tryd.prog 82 t60_40 (some t65_42) none none (@hid _ ⟨fun t66_44 w45 =>
     CallV Tryd.prog (.func (.func 58) #[] #[]) #[x2, t66_44] (@hid _ ⟨fun t67_46 w47 =>
     UnK Tryd.prog Go.UnOp.not t67_46 (@hid _ ⟨fun t68_48 w49 =>
     BrK t68_48 (@hid _ ⟨
      DrawK (@hid _ ⟨fun S50 w51 =>
      BinT Tryd.prog S50 Go.BinOp.add 3 x1 t14_3 (@hid _ ⟨fun t72_52 =>
      TakeS Tryd.prog S50 (Instr.sliceAt 82 t60_40 (some t72_52) none none) (@hid _ ⟨fun t73_53 =>
      TakeS Tryd.prog S50 (Instr.sliceAt 82 t60_40 (some x1) none none) (@hid _ ⟨fun t76_54 =>
      (BuiltinK Tryd.prog Go.Builtin.copy #[82, 82] 3 #[false, false] #[t73_53, t76_54] (@hid _ ⟨fun t77_55 w56 =>
      S50 w56 ∧
      SliceK Tryd.prog 82 t60_40 (some x1) none none (@hid _ ⟨fun t80_57 w58 =>
      BuiltinK Tryd.prog Go.Builtin.copy #[82, 82] 3 #[false, false] #[t80_57, x2] (@hid _ ⟨fun t82_59 w60 =>
      R t60_40 w60⟩) w58⟩) w56⟩) w51) ∧
      True⟩)⟩)⟩)⟩) w49⟩) (@hid _ ⟨
      SliceK Tryd.prog 82 t60_40 (some t19_7) none none (@hid _ ⟨fun t86_61 w62 =>
      BuiltinK Tryd.prog Go.Builtin.copy #[82, 82] 3 #[false, false] #[t86_61, x2] (@hid _ ⟨fun t88_63 w64 =>
      SliceK Tryd.prog 82 t60_40 (some x1) none none (@hid _ ⟨fun t91_65 w66 =>
      CallV Tryd.prog (.func (.func 59) #[] #[]) #[t91_65, t14_3] (@hid _ ⟨fun t93_67 w68 =>
      R t60_40 w68⟩) w66⟩) w64⟩) w62⟩) w49⟩)⟩) w47⟩) w45⟩) w43⟩) w41⟩) w39⟩) w18⟩)⟩) w16⟩) w14⟩) w10⟩)⟩) w8⟩) w6⟩)⟩) w4⟩) w2⟩) w0
def a42 : Ann := (.seq .no (.seq .no (.seq .no (.seq (.seq .no (.cond (.seq .no .no) .no)) (.seq .no (.seq (.seq .no (.cond (.seq .no .no) .no)) (.seq (.seq .no (.cond (.seq .no (.seq .no (.seq (.plan (.take 0 (.take 1 (.take 2 (.take 3 (.take 4 (.take 5 (.take 6 (.take 7 (.alt 8 .done .nil)))))))))) (.seq .no .no)))) .no)) (.seq .no (.seq (.seq .no (.cond (.seq (.plan (.take 0 (.take 1 (.take 2 (.take 3 (.take 4 (.take 5 (.take 6 (.take 7 (.alt 8 .done .nil)))))))))) (.seq .no (.seq .no .no))) .no)) (.seq .no (.seq .no (.seq .no .no))))))))))))
theorem F42_eq (x0 x1 x2 : Value) (R : Value → World → Prop) (w0 : World) : F42 x0 x1 x2 R w0 = vc Tryd.prog (bodyOf Tryd.f42) a42 (retQ Tryd.prog Tryd.f42 R) (envOf 0 [x0, x1, x2]) w0 := by kernel_rfl
theorem F42_calls (x0 x1 x2 : Value) (R : Value → World → Prop) (w0 : World) (h : F42 x0 x1 x2 R w0) : CallK Tryd.prog 42 #[x0, x1, x2] R w0 :=
  calls_vc (c := bodyOf Tryd.f42) Tryd.func42 (by kernel_rfl) (by kernel_rfl) a42 (by kernel_rfl) (by kernel_rfl) [x0, x1, x2] (by rw [Tryd.ntmps42]; exact Nat.le_of_ble_eq_true rfl) w0 R ((F42_eq x0 x1 x2 R w0).mp h)

/-- slices.Clone[[]byte,byte], its body as a formula. -/
def F43 (x0 : Value) (R : Value → World → Prop) (w0 : World) : Prop :=
  BinK Tryd.prog Go.BinOp.eql 32 x0 (Go.Value.slice none 0 0) (@hid _ ⟨fun t4_1 w2 =>
  BrK t4_1 (@hid _ ⟨
   R (Go.Value.slice none 0 0) w2⟩) (@hid _ ⟨
   BuildSliceK Tryd.prog 32 0 #[] (@hid _ ⟨fun t5_3 w4 =>
   BuiltinK Tryd.prog Go.Builtin.append #[32, 32] 32 #[false, false] #[t5_3, x0] (@hid _ ⟨fun t7_5 w6 =>
   R t7_5 w6⟩) w4⟩) w2⟩)⟩) w0
def a43 : Ann := (.seq .no (.seq (.seq .no (.cond (.seq .no .no) .no)) (.seq .no .no)))
theorem F43_eq (x0 : Value) (R : Value → World → Prop) (w0 : World) : F43 x0 R w0 = vc Tryd.prog (bodyOf Tryd.f43) a43 (retQ Tryd.prog Tryd.f43 R) (envOf 0 [x0]) w0 := by kernel_rfl
theorem F43_calls (x0 : Value) (R : Value → World → Prop) (w0 : World) (h : F43 x0 R w0) : CallK Tryd.prog 43 #[x0] R w0 :=
  calls_vc (c := bodyOf Tryd.f43) Tryd.func43 (by kernel_rfl) (by kernel_rfl) a43 (by kernel_rfl) (by kernel_rfl) [x0] (by rw [Tryd.ntmps43]; exact Nat.le_of_ble_eq_true rfl) w0 R ((F43_eq x0 R w0).mp h)

/-- canton/codec.sum, its body as a formula. -/
def F44 (x0 : Value) (R : Value → World → Prop) (w0 : World) : Prop :=
  BuiltinK Tryd.prog Go.Builtin.len #[32] 3 #[false] #[x0] (@hid _ ⟨fun t8_1 w2 =>
  LoopK2 (Go.Value.int Go.IntKind.u32 4294967295) (Go.Value.int Go.IntKind.i64 0) w2 (@hid _ ⟨fun _ x3_3 x9_4 w5 B6 =>
   BinK Tryd.prog Go.BinOp.lss 3 x9_4 t8_1 (@hid _ ⟨fun t10_7 w8 =>
   BrK t10_7 (@hid _ ⟨
    IndexAtK Tryd.prog 32 x0 x9_4 (@hid _ ⟨fun t11_9 w10 =>
    LoadK Tryd.prog 5 t11_9 (@hid _ ⟨fun t12_11 w12 =>
    ConvK Tryd.prog 5 72 t12_11 (@hid _ ⟨fun t15_13 w14 =>
    BinK Tryd.prog Go.BinOp.xor 72 x3_3 t15_13 (@hid _ ⟨fun t16_15 w16 =>
    LoopK2 t16_15 (Go.Value.int Go.IntKind.i64 0) w16 (@hid _ ⟨fun _ x3_17 x17_18 w19 B20 =>
     BinK Tryd.prog Go.BinOp.lss 3 x17_18 (Go.Value.int Go.IntKind.i64 8) (@hid _ ⟨fun t18_21 w22 =>
     BrK t18_21 (@hid _ ⟨
      BinK Tryd.prog Go.BinOp.and 72 x3_17 (Go.Value.int Go.IntKind.u32 1) (@hid _ ⟨fun t20_23 w24 =>
      BinK Tryd.prog Go.BinOp.shr 72 x3_17 (Go.Value.int Go.IntKind.u64 1) (@hid _ ⟨fun t22_25 w26 =>
      BinK Tryd.prog Go.BinOp.eql 72 t20_23 (Go.Value.int Go.IntKind.u32 1) (@hid _ ⟨fun t24_27 w28 =>
      BrK t24_27 (@hid _ ⟨
       BinK Tryd.prog Go.BinOp.xor 72 t22_25 (Go.Value.int Go.IntKind.u32 3988292384) (@hid _ ⟨fun t26_29 w30 =>
       BinK Tryd.prog Go.BinOp.add 3 x17_18 (Go.Value.int Go.IntKind.i64 1) (@hid _ ⟨fun t27_31 w32 =>
       B20 t26_29 t27_31 w32⟩) w30⟩) w28⟩) (@hid _ ⟨
       BinK Tryd.prog Go.BinOp.add 3 x17_18 (Go.Value.int Go.IntKind.i64 1) (@hid _ ⟨fun t27_33 w34 =>
       B20 t22_25 t27_33 w34⟩) w28⟩)⟩) w26⟩) w24⟩) w22⟩) (@hid _ ⟨
      BinK Tryd.prog Go.BinOp.add 3 x9_4 (Go.Value.int Go.IntKind.i64 1) (@hid _ ⟨fun t28_35 w36 =>
      B6 x3_17 t28_35 w36⟩) w22⟩)⟩) w19⟩)⟩) w14⟩) w12⟩) w10⟩) w8⟩) (@hid _ ⟨
    UnK Tryd.prog Go.UnOp.xor x3_3 (@hid _ ⟨fun t30_37 w38 =>
    R t30_37 w38⟩) w8⟩)⟩) w5⟩)⟩) w0
def a44 : Ann := (.seq .no (.seq .no (.seq (.seq .no (.block (.loop [3, 9] [(5, 6), (10, 28)] (.seq .no (.seq (.cond .no .no) (.seq (.block (.seq .no (.seq .no (.seq .no (.block (.loop [3, 17] [(6, 6), (18, 27)] (.seq .no (.seq (.cond .no .no) (.seq (.block (.seq .no (.seq .no (.seq .no (.cond .no .no))))) .no))))))))) .no)))))) (.seq .no .no))))
theorem F44_eq (x0 : Value) (R : Value → World → Prop) (w0 : World) : F44 x0 R w0 = vc Tryd.prog (bodyOf Tryd.f44) a44 (retQ Tryd.prog Tryd.f44 R) (envOf 0 [x0]) w0 := by kernel_rfl
theorem F44_calls (x0 : Value) (R : Value → World → Prop) (w0 : World) (h : F44 x0 R w0) : CallK Tryd.prog 44 #[x0] R w0 :=
  calls_vc (c := bodyOf Tryd.f44) Tryd.func44 (by kernel_rfl) (by kernel_rfl) a44 (by kernel_rfl) (by kernel_rfl) [x0] (by rw [Tryd.ntmps44]; exact Nat.le_of_ble_eq_true rfl) w0 R ((F44_eq x0 R w0).mp h)

/-- slices.Clip[[]byte,byte], its body as a formula. -/
def F45 (x0 : Value) (R : Value → World → Prop) (w0 : World) : Prop :=
  BuiltinK Tryd.prog Go.Builtin.len #[32] 3 #[false] #[x0] (@hid _ ⟨fun t5_1 w2 =>
  BuiltinK Tryd.prog Go.Builtin.len #[32] 3 #[false] #[x0] (@hid _ ⟨fun t7_3 w4 =>
  SliceK Tryd.prog 32 x0 none (some t5_1) (some t7_3) (@hid _ ⟨fun t8_5 w6 =>
  R t8_5 w6⟩) w4⟩) w2⟩) w0
def a45 : Ann := (.seq .no (.seq .no .no))
theorem F45_eq (x0 : Value) (R : Value → World → Prop) (w0 : World) : F45 x0 R w0 = vc Tryd.prog (bodyOf Tryd.f45) a45 (retQ Tryd.prog Tryd.f45 R) (envOf 0 [x0]) w0 := by kernel_rfl
theorem F45_calls (x0 : Value) (R : Value → World → Prop) (w0 : World) (h : F45 x0 R w0) : CallK Tryd.prog 45 #[x0] R w0 :=
  calls_vc (c := bodyOf Tryd.f45) Tryd.func45 (by kernel_rfl) (by kernel_rfl) a45 (by kernel_rfl) (by kernel_rfl) [x0] (by rw [Tryd.ntmps45]; exact Nat.le_of_ble_eq_true rfl) w0 R ((F45_eq x0 R w0).mp h)

/-- (*canton/codec.Dec).Int, its body as a formula. -/
def F46 (x0 : Value) (R : Value → World → Prop) (w0 : World) : Prop :=
  NilK Tryd.prog x0 (@hid _ ⟨fun t6_1 w2 =>
  FieldAtK Tryd.prog 99 t6_1 1 (@hid _ ⟨fun t7_3 w4 =>
  LoadK Tryd.prog 29 t7_3 (@hid _ ⟨fun t8_5 w6 =>
  BinK Tryd.prog Go.BinOp.neq 29 t8_5 (Go.Value.int Go.IntKind.i64 0) (@hid _ ⟨fun t9_7 w8 =>
  BrK t9_7 (@hid _ ⟨
   R (Go.Value.int Go.IntKind.i64 0) w8⟩) (@hid _ ⟨
   CallV Tryd.prog (.func (.func 60) #[] #[]) #[x0] (@hid _ ⟨fun t12_9 w10 =>
   ExtractK Tryd.prog t12_9 0 (@hid _ ⟨fun t13_11 w12 =>
   ExtractK Tryd.prog t12_9 1 (@hid _ ⟨fun t14_13 w14 =>
   BinK Tryd.prog Go.BinOp.neq 29 t14_13 (Go.Value.int Go.IntKind.i64 0) (@hid _ ⟨fun t16_15 w16 =>
   BrK t16_15 (@hid _ ⟨
    NilK Tryd.prog x0 (@hid _ ⟨fun t19_17 w18 =>
    FieldAtK Tryd.prog 99 t19_17 1 (@hid _ ⟨fun t20_19 w20 =>
    StoreK Tryd.prog 29 t20_19 t14_13 (@hid _ ⟨fun tu_21 w22 =>
    R (Go.Value.int Go.IntKind.i64 0) w22⟩) w20⟩) w18⟩) w16⟩) (@hid _ ⟨
    BinK Tryd.prog Go.BinOp.shr 93 t13_11 (Go.Value.int Go.IntKind.u64 1) (@hid _ ⟨fun t22_23 w24 =>
    ConvK Tryd.prog 93 2 t22_23 (@hid _ ⟨fun t23_25 w26 =>
    BinK Tryd.prog Go.BinOp.and 93 t13_11 (Go.Value.int Go.IntKind.u64 1) (@hid _ ⟨fun t25_27 w28 =>
    ConvK Tryd.prog 93 2 t25_27 (@hid _ ⟨fun t26_29 w30 =>
    UnK Tryd.prog Go.UnOp.neg t26_29 (@hid _ ⟨fun t27_31 w32 =>
    BinK Tryd.prog Go.BinOp.xor 2 t23_25 t27_31 (@hid _ ⟨fun t28_33 w34 =>
    R t28_33 w34⟩) w32⟩) w30⟩) w28⟩) w26⟩) w24⟩) w16⟩)⟩) w14⟩) w12⟩) w10⟩) w8⟩)⟩) w6⟩) w4⟩) w2⟩) w0
def a46 : Ann := (.seq .no (.seq (.seq .no (.cond (.seq .no .no) .no)) (.seq .no (.seq (.seq .no (.cond (.seq .no (.seq .no .no)) .no)) (.seq .no .no)))))
theorem F46_eq (x0 : Value) (R : Value → World → Prop) (w0 : World) : F46 x0 R w0 = vc Tryd.prog (bodyOf Tryd.f46) a46 (retQ Tryd.prog Tryd.f46 R) (envOf 0 [x0]) w0 := by kernel_rfl
theorem F46_calls (x0 : Value) (R : Value → World → Prop) (w0 : World) (h : F46 x0 R w0) : CallK Tryd.prog 46 #[x0] R w0 :=
  calls_vc (c := bodyOf Tryd.f46) Tryd.func46 (by kernel_rfl) (by kernel_rfl) a46 (by kernel_rfl) (by kernel_rfl) [x0] (by rw [Tryd.ntmps46]; exact Nat.le_of_ble_eq_true rfl) w0 R ((F46_eq x0 R w0).mp h)

/-- (*canton/codec.Dec).Err, its body as a formula. -/
def F47 (x0 : Value) (R : Value → World → Prop) (w0 : World) : Prop :=
  NilK Tryd.prog x0 (@hid _ ⟨fun t4_1 w2 =>
  FieldAtK Tryd.prog 99 t4_1 1 (@hid _ ⟨fun t5_3 w4 =>
  LoadK Tryd.prog 29 t5_3 (@hid _ ⟨fun t6_5 w6 =>
  R t6_5 w6⟩) w4⟩) w2⟩) w0
def a47 : Ann := (.seq .no (.seq .no .no))
theorem F47_eq (x0 : Value) (R : Value → World → Prop) (w0 : World) : F47 x0 R w0 = vc Tryd.prog (bodyOf Tryd.f47) a47 (retQ Tryd.prog Tryd.f47 R) (envOf 0 [x0]) w0 := by kernel_rfl
theorem F47_calls (x0 : Value) (R : Value → World → Prop) (w0 : World) (h : F47 x0 R w0) : CallK Tryd.prog 47 #[x0] R w0 :=
  calls_vc (c := bodyOf Tryd.f47) Tryd.func47 (by kernel_rfl) (by kernel_rfl) a47 (by kernel_rfl) (by kernel_rfl) [x0] (by rw [Tryd.ntmps47]; exact Nat.le_of_ble_eq_true rfl) w0 R ((F47_eq x0 R w0).mp h)

/-- (*canton/codec.Dec).Text, its body as a formula. -/
def F48 (x0 : Value) (R : Value → World → Prop) (w0 : World) : Prop :=
  CallV Tryd.prog (.func (.func 46) #[] #[]) #[x0] (@hid _ ⟨fun t6_1 w2 =>
  NilK Tryd.prog x0 (@hid _ ⟨fun t9_3 w4 =>
  FieldAtK Tryd.prog 99 t9_3 1 (@hid _ ⟨fun t10_5 w6 =>
  LoadK Tryd.prog 29 t10_5 (@hid _ ⟨fun t11_7 w8 =>
  BinK Tryd.prog Go.BinOp.neq 29 t11_7 (Go.Value.int Go.IntKind.i64 0) (@hid _ ⟨fun t12_9 w10 =>
  BrK t12_9 (@hid _ ⟨
   R (Go.Value.string { data := #[] }) w10⟩) (@hid _ ⟨
   BinK Tryd.prog Go.BinOp.lss 2 t6_1 (Go.Value.int Go.IntKind.i64 0) (@hid _ ⟨fun t15_11 w12 =>
   BrK t15_11 (@hid _ ⟨
    NilK Tryd.prog x0 (@hid _ ⟨fun t17_13 w14 =>
    FieldAtK Tryd.prog 99 t17_13 1 (@hid _ ⟨fun t18_15 w16 =>
    StoreK Tryd.prog 29 t18_15 (Go.Value.int Go.IntKind.i64 2) (@hid _ ⟨fun tu_17 w18 =>
    R (Go.Value.string { data := #[] }) w18⟩) w16⟩) w14⟩) w12⟩) (@hid _ ⟨
    NilK Tryd.prog x0 (@hid _ ⟨fun t22_19 w20 =>
    FieldAtK Tryd.prog 99 t22_19 0 (@hid _ ⟨fun t23_21 w22 =>
    LoadK Tryd.prog 32 t23_21 (@hid _ ⟨fun t24_23 w24 =>
    BuiltinK Tryd.prog Go.Builtin.len #[32] 3 #[false] #[t24_23] (@hid _ ⟨fun t25_25 w26 =>
    BinK Tryd.prog Go.BinOp.gtr 2 t6_1 t25_25 (@hid _ ⟨fun t26_27 w28 =>
    BrK t26_27 (@hid _ ⟨
     NilK Tryd.prog x0 (@hid _ ⟨fun t28_29 w30 =>
     FieldAtK Tryd.prog 99 t28_29 1 (@hid _ ⟨fun t29_31 w32 =>
     StoreK Tryd.prog 29 t29_31 (Go.Value.int Go.IntKind.i64 3) (@hid _ ⟨fun tu_33 w34 =>
     R (Go.Value.string { data := #[] }) w34⟩) w32⟩) w30⟩) w28⟩) (@hid _ ⟨
     NilK Tryd.prog x0 (@hid _ ⟨fun t31_35 w36 =>
     FieldAtK Tryd.prog 99 t31_35 0 (@hid _ ⟨fun t32_37 w38 =>
     LoadK Tryd.prog 32 t32_37 (@hid _ ⟨fun t33_39 w40 =>
     SliceK Tryd.prog 32 t33_39 none (some t6_1) none (@hid _ ⟨fun t35_41 w42 =>
     ConvK Tryd.prog 32 9 t35_41 (@hid _ ⟨fun t36_43 w44 =>
     NilK Tryd.prog x0 (@hid _ ⟨fun t39_45 w46 =>
     FieldAtK Tryd.prog 99 t39_45 0 (@hid _ ⟨fun t40_47 w48 =>
     LoadK Tryd.prog 32 t40_47 (@hid _ ⟨fun t41_49 w50 =>
     SliceK Tryd.prog 32 t41_49 (some t6_1) none none (@hid _ ⟨fun t43_51 w52 =>
     NilK Tryd.prog x0 (@hid _ ⟨fun t44_53 w54 =>
     FieldAtK Tryd.prog 99 t44_53 0 (@hid _ ⟨fun t45_55 w56 =>
     StoreK Tryd.prog 32 t45_55 t43_51 (@hid _ ⟨fun tu_57 w58 =>
     R t36_43 w58⟩) w56⟩) w54⟩) w52⟩) w50⟩) w48⟩) w46⟩) w44⟩) w42⟩) w40⟩) w38⟩) w36⟩) w28⟩)⟩) w26⟩) w24⟩) w22⟩) w20⟩) w12⟩)⟩) w10⟩)⟩) w8⟩) w6⟩) w4⟩) w2⟩) w0
def a48 : Ann := (.seq .no (.seq .no (.seq (.block (.seq .no (.cond (.seq .no .no) (.seq .no (.cond (.seq .no (.seq .no .no)) (.seq .no (.cond (.seq .no (.seq .no .no)) .no))))))) (.seq .no (.seq .no (.seq .no .no))))))
theorem F48_eq (x0 : Value) (R : Value → World → Prop) (w0 : World) : F48 x0 R w0 = vc Tryd.prog (bodyOf Tryd.f48) a48 (retQ Tryd.prog Tryd.f48 R) (envOf 0 [x0]) w0 := by kernel_rfl
theorem F48_calls (x0 : Value) (R : Value → World → Prop) (w0 : World) (h : F48 x0 R w0) : CallK Tryd.prog 48 #[x0] R w0 :=
  calls_vc (c := bodyOf Tryd.f48) Tryd.func48 (by kernel_rfl) (by kernel_rfl) a48 (by kernel_rfl) (by kernel_rfl) [x0] (by rw [Tryd.ntmps48]; exact Nat.le_of_ble_eq_true rfl) w0 R ((F48_eq x0 R w0).mp h)

/-- (*canton/codec.Dec).Left, its body as a formula. -/
def F49 (x0 : Value) (R : Value → World → Prop) (w0 : World) : Prop :=
  NilK Tryd.prog x0 (@hid _ ⟨fun t4_1 w2 =>
  FieldAtK Tryd.prog 99 t4_1 1 (@hid _ ⟨fun t5_3 w4 =>
  LoadK Tryd.prog 29 t5_3 (@hid _ ⟨fun t6_5 w6 =>
  BinK Tryd.prog Go.BinOp.neq 29 t6_5 (Go.Value.int Go.IntKind.i64 0) (@hid _ ⟨fun t7_7 w8 =>
  BrK t7_7 (@hid _ ⟨
   R (Go.Value.int Go.IntKind.i64 0) w8⟩) (@hid _ ⟨
   NilK Tryd.prog x0 (@hid _ ⟨fun t9_9 w10 =>
   FieldAtK Tryd.prog 99 t9_9 0 (@hid _ ⟨fun t10_11 w12 =>
   LoadK Tryd.prog 32 t10_11 (@hid _ ⟨fun t11_13 w14 =>
   BuiltinK Tryd.prog Go.Builtin.len #[32] 3 #[false] #[t11_13] (@hid _ ⟨fun t12_15 w16 =>
   R t12_15 w16⟩) w14⟩) w12⟩) w10⟩) w8⟩)⟩) w6⟩) w4⟩) w2⟩) w0
def a49 : Ann := (.seq .no (.seq (.seq .no (.cond (.seq .no .no) .no)) (.seq .no .no)))
theorem F49_eq (x0 : Value) (R : Value → World → Prop) (w0 : World) : F49 x0 R w0 = vc Tryd.prog (bodyOf Tryd.f49) a49 (retQ Tryd.prog Tryd.f49 R) (envOf 0 [x0]) w0 := by kernel_rfl
theorem F49_calls (x0 : Value) (R : Value → World → Prop) (w0 : World) (h : F49 x0 R w0) : CallK Tryd.prog 49 #[x0] R w0 :=
  calls_vc (c := bodyOf Tryd.f49) Tryd.func49 (by kernel_rfl) (by kernel_rfl) a49 (by kernel_rfl) (by kernel_rfl) [x0] (by rw [Tryd.ntmps49]; exact Nat.le_of_ble_eq_true rfl) w0 R ((F49_eq x0 R w0).mp h)

/-- canton/cantonref7.Parse, its body as a formula. -/
def F50 (x0 : Value) (R : Value → World → Prop) (w0 : World) : Prop :=
  CallV Tryd.prog (.func (.func 61) #[] #[]) #[x0] (@hid _ ⟨fun t9_1 w2 =>
  ExtractK Tryd.prog t9_1 0 (@hid _ ⟨fun t10_3 w4 =>
  ExtractK Tryd.prog t9_1 1 (@hid _ ⟨fun t11_5 w6 =>
  UnK Tryd.prog Go.UnOp.not t11_5 (@hid _ ⟨fun t13_7 w8 =>
  BrK t13_7 (@hid _ ⟨
   R (.tuple #[(Go.Value.slice none 0 0), (Go.Value.int Go.IntKind.i64 2)]) w8⟩) (@hid _ ⟨
   LoopK1 (Go.Value.int Go.IntKind.i64 0) w8 (@hid _ ⟨fun _ x6_9 w10 B11 =>
    BuiltinK Tryd.prog Go.Builtin.len #[22] 3 #[false] #[t10_3] (@hid _ ⟨fun t16_12 w13 =>
    BinK Tryd.prog Go.BinOp.lss 3 x6_9 t16_12 (@hid _ ⟨fun t17_14 w15 =>
    BrK t17_14 (@hid _ ⟨
     IndexAtK Tryd.prog 22 t10_3 x6_9 (@hid _ ⟨fun t22_16 w17 =>
     LoadK Tryd.prog 9 t22_16 (@hid _ ⟨fun t23_18 w19 =>
     CallV Tryd.prog (.func (.func 62) #[] #[]) #[t23_18] (@hid _ ⟨fun t24_20 w21 =>
     UnK Tryd.prog Go.UnOp.not t24_20 (@hid _ ⟨fun t25_22 w23 =>
     BrK t25_22 (@hid _ ⟨
      R (.tuple #[(Go.Value.slice none 0 0), (Go.Value.int Go.IntKind.i64 2)]) w23⟩) (@hid _ ⟨
      BinK Tryd.prog Go.BinOp.add 3 x6_9 (Go.Value.int Go.IntKind.i64 1) (@hid _ ⟨fun t19_24 w25 =>
      B11 t19_24 w25⟩) w23⟩)⟩) w21⟩) w19⟩) w17⟩) w15⟩) (@hid _ ⟨
     BuiltinK Tryd.prog Go.Builtin.len #[22] 3 #[false] #[t10_3] (@hid _ ⟨fun t27_26 w27 =>
     BinK Tryd.prog Go.BinOp.gtr 3 t27_26 (Go.Value.int Go.IntKind.i64 4) (@hid _ ⟨fun t28_28 w29 =>
     BrK t28_28 (@hid _ ⟨
      R (.tuple #[(Go.Value.slice none 0 0), (Go.Value.int Go.IntKind.i64 4)]) w29⟩) (@hid _ ⟨
      R (.tuple #[t10_3, (Go.Value.int Go.IntKind.i64 0)]) w29⟩)⟩) w27⟩) w15⟩)⟩) w13⟩) w10⟩)⟩)⟩) w6⟩) w4⟩) w2⟩) w0
def a50 : Ann := (.seq .no (.seq .no (.seq (.seq .no (.cond (.seq .no .no) .no)) (.seq (.seq .no (.block (.loop [6] [(2, 3), (14, 25)] (.seq (.seq .no (.cond .no .no)) (.seq (.block (.seq .no (.cond (.seq .no .no) .no))) .no))))) (.seq (.seq .no (.cond (.seq .no .no) .no)) (.seq .no .no))))))
theorem F50_eq (x0 : Value) (R : Value → World → Prop) (w0 : World) : F50 x0 R w0 = vc Tryd.prog (bodyOf Tryd.f50) a50 (retQ Tryd.prog Tryd.f50 R) (envOf 0 [x0]) w0 := by kernel_rfl
theorem F50_calls (x0 : Value) (R : Value → World → Prop) (w0 : World) (h : F50 x0 R w0) : CallK Tryd.prog 50 #[x0] R w0 :=
  calls_vc (c := bodyOf Tryd.f50) Tryd.func50 (by kernel_rfl) (by kernel_rfl) a50 (by kernel_rfl) (by kernel_rfl) [x0] (by rw [Tryd.ntmps50]; exact Nat.le_of_ble_eq_true rfl) w0 R ((F50_eq x0 R w0).mp h)

/-- canton/path.Cut, its body as a formula. -/
def F51 (x0 : Value) (R : Value → World → Prop) (w0 : World) : Prop :=
  CallV Tryd.prog (.func (.func 63) #[] #[]) #[x0, (Go.Value.string { data := #[47] })] (@hid _ ⟨fun t8_1 w2 =>
  ExtractK Tryd.prog t8_1 0 (@hid _ ⟨fun t9_3 w4 =>
  ExtractK Tryd.prog t8_1 1 (@hid _ ⟨fun t10_5 w6 =>
  UnK Tryd.prog Go.UnOp.not t10_5 (@hid _ ⟨fun t12_7 w8 =>
  BrK t12_7 (@hid _ ⟨
   R (.tuple #[(Go.Value.slice none 0 0), (Go.Value.bool false)]) w8⟩) (@hid _ ⟨
   BinK Tryd.prog Go.BinOp.eql 9 t9_3 (Go.Value.string { data := #[] }) (@hid _ ⟨fun t14_9 w10 =>
   BrK t14_9 (@hid _ ⟨
    R (.tuple #[(Go.Value.slice none 0 0), (Go.Value.bool true)]) w10⟩) (@hid _ ⟨
    CallV Tryd.prog (.func (.func 64) #[] #[]) #[t9_3, (Go.Value.string { data := #[47] })] (@hid _ ⟨fun t16_11 w12 =>
    R (.tuple #[t16_11, (Go.Value.bool true)]) w12⟩) w10⟩)⟩) w8⟩)⟩) w6⟩) w4⟩) w2⟩) w0
def a51 : Ann := (.seq .no (.seq .no (.seq (.seq .no (.cond (.seq .no .no) .no)) (.seq (.seq .no (.cond (.seq .no .no) .no)) (.seq .no .no)))))
theorem F51_eq (x0 : Value) (R : Value → World → Prop) (w0 : World) : F51 x0 R w0 = vc Tryd.prog (bodyOf Tryd.f51) a51 (retQ Tryd.prog Tryd.f51 R) (envOf 0 [x0]) w0 := by kernel_rfl
theorem F51_calls (x0 : Value) (R : Value → World → Prop) (w0 : World) (h : F51 x0 R w0) : CallK Tryd.prog 51 #[x0] R w0 :=
  calls_vc (c := bodyOf Tryd.f51) Tryd.func51 (by kernel_rfl) (by kernel_rfl) a51 (by kernel_rfl) (by kernel_rfl) [x0] (by rw [Tryd.ntmps51]; exact Nat.le_of_ble_eq_true rfl) w0 R ((F51_eq x0 R w0).mp h)

/-- slices.ContainsFunc[[]string,string], its body as a formula. -/
def F52 (x0 x1 : Value) (R : Value → World → Prop) (w0 : World) : Prop :=
  CallV Tryd.prog (.func (.func 65) #[] #[]) #[x0, x1] (@hid _ ⟨fun t7_1 w2 =>
  BinK Tryd.prog Go.BinOp.geq 3 t7_1 (Go.Value.int Go.IntKind.i64 0) (@hid _ ⟨fun t8_3 w4 =>
  R t8_3 w4⟩) w2⟩) w0
def a52 : Ann := (.seq .no (.seq .no .no))
theorem F52_eq (x0 x1 : Value) (R : Value → World → Prop) (w0 : World) : F52 x0 x1 R w0 = vc Tryd.prog (bodyOf Tryd.f52) a52 (retQ Tryd.prog Tryd.f52 R) (envOf 0 [x0, x1]) w0 := by kernel_rfl
theorem F52_calls (x0 x1 : Value) (R : Value → World → Prop) (w0 : World) (h : F52 x0 x1 R w0) : CallK Tryd.prog 52 #[x0, x1] R w0 :=
  calls_vc (c := bodyOf Tryd.f52) Tryd.func52 (by kernel_rfl) (by kernel_rfl) a52 (by kernel_rfl) (by kernel_rfl) [x0, x1] (by rw [Tryd.ntmps52]; exact Nat.le_of_ble_eq_true rfl) w0 R ((F52_eq x0 x1 R w0).mp h)

/-- canton/path.Parse$1, its body as a formula. -/
def F53 (x0 : Value) (R : Value → World → Prop) (w0 : World) : Prop :=
  CallV Tryd.prog (.func (.func 54) #[] #[]) #[x0] (@hid _ ⟨fun t4_1 w2 =>
  UnK Tryd.prog Go.UnOp.not t4_1 (@hid _ ⟨fun t5_3 w4 =>
  R t5_3 w4⟩) w2⟩) w0
def a53 : Ann := (.seq .no (.seq .no .no))
theorem F53_eq (x0 : Value) (R : Value → World → Prop) (w0 : World) : F53 x0 R w0 = vc Tryd.prog (bodyOf Tryd.f53) a53 (retQ Tryd.prog Tryd.f53 R) (envOf 0 [x0]) w0 := by kernel_rfl
theorem F53_calls (x0 : Value) (R : Value → World → Prop) (w0 : World) (h : F53 x0 R w0) : CallK Tryd.prog 53 #[x0] R w0 :=
  calls_vc (c := bodyOf Tryd.f53) Tryd.func53 (by kernel_rfl) (by kernel_rfl) a53 (by kernel_rfl) (by kernel_rfl) [x0] (by rw [Tryd.ntmps53]; exact Nat.le_of_ble_eq_true rfl) w0 R ((F53_eq x0 R w0).mp h)

/-- canton/row.Name, its body as a formula. -/
def F54 (x0 : Value) (R : Value → World → Prop) (w0 : World) : Prop :=
  BinK Tryd.prog Go.BinOp.eql 9 x0 (Go.Value.string { data := #[] }) (@hid _ ⟨fun t5_1 w2 =>
  GuardK t5_1 false (fun k w => k x0 w) (@hid _ ⟨fun t7_3 w4 =>
  GuardK t5_1 false (fun k w => BuiltinK Tryd.prog Go.Builtin.len #[9] 3 #[false] #[t7_3] k w) (@hid _ ⟨fun t8_5 w6 =>
  GuardK t5_1 false (fun k w => BinK Tryd.prog Go.BinOp.gtr 3 t8_5 (Go.Value.int Go.IntKind.i64 8) k w) (@hid _ ⟨fun t9_7 w8 =>
  PickK Tryd.prog t5_1 (Go.Value.bool true) t9_7 (@hid _ ⟨fun t10_9 w10 =>
  GuardK t10_9 false (fun k w => k x0 w) (@hid _ ⟨fun t12_11 w12 =>
  GuardK t10_9 false (fun k w => ValK Tryd.prog (Instr.index 9 t12_11 (Go.Value.int Go.IntKind.i64 0)) k w) (@hid _ ⟨fun t13_13 w14 =>
  GuardK t10_9 false (fun k w => BinK Tryd.prog Go.BinOp.lss 5 t13_13 (Go.Value.int Go.IntKind.u8 97) k w) (@hid _ ⟨fun t14_15 w16 =>
  PickK Tryd.prog t10_9 (Go.Value.bool true) t14_15 (@hid _ ⟨fun t15_17 w18 =>
  BrK t15_17 (@hid _ ⟨
   R (Go.Value.bool false) w18⟩) (@hid _ ⟨
   BuiltinK Tryd.prog Go.Builtin.len #[9] 3 #[false] #[x0] (@hid _ ⟨fun t17_19 w20 =>
   LoopK1 (Go.Value.int Go.IntKind.i64 0) w20 (@hid _ ⟨fun _ x18_21 w22 B23 =>
    BinK Tryd.prog Go.BinOp.lss 3 x18_21 t17_19 (@hid _ ⟨fun t19_24 w25 =>
    BrK t19_24 (@hid _ ⟨
     ValK Tryd.prog (Instr.index 9 x0 x18_21) (@hid _ ⟨fun t23_26 w27 =>
     BinK Tryd.prog Go.BinOp.lss 5 t23_26 (Go.Value.int Go.IntKind.u8 97) (@hid _ ⟨fun t24_28 w29 =>
     GuardK t24_28 false (fun k w => k x0 w) (@hid _ ⟨fun t26_30 w31 =>
     GuardK t24_28 false (fun k w => k x18_21 w) (@hid _ ⟨fun t27_32 w33 =>
     GuardK t24_28 false (fun k w => ValK Tryd.prog (Instr.index 9 t26_30 t27_32) k w) (@hid _ ⟨fun t28_34 w35 =>
     GuardK t24_28 false (fun k w => BinK Tryd.prog Go.BinOp.gtr 5 t28_34 (Go.Value.int Go.IntKind.u8 122) k w) (@hid _ ⟨fun t29_36 w37 =>
     PickK Tryd.prog t24_28 (Go.Value.bool true) t29_36 (@hid _ ⟨fun t30_38 w39 =>
     GuardK t30_38 true (fun k w => k x0 w) (@hid _ ⟨fun t32_40 w41 =>
     GuardK t30_38 true (fun k w => k x18_21 w) (@hid _ ⟨fun t33_42 w43 =>
     GuardK t30_38 true (fun k w => ValK Tryd.prog (Instr.index 9 t32_40 t33_42) k w) (@hid _ ⟨fun t34_44 w45 =>
     GuardK t30_38 true (fun k w => BinK Tryd.prog Go.BinOp.lss 5 t34_44 (Go.Value.int Go.IntKind.u8 48) k w) (@hid _ ⟨fun t35_46 w47 =>
     GuardK t30_38 true (fun k w => k t35_46 w) (@hid _ ⟨fun t36_48 w49 =>
     GuardK t36_48 false (fun k w => k x0 w) (@hid _ ⟨fun t37_50 w51 =>
     GuardK t36_48 false (fun k w => k x18_21 w) (@hid _ ⟨fun t38_52 w53 =>
     GuardK t36_48 false (fun k w => ValK Tryd.prog (Instr.index 9 t37_50 t38_52) k w) (@hid _ ⟨fun t39_54 w55 =>
     GuardK t36_48 false (fun k w => BinK Tryd.prog Go.BinOp.gtr 5 t39_54 (Go.Value.int Go.IntKind.u8 57) k w) (@hid _ ⟨fun t40_56 w57 =>
     GuardK t30_38 true (fun k w => PickK Tryd.prog t36_48 (Go.Value.bool true) t40_56 k w) (@hid _ ⟨fun t41_58 w59 =>
     PickK Tryd.prog t30_38 t41_58 (Go.Value.bool false) (@hid _ ⟨fun t42_60 w61 =>
     BrK t42_60 (@hid _ ⟨
      R (Go.Value.bool false) w61⟩) (@hid _ ⟨
      BinK Tryd.prog Go.BinOp.add 3 x18_21 (Go.Value.int Go.IntKind.i64 1) (@hid _ ⟨fun t43_62 w63 =>
      B23 t43_62 w63⟩) w61⟩)⟩) w59⟩) w57⟩) w55⟩) w53⟩) w51⟩) w49⟩) w47⟩) w45⟩) w43⟩) w41⟩) w39⟩) w37⟩) w35⟩) w33⟩) w31⟩) w29⟩) w27⟩) w25⟩) (@hid _ ⟨
     R (Go.Value.bool true) w25⟩)⟩) w22⟩)⟩) w18⟩)⟩) w16⟩) w14⟩) w12⟩) w10⟩) w8⟩) w6⟩) w4⟩) w2⟩) w0
def a54 : Ann := (.seq .no (.seq (.seq .no (.cond (.seq .no .no) .no)) (.seq (.seq .no (.block (.loop [18] [(2, 3), (19, 43)] (.seq .no (.seq (.cond .no .no) (.seq (.block (.seq .no (.seq .no (.cond (.seq .no .no) .no)))) .no)))))) (.seq .no .no))))
theorem F54_eq (x0 : Value) (R : Value → World → Prop) (w0 : World) : F54 x0 R w0 = vc Tryd.prog (bodyOf Tryd.f54) a54 (retQ Tryd.prog Tryd.f54 R) (envOf 0 [x0]) w0 := by kernel_rfl
theorem F54_calls (x0 : Value) (R : Value → World → Prop) (w0 : World) (h : F54 x0 R w0) : CallK Tryd.prog 54 #[x0] R w0 :=
  calls_vc (c := bodyOf Tryd.f54) Tryd.func54 (by kernel_rfl) (by kernel_rfl) a54 (by kernel_rfl) (by kernel_rfl) [x0] (by rw [Tryd.ntmps54]; exact Nat.le_of_ble_eq_true rfl) w0 R ((F54_eq x0 R w0).mp h)

/-- slices.BinarySearchFunc[[]canton/sorted.pair[string, int64],canton/sorted.pair[string, int64],string], its body as a formula. -/
def F55 (x0 x1 x2 : Value) (R : Value → World → Prop) (w0 : World) : Prop :=
  BuiltinK Tryd.prog Go.Builtin.len #[82] 3 #[false] #[x0] (@hid _ ⟨fun t13_1 w2 =>
  LoopK2 (Go.Value.int Go.IntKind.i64 0) t13_1 w2 (@hid _ ⟨fun _ x9_3 x10_4 w5 B6 =>
   BinK Tryd.prog Go.BinOp.lss 3 x9_3 x10_4 (@hid _ ⟨fun t17_7 w8 =>
   BrK t17_7 (@hid _ ⟨
    BinK Tryd.prog Go.BinOp.add 3 x9_3 x10_4 (@hid _ ⟨fun t20_9 w10 =>
    ConvK Tryd.prog 3 74 t20_9 (@hid _ ⟨fun t21_11 w12 =>
    BinK Tryd.prog Go.BinOp.shr 74 t21_11 (Go.Value.int Go.IntKind.u64 1) (@hid _ ⟨fun t22_13 w14 =>
    ConvK Tryd.prog 74 3 t22_13 (@hid _ ⟨fun t23_15 w16 =>
    IndexAtK Tryd.prog 82 x0 t23_15 (@hid _ ⟨fun t27_17 w18 =>
    LoadK Tryd.prog 90 t27_17 (@hid _ ⟨fun t28_19 w20 =>
    CallV Tryd.prog x2 #[t28_19, x1] (@hid _ ⟨fun t30_21 w22 =>
    BinK Tryd.prog Go.BinOp.lss 3 t30_21 (Go.Value.int Go.IntKind.i64 0) (@hid _ ⟨fun t31_23 w24 =>
    BrK t31_23 (@hid _ ⟨
     BinK Tryd.prog Go.BinOp.add 3 t23_15 (Go.Value.int Go.IntKind.i64 1) (@hid _ ⟨fun t33_25 w26 =>
     B6 t33_25 x10_4 w26⟩) w24⟩) (@hid _ ⟨
     B6 x9_3 t23_15 w24⟩)⟩) w22⟩) w20⟩) w18⟩) w16⟩) w14⟩) w12⟩) w10⟩) w8⟩) (@hid _ ⟨
    BinK Tryd.prog Go.BinOp.lss 3 x9_3 t13_1 (@hid _ ⟨fun t38_27 w28 =>
    GuardK t38_27 true (fun k w => k x2 w) (@hid _ ⟨fun t40_29 w30 =>
    GuardK t38_27 true (fun k w => k x0 w) (@hid _ ⟨fun t41_31 w32 =>
    GuardK t38_27 true (fun k w => k x9_3 w) (@hid _ ⟨fun t42_33 w34 =>
    GuardK t38_27 true (fun k w => IndexAtK Tryd.prog 82 t41_31 t42_33 k w) (@hid _ ⟨fun t43_35 w36 =>
    GuardK t38_27 true (fun k w => LoadK Tryd.prog 90 t43_35 k w) (@hid _ ⟨fun t44_37 w38 =>
    GuardK t38_27 true (fun k w => k x1 w) (@hid _ ⟨fun t45_39 w40 =>
    GuardK t38_27 true (fun k w => CallV Tryd.prog t40_29 #[t44_37, t45_39] k w) (@hid _ ⟨fun t46_41 w42 =>
    GuardK t38_27 true (fun k w => BinK Tryd.prog Go.BinOp.eql 3 t46_41 (Go.Value.int Go.IntKind.i64 0) k w) (@hid _ ⟨fun t47_43 w44 =>
    PickK Tryd.prog t38_27 t47_43 (Go.Value.bool false) (@hid _ ⟨fun t48_45 w46 =>
    R (.tuple #[x9_3, t48_45]) w46⟩) w44⟩) w42⟩) w40⟩) w38⟩) w36⟩) w34⟩) w32⟩) w30⟩) w28⟩) w8⟩)⟩) w5⟩)⟩) w0
def a55 : Ann := (.seq .no (.seq .no (.seq .no (.seq (.block (.loop [9, 10] [(11, 11), (15, 34)] (.seq (.seq .no (.cond .no .no)) (.block (.seq .no (.seq .no (.cond .no .no))))))) (.seq .no .no)))))
theorem F55_eq (x0 x1 x2 : Value) (R : Value → World → Prop) (w0 : World) : F55 x0 x1 x2 R w0 = vc Tryd.prog (bodyOf Tryd.f55) a55 (retQ Tryd.prog Tryd.f55 R) (envOf 0 [x0, x1, x2]) w0 := by kernel_rfl
theorem F55_calls (x0 x1 x2 : Value) (R : Value → World → Prop) (w0 : World) (h : F55 x0 x1 x2 R w0) : CallK Tryd.prog 55 #[x0, x1, x2] R w0 :=
  calls_vc (c := bodyOf Tryd.f55) Tryd.func55 (by kernel_rfl) (by kernel_rfl) a55 (by kernel_rfl) (by kernel_rfl) [x0, x1, x2] (by rw [Tryd.ntmps55]; exact Nat.le_of_ble_eq_true rfl) w0 R ((F55_eq x0 x1 x2 R w0).mp h)

/-- (*canton/sorted.Map[string, int64]).find$1, its body as a formula. -/
def F56 (x0 x1 : Value) (R : Value → World → Prop) (w0 : World) : Prop :=
  BoxK Tryd.prog 90 x0 (@hid _ ⟨fun t2_1 w2 =>
  FieldAtK Tryd.prog 90 t2_1 0 (@hid _ ⟨fun t5_3 w4 =>
  LoadK Tryd.prog 9 t5_3 (@hid _ ⟨fun t6_5 w6 =>
  CallV Tryd.prog (.func (.func 57) #[] #[]) #[t6_5, x1] (@hid _ ⟨fun t8_7 w8 =>
  R t8_7 w8⟩) w6⟩) w4⟩) w2⟩) w0
def a56 : Ann := (.seq .no (.seq .no .no))
theorem F56_eq (x0 x1 : Value) (R : Value → World → Prop) (w0 : World) : F56 x0 x1 R w0 = vc Tryd.prog (bodyOf Tryd.f56) a56 (retQ Tryd.prog Tryd.f56 R) (envOf 0 [x0, x1]) w0 := by kernel_rfl
theorem F56_calls (x0 x1 : Value) (R : Value → World → Prop) (w0 : World) (h : F56 x0 x1 R w0) : CallK Tryd.prog 56 #[x0, x1] R w0 :=
  calls_vc (c := bodyOf Tryd.f56) Tryd.func56 (by kernel_rfl) (by kernel_rfl) a56 (by kernel_rfl) (by kernel_rfl) [x0, x1] (by rw [Tryd.ntmps56]; exact Nat.le_of_ble_eq_true rfl) w0 R ((F56_eq x0 x1 R w0).mp h)

/-- cmp.Compare[string], its body as a formula. -/
def F57 (x0 x1 : Value) (R : Value → World → Prop) (w0 : World) : Prop :=
  CallV Tryd.prog (.func (.func 66) #[] #[]) #[x0] (@hid _ ⟨fun t8_1 w2 =>
  CallV Tryd.prog (.func (.func 66) #[] #[]) #[x1] (@hid _ ⟨fun t10_3 w4 =>
  BrK t8_1 (@hid _ ⟨
   BrK t10_3 (@hid _ ⟨
    R (Go.Value.int Go.IntKind.i64 0) w4⟩) (@hid _ ⟨
    R (Go.Value.int Go.IntKind.i64 (-1)) w4⟩)⟩) (@hid _ ⟨
   BrK t10_3 (@hid _ ⟨
    R (Go.Value.int Go.IntKind.i64 1) w4⟩) (@hid _ ⟨
    BinK Tryd.prog Go.BinOp.lss 9 x0 x1 (@hid _ ⟨fun t16_5 w6 =>
    BrK t16_5 (@hid _ ⟨
     R (Go.Value.int Go.IntKind.i64 (-1)) w6⟩) (@hid _ ⟨
     BinK Tryd.prog Go.BinOp.gtr 9 x0 x1 (@hid _ ⟨fun t19_7 w8 =>
     BrK t19_7 (@hid _ ⟨
      R (Go.Value.int Go.IntKind.i64 1) w8⟩) (@hid _ ⟨
      R (Go.Value.int Go.IntKind.i64 0) w8⟩)⟩) w6⟩)⟩) w4⟩)⟩)⟩) w2⟩) w0
def a57 : Ann := (.seq .no (.seq .no (.seq .no (.seq (.seq .no (.cond (.seq (.seq .no (.cond (.seq .no .no) .no)) (.seq .no .no)) .no)) (.seq (.seq .no (.cond (.seq .no .no) .no)) (.seq (.seq .no (.cond (.seq .no .no) .no)) (.seq (.seq .no (.cond (.seq .no .no) .no)) (.seq .no .no))))))))
theorem F57_eq (x0 x1 : Value) (R : Value → World → Prop) (w0 : World) : F57 x0 x1 R w0 = vc Tryd.prog (bodyOf Tryd.f57) a57 (retQ Tryd.prog Tryd.f57 R) (envOf 0 [x0, x1]) w0 := by kernel_rfl
theorem F57_calls (x0 x1 : Value) (R : Value → World → Prop) (w0 : World) (h : F57 x0 x1 R w0) : CallK Tryd.prog 57 #[x0, x1] R w0 :=
  calls_vc (c := bodyOf Tryd.f57) Tryd.func57 (by kernel_rfl) (by kernel_rfl) a57 (by kernel_rfl) (by kernel_rfl) [x0, x1] (by rw [Tryd.ntmps57]; exact Nat.le_of_ble_eq_true rfl) w0 R ((F57_eq x0 x1 R w0).mp h)

/-- (*canton/codec.Dec).number, its body as a formula. -/
def F60 (x0 : Value) (R : Value → World → Prop) (w0 : World) : Prop :=
  NilK Tryd.prog x0 (@hid _ ⟨fun t8_1 w2 =>
  FieldAtK Tryd.prog 99 t8_1 0 (@hid _ ⟨fun t9_3 w4 =>
  LoadK Tryd.prog 32 t9_3 (@hid _ ⟨fun t10_5 w6 =>
  BuiltinK Tryd.prog Go.Builtin.len #[32] 3 #[false] #[t10_5] (@hid _ ⟨fun t11_7 w8 =>
  LoopK2 (Go.Value.int Go.IntKind.u64 0) (Go.Value.int Go.IntKind.i64 0) w8 (@hid _ ⟨fun _ x4_9 x12_10 w11 B12 =>
   BinK Tryd.prog Go.BinOp.lss 3 x12_10 t11_7 (@hid _ ⟨fun t13_13 w14 =>
   BrK t13_13 (@hid _ ⟨
    IndexAtK Tryd.prog 32 t10_5 x12_10 (@hid _ ⟨fun t15_15 w16 =>
    LoadK Tryd.prog 5 t15_15 (@hid _ ⟨fun t16_17 w18 =>
    BinK Tryd.prog Go.BinOp.eql 3 x12_10 (Go.Value.int Go.IntKind.i64 9) (@hid _ ⟨fun t18_19 w20 =>
    GuardK t18_19 true (fun k w => k t16_17 w) (@hid _ ⟨fun t20_21 w22 =>
    GuardK t18_19 true (fun k w => BinK Tryd.prog Go.BinOp.gtr 5 t20_21 (Go.Value.int Go.IntKind.u8 1) k w) (@hid _ ⟨fun t21_23 w24 =>
    PickK Tryd.prog t18_19 t21_23 (Go.Value.bool false) (@hid _ ⟨fun t22_25 w26 =>
    GuardK t22_25 false (fun k w => k x12_10 w) (@hid _ ⟨fun t24_27 w28 =>
    GuardK t22_25 false (fun k w => BinK Tryd.prog Go.BinOp.gtr 3 t24_27 (Go.Value.int Go.IntKind.i64 0) k w) (@hid _ ⟨fun t25_29 w30 =>
    GuardK t22_25 false (fun k w => k t25_29 w) (@hid _ ⟨fun t26_31 w32 =>
    GuardK t26_31 true (fun k w => k t16_17 w) (@hid _ ⟨fun t27_33 w34 =>
    GuardK t26_31 true (fun k w => BinK Tryd.prog Go.BinOp.eql 5 t27_33 (Go.Value.int Go.IntKind.u8 0) k w) (@hid _ ⟨fun t28_35 w36 =>
    GuardK t22_25 false (fun k w => PickK Tryd.prog t26_31 t28_35 (Go.Value.bool false) k w) (@hid _ ⟨fun t29_37 w38 =>
    PickK Tryd.prog t22_25 (Go.Value.bool true) t29_37 (@hid _ ⟨fun t30_39 w40 =>
    BrK t30_39 (@hid _ ⟨
     R (.tuple #[(Go.Value.int Go.IntKind.u64 0), (Go.Value.int Go.IntKind.i64 2)]) w40⟩) (@hid _ ⟨
     BinK Tryd.prog Go.BinOp.andNot 5 t16_17 (Go.Value.int Go.IntKind.u8 128) (@hid _ ⟨fun t33_41 w42 =>
     ConvK Tryd.prog 5 93 t33_41 (@hid _ ⟨fun t34_43 w44 =>
     BinK Tryd.prog Go.BinOp.mul 3 (Go.Value.int Go.IntKind.i64 7) x12_10 (@hid _ ⟨fun t36_45 w46 =>
     BinK Tryd.prog Go.BinOp.shl 93 t34_43 t36_45 (@hid _ ⟨fun t37_47 w48 =>
     BinK Tryd.prog Go.BinOp.or 93 x4_9 t37_47 (@hid _ ⟨fun t38_49 w50 =>
     BinK Tryd.prog Go.BinOp.lss 5 t16_17 (Go.Value.int Go.IntKind.u8 128) (@hid _ ⟨fun t40_51 w52 =>
     BrK t40_51 (@hid _ ⟨
      NilK Tryd.prog x0 (@hid _ ⟨fun t43_53 w54 =>
      FieldAtK Tryd.prog 99 t43_53 0 (@hid _ ⟨fun t44_55 w56 =>
      LoadK Tryd.prog 32 t44_55 (@hid _ ⟨fun t45_57 w58 =>
      BinK Tryd.prog Go.BinOp.add 3 x12_10 (Go.Value.int Go.IntKind.i64 1) (@hid _ ⟨fun t47_59 w60 =>
      SliceK Tryd.prog 32 t45_57 (some t47_59) none none (@hid _ ⟨fun t48_61 w62 =>
      NilK Tryd.prog x0 (@hid _ ⟨fun t49_63 w64 =>
      FieldAtK Tryd.prog 99 t49_63 0 (@hid _ ⟨fun t50_65 w66 =>
      StoreK Tryd.prog 32 t50_65 t48_61 (@hid _ ⟨fun tu_67 w68 =>
      R (.tuple #[t38_49, (Go.Value.int Go.IntKind.i64 0)]) w68⟩) w66⟩) w64⟩) w62⟩) w60⟩) w58⟩) w56⟩) w54⟩) w52⟩) (@hid _ ⟨
      BinK Tryd.prog Go.BinOp.add 3 x12_10 (Go.Value.int Go.IntKind.i64 1) (@hid _ ⟨fun t52_69 w70 =>
      B12 t38_49 t52_69 w70⟩) w52⟩)⟩) w50⟩) w48⟩) w46⟩) w44⟩) w42⟩) w40⟩)⟩) w38⟩) w36⟩) w34⟩) w32⟩) w30⟩) w28⟩) w26⟩) w24⟩) w22⟩) w20⟩) w18⟩) w16⟩) w14⟩) (@hid _ ⟨
    R (.tuple #[(Go.Value.int Go.IntKind.u64 0), (Go.Value.int Go.IntKind.i64 3)]) w14⟩)⟩) w11⟩)⟩) w6⟩) w4⟩) w2⟩) w0
def a60 : Ann := (.seq .no (.seq .no (.seq (.seq .no (.block (.loop [4, 12] [(2, 3), (5, 6), (13, 52)] (.seq .no (.seq (.cond .no .no) (.seq (.block (.seq .no (.seq (.seq .no (.cond (.seq .no .no) .no)) (.seq .no (.seq .no (.cond (.seq .no (.seq .no .no)) .no)))))) .no)))))) (.seq .no .no))))
theorem F60_eq (x0 : Value) (R : Value → World → Prop) (w0 : World) : F60 x0 R w0 = vc Tryd.prog (bodyOf Tryd.f60) a60 (retQ Tryd.prog Tryd.f60 R) (envOf 0 [x0]) w0 := by kernel_rfl
theorem F60_calls (x0 : Value) (R : Value → World → Prop) (w0 : World) (h : F60 x0 R w0) : CallK Tryd.prog 60 #[x0] R w0 :=
  calls_vc (c := bodyOf Tryd.f60) Tryd.func60 (by kernel_rfl) (by kernel_rfl) a60 (by kernel_rfl) (by kernel_rfl) [x0] (by rw [Tryd.ntmps60]; exact Nat.le_of_ble_eq_true rfl) w0 R ((F60_eq x0 R w0).mp h)

/-- canton/cantonref7.cut, its body as a formula. -/
def F61 (x0 : Value) (R : Value → World → Prop) (w0 : World) : Prop :=
  BinK Tryd.prog Go.BinOp.eql 9 x0 (Go.Value.string { data := #[] }) (@hid _ ⟨fun t7_1 w2 =>
  GuardK t7_1 false (fun k w => k x0 w) (@hid _ ⟨fun t9_3 w4 =>
  GuardK t7_1 false (fun k w => ValK Tryd.prog (Instr.index 9 t9_3 (Go.Value.int Go.IntKind.i64 0)) k w) (@hid _ ⟨fun t10_5 w6 =>
  GuardK t7_1 false (fun k w => BinK Tryd.prog Go.BinOp.neq 5 t10_5 (Go.Value.int Go.IntKind.u8 47) k w) (@hid _ ⟨fun t11_7 w8 =>
  PickK Tryd.prog t7_1 (Go.Value.bool true) t11_7 (@hid _ ⟨fun t12_9 w10 =>
  BrK t12_9 (@hid _ ⟨
   R (.tuple #[(Go.Value.slice none 0 0), (Go.Value.bool false)]) w10⟩) (@hid _ ⟨
   BinK Tryd.prog Go.BinOp.eql 9 x0 (Go.Value.string { data := #[47] }) (@hid _ ⟨fun t14_11 w12 =>
   BrK t14_11 (@hid _ ⟨
    R (.tuple #[(Go.Value.slice none 0 0), (Go.Value.bool true)]) w12⟩) (@hid _ ⟨
    BuildSliceK Tryd.prog 22 1 #[(0, (Go.Value.string { data := #[] }))] (@hid _ ⟨fun t15_13 w14 =>
    LoopK2 t15_13 (Go.Value.int Go.IntKind.i64 1) w14 (@hid _ ⟨fun _ x4_15 x5_16 w17 B18 =>
     BuiltinK Tryd.prog Go.Builtin.len #[9] 3 #[false] #[x0] (@hid _ ⟨fun t18_19 w20 =>
     BinK Tryd.prog Go.BinOp.lss 3 x5_16 t18_19 (@hid _ ⟨fun t19_21 w22 =>
     BrK t19_21 (@hid _ ⟨
      ValK Tryd.prog (Instr.index 9 x0 x5_16) (@hid _ ⟨fun t24_23 w24 =>
      BinK Tryd.prog Go.BinOp.eql 5 t24_23 (Go.Value.int Go.IntKind.u8 47) (@hid _ ⟨fun t25_25 w26 =>
      BrK t25_25 (@hid _ ⟨
       BuildSliceK Tryd.prog 22 1 #[(0, (Go.Value.string { data := #[] }))] (@hid _ ⟨fun t27_27 w28 =>
       BuiltinK Tryd.prog Go.Builtin.append #[22, 22] 22 #[false, false] #[x4_15, t27_27] (@hid _ ⟨fun t28_29 w30 =>
       BinK Tryd.prog Go.BinOp.add 3 x5_16 (Go.Value.int Go.IntKind.i64 1) (@hid _ ⟨fun t21_31 w32 =>
       B18 t28_29 t21_31 w32⟩) w30⟩) w28⟩) w26⟩) (@hid _ ⟨
       DrawK (@hid _ ⟨fun S33 w34 =>
       TakeO Tryd.prog S33 (builtin Go.Builtin.len #[22] 3 #[false] #[x4_15]) (@hid _ ⟨fun t31_35 =>
       BinT Tryd.prog S33 Go.BinOp.sub 3 t31_35 (Go.Value.int Go.IntKind.i64 1) (@hid _ ⟨fun t32_36 =>
       TakeO Tryd.prog S33 (builtin Go.Builtin.len #[22] 3 #[false] #[x4_15]) (@hid _ ⟨fun t35_37 =>
       BinT Tryd.prog S33 Go.BinOp.sub 3 t35_37 (Go.Value.int Go.IntKind.i64 1) (@hid _ ⟨fun t36_38 =>
       TakeS Tryd.prog S33 (Instr.indexAt 22 x4_15 t36_38) (@hid _ ⟨fun t37_39 =>
       BinT Tryd.prog S33 Go.BinOp.add 3 x5_16 (Go.Value.int Go.IntKind.i64 1) (@hid _ ⟨fun t42_40 =>
       TakeS Tryd.prog S33 (Instr.sliceAt 9 x0 (some x5_16) (some t42_40) none) (@hid _ ⟨fun t43_41 =>
       (LoadK Tryd.prog 9 t37_39 (@hid _ ⟨fun t38_42 w43 =>
       S33 w43 ∧
       BinT Tryd.prog S33 Go.BinOp.add 9 t38_42 t43_41 (@hid _ ⟨fun t44_44 =>
       TakeS Tryd.prog S33 (Instr.indexAt 22 x4_15 t32_36) (@hid _ ⟨fun t45_45 =>
       (StoreK Tryd.prog 9 t45_45 t44_44 (@hid _ ⟨fun tu_46 w47 =>
       S33 w47 ∧
       BinK Tryd.prog Go.BinOp.add 3 x5_16 (Go.Value.int Go.IntKind.i64 1) (@hid _ ⟨fun t21_48 w49 =>
       B18 x4_15 t21_48 w49⟩) w47⟩) w43) ∧
       True⟩)⟩)⟩) w34) ∧
       True⟩)⟩)⟩)⟩)⟩)⟩)⟩)⟩) w26⟩)⟩) w24⟩) w22⟩) (@hid _ ⟨
      R (.tuple #[x4_15, (Go.Value.bool true)]) w22⟩)⟩) w20⟩) w17⟩)⟩) w12⟩)⟩) w10⟩)⟩) w8⟩) w6⟩) w4⟩) w2⟩) w0
def a61 : Ann := (.seq .no (.seq (.seq .no (.cond (.seq .no .no) .no)) (.seq (.seq .no (.cond (.seq .no .no) .no)) (.seq .no (.seq (.seq .no (.block (.loop [4, 5] [(16, 45)] (.seq (.seq .no (.cond .no .no)) (.seq (.block (.seq (.seq .no (.cond (.seq .no .no) .no)) (.plan (.take 0 (.take 1 (.take 2 (.take 3 (.take 4 (.take 5 (.take 6 (.take 7 (.take 8 (.take 10 (.take 11 (.take 12 (.take 13 (.take 14 (.alt 9 (.take 15 (.take 16 (.alt 17 .done .nil))) .nil)))))))))))))))))) .no))))) (.seq .no .no))))))
theorem F61_eq (x0 : Value) (R : Value → World → Prop) (w0 : World) : F61 x0 R w0 = vc Tryd.prog (bodyOf Tryd.f61) a61 (retQ Tryd.prog Tryd.f61 R) (envOf 0 [x0]) w0 := by kernel_rfl
theorem F61_calls (x0 : Value) (R : Value → World → Prop) (w0 : World) (h : F61 x0 R w0) : CallK Tryd.prog 61 #[x0] R w0 :=
  calls_vc (c := bodyOf Tryd.f61) Tryd.func61 (by kernel_rfl) (by kernel_rfl) a61 (by kernel_rfl) (by kernel_rfl) [x0] (by rw [Tryd.ntmps61]; exact Nat.le_of_ble_eq_true rfl) w0 R ((F61_eq x0 R w0).mp h)

/-- canton/cantonref7.Name, its body as a formula. -/
def F62 (x0 : Value) (R : Value → World → Prop) (w0 : World) : Prop :=
  BuiltinK Tryd.prog Go.Builtin.len #[9] 3 #[false] #[x0] (@hid _ ⟨fun t5_1 w2 =>
  BinK Tryd.prog Go.BinOp.lss 3 t5_1 (Go.Value.int Go.IntKind.i64 1) (@hid _ ⟨fun t6_3 w4 =>
  GuardK t6_3 false (fun k w => k x0 w) (@hid _ ⟨fun t8_5 w6 =>
  GuardK t6_3 false (fun k w => BuiltinK Tryd.prog Go.Builtin.len #[9] 3 #[false] #[t8_5] k w) (@hid _ ⟨fun t9_7 w8 =>
  GuardK t6_3 false (fun k w => BinK Tryd.prog Go.BinOp.gtr 3 t9_7 (Go.Value.int Go.IntKind.i64 8) k w) (@hid _ ⟨fun t10_9 w10 =>
  PickK Tryd.prog t6_3 (Go.Value.bool true) t10_9 (@hid _ ⟨fun t11_11 w12 =>
  GuardK t11_11 false (fun k w => k x0 w) (@hid _ ⟨fun t13_13 w14 =>
  GuardK t11_11 false (fun k w => ValK Tryd.prog (Instr.index 9 t13_13 (Go.Value.int Go.IntKind.i64 0)) k w) (@hid _ ⟨fun t14_15 w16 =>
  GuardK t11_11 false (fun k w => BinK Tryd.prog Go.BinOp.lss 5 t14_15 (Go.Value.int Go.IntKind.u8 97) k w) (@hid _ ⟨fun t15_17 w18 =>
  PickK Tryd.prog t11_11 (Go.Value.bool true) t15_17 (@hid _ ⟨fun t16_19 w20 =>
  GuardK t16_19 false (fun k w => k x0 w) (@hid _ ⟨fun t18_21 w22 =>
  GuardK t16_19 false (fun k w => ValK Tryd.prog (Instr.index 9 t18_21 (Go.Value.int Go.IntKind.i64 0)) k w) (@hid _ ⟨fun t19_23 w24 =>
  GuardK t16_19 false (fun k w => BinK Tryd.prog Go.BinOp.gtr 5 t19_23 (Go.Value.int Go.IntKind.u8 122) k w) (@hid _ ⟨fun t20_25 w26 =>
  PickK Tryd.prog t16_19 (Go.Value.bool true) t20_25 (@hid _ ⟨fun t21_27 w28 =>
  BrK t21_27 (@hid _ ⟨
   R (Go.Value.bool false) w28⟩) (@hid _ ⟨
   LoopK1 (Go.Value.int Go.IntKind.i64 0) w28 (@hid _ ⟨fun _ x3_29 w30 B31 =>
    BuiltinK Tryd.prog Go.Builtin.len #[9] 3 #[false] #[x0] (@hid _ ⟨fun t24_32 w33 =>
    BinK Tryd.prog Go.BinOp.lss 3 x3_29 t24_32 (@hid _ ⟨fun t25_34 w35 =>
    BrK t25_34 (@hid _ ⟨
     ValK Tryd.prog (Instr.index 9 x0 x3_29) (@hid _ ⟨fun t30_36 w37 =>
     BinK Tryd.prog Go.BinOp.lss 5 t30_36 (Go.Value.int Go.IntKind.u8 97) (@hid _ ⟨fun t31_38 w39 =>
     GuardK t31_38 false (fun k w => k x0 w) (@hid _ ⟨fun t33_40 w41 =>
     GuardK t31_38 false (fun k w => k x3_29 w) (@hid _ ⟨fun t34_42 w43 =>
     GuardK t31_38 false (fun k w => ValK Tryd.prog (Instr.index 9 t33_40 t34_42) k w) (@hid _ ⟨fun t35_44 w45 =>
     GuardK t31_38 false (fun k w => BinK Tryd.prog Go.BinOp.gtr 5 t35_44 (Go.Value.int Go.IntKind.u8 122) k w) (@hid _ ⟨fun t36_46 w47 =>
     PickK Tryd.prog t31_38 (Go.Value.bool true) t36_46 (@hid _ ⟨fun t37_48 w49 =>
     GuardK t37_48 true (fun k w => k x0 w) (@hid _ ⟨fun t39_50 w51 =>
     GuardK t37_48 true (fun k w => k x3_29 w) (@hid _ ⟨fun t40_52 w53 =>
     GuardK t37_48 true (fun k w => ValK Tryd.prog (Instr.index 9 t39_50 t40_52) k w) (@hid _ ⟨fun t41_54 w55 =>
     GuardK t37_48 true (fun k w => BinK Tryd.prog Go.BinOp.lss 5 t41_54 (Go.Value.int Go.IntKind.u8 48) k w) (@hid _ ⟨fun t42_56 w57 =>
     GuardK t37_48 true (fun k w => k t42_56 w) (@hid _ ⟨fun t43_58 w59 =>
     GuardK t43_58 false (fun k w => k x0 w) (@hid _ ⟨fun t44_60 w61 =>
     GuardK t43_58 false (fun k w => k x3_29 w) (@hid _ ⟨fun t45_62 w63 =>
     GuardK t43_58 false (fun k w => ValK Tryd.prog (Instr.index 9 t44_60 t45_62) k w) (@hid _ ⟨fun t46_64 w65 =>
     GuardK t43_58 false (fun k w => BinK Tryd.prog Go.BinOp.gtr 5 t46_64 (Go.Value.int Go.IntKind.u8 57) k w) (@hid _ ⟨fun t47_66 w67 =>
     GuardK t37_48 true (fun k w => PickK Tryd.prog t43_58 (Go.Value.bool true) t47_66 k w) (@hid _ ⟨fun t48_68 w69 =>
     PickK Tryd.prog t37_48 t48_68 (Go.Value.bool false) (@hid _ ⟨fun t49_70 w71 =>
     BrK t49_70 (@hid _ ⟨
      R (Go.Value.bool false) w71⟩) (@hid _ ⟨
      BinK Tryd.prog Go.BinOp.add 3 x3_29 (Go.Value.int Go.IntKind.i64 1) (@hid _ ⟨fun t27_72 w73 =>
      B31 t27_72 w73⟩) w71⟩)⟩) w69⟩) w67⟩) w65⟩) w63⟩) w61⟩) w59⟩) w57⟩) w55⟩) w53⟩) w51⟩) w49⟩) w47⟩) w45⟩) w43⟩) w41⟩) w39⟩) w37⟩) w35⟩) (@hid _ ⟨
     R (Go.Value.bool true) w35⟩)⟩) w33⟩) w30⟩)⟩)⟩) w26⟩) w24⟩) w22⟩) w20⟩) w18⟩) w16⟩) w14⟩) w12⟩) w10⟩) w8⟩) w6⟩) w4⟩) w2⟩) w0
def a62 : Ann := (.seq .no (.seq (.seq .no (.cond (.seq .no .no) .no)) (.seq (.seq .no (.block (.loop [3] [(2, 2), (22, 49)] (.seq (.seq .no (.cond .no .no)) (.seq (.block (.seq .no (.cond (.seq .no .no) .no))) .no))))) (.seq .no .no))))
theorem F62_eq (x0 : Value) (R : Value → World → Prop) (w0 : World) : F62 x0 R w0 = vc Tryd.prog (bodyOf Tryd.f62) a62 (retQ Tryd.prog Tryd.f62 R) (envOf 0 [x0]) w0 := by kernel_rfl
theorem F62_calls (x0 : Value) (R : Value → World → Prop) (w0 : World) (h : F62 x0 R w0) : CallK Tryd.prog 62 #[x0] R w0 :=
  calls_vc (c := bodyOf Tryd.f62) Tryd.func62 (by kernel_rfl) (by kernel_rfl) a62 (by kernel_rfl) (by kernel_rfl) [x0] (by rw [Tryd.ntmps62]; exact Nat.le_of_ble_eq_true rfl) w0 R ((F62_eq x0 R w0).mp h)

/-- strings.CutPrefix, its body as a formula. -/
def F63 (x0 x1 : Value) (R : Value → World → Prop) (w0 : World) : Prop :=
  CallV Tryd.prog (.func (.func 68) #[] #[]) #[x0, x1] (@hid _ ⟨fun t8_1 w2 =>
  ExtractK Tryd.prog t8_1 0 (@hid _ ⟨fun t9_3 w4 =>
  ExtractK Tryd.prog t8_1 1 (@hid _ ⟨fun t10_5 w6 =>
  R (.tuple #[t9_3, t10_5]) w6⟩) w4⟩) w2⟩) w0
def a63 : Ann := (.seq .no (.seq .no .no))
theorem F63_eq (x0 x1 : Value) (R : Value → World → Prop) (w0 : World) : F63 x0 x1 R w0 = vc Tryd.prog (bodyOf Tryd.f63) a63 (retQ Tryd.prog Tryd.f63 R) (envOf 0 [x0, x1]) w0 := by kernel_rfl
theorem F63_calls (x0 x1 : Value) (R : Value → World → Prop) (w0 : World) (h : F63 x0 x1 R w0) : CallK Tryd.prog 63 #[x0, x1] R w0 :=
  calls_vc (c := bodyOf Tryd.f63) Tryd.func63 (by kernel_rfl) (by kernel_rfl) a63 (by kernel_rfl) (by kernel_rfl) [x0, x1] (by rw [Tryd.ntmps63]; exact Nat.le_of_ble_eq_true rfl) w0 R ((F63_eq x0 x1 R w0).mp h)

/-- slices.IndexFunc[[]string,string], its body as a formula. -/
def F65 (x0 x1 : Value) (R : Value → World → Prop) (w0 : World) : Prop :=
  BuiltinK Tryd.prog Go.Builtin.len #[22] 3 #[false] #[x0] (@hid _ ⟨fun t7_1 w2 =>
  LoopK1 (Go.Value.int Go.IntKind.i64 0) w2 (@hid _ ⟨fun _ x8_3 w4 B5 =>
   BinK Tryd.prog Go.BinOp.lss 3 x8_3 t7_1 (@hid _ ⟨fun t9_6 w7 =>
   BrK t9_6 (@hid _ ⟨
    IndexAtK Tryd.prog 22 x0 x8_3 (@hid _ ⟨fun t14_8 w9 =>
    LoadK Tryd.prog 9 t14_8 (@hid _ ⟨fun t15_10 w11 =>
    CallV Tryd.prog x1 #[t15_10] (@hid _ ⟨fun t16_12 w13 =>
    BrK t16_12 (@hid _ ⟨
     R x8_3 w13⟩) (@hid _ ⟨
     BinK Tryd.prog Go.BinOp.add 3 x8_3 (Go.Value.int Go.IntKind.i64 1) (@hid _ ⟨fun t18_14 w15 =>
     B5 t18_14 w15⟩) w13⟩)⟩) w11⟩) w9⟩) w7⟩) (@hid _ ⟨
    R (Go.Value.int Go.IntKind.i64 (-1)) w7⟩)⟩) w4⟩)⟩) w0
def a65 : Ann := (.seq .no (.seq (.seq .no (.block (.loop [8] [(4, 5), (9, 18)] (.seq .no (.seq (.cond .no .no) (.seq (.block (.seq .no (.seq .no (.cond (.seq .no .no) .no)))) .no)))))) (.seq .no .no)))
theorem F65_eq (x0 x1 : Value) (R : Value → World → Prop) (w0 : World) : F65 x0 x1 R w0 = vc Tryd.prog (bodyOf Tryd.f65) a65 (retQ Tryd.prog Tryd.f65 R) (envOf 0 [x0, x1]) w0 := by kernel_rfl
theorem F65_calls (x0 x1 : Value) (R : Value → World → Prop) (w0 : World) (h : F65 x0 x1 R w0) : CallK Tryd.prog 65 #[x0, x1] R w0 :=
  calls_vc (c := bodyOf Tryd.f65) Tryd.func65 (by kernel_rfl) (by kernel_rfl) a65 (by kernel_rfl) (by kernel_rfl) [x0, x1] (by rw [Tryd.ntmps65]; exact Nat.le_of_ble_eq_true rfl) w0 R ((F65_eq x0 x1 R w0).mp h)

/-- cmp.isNaN[string], its body as a formula. -/
def F66 (x0 : Value) (R : Value → World → Prop) (w0 : World) : Prop :=
  BinK Tryd.prog Go.BinOp.neq 9 x0 x0 (@hid _ ⟨fun t5_1 w2 =>
  R t5_1 w2⟩) w0
def a66 : Ann := (.seq .no (.seq .no .no))
theorem F66_eq (x0 : Value) (R : Value → World → Prop) (w0 : World) : F66 x0 R w0 = vc Tryd.prog (bodyOf Tryd.f66) a66 (retQ Tryd.prog Tryd.f66 R) (envOf 0 [x0]) w0 := by kernel_rfl
theorem F66_calls (x0 : Value) (R : Value → World → Prop) (w0 : World) (h : F66 x0 R w0) : CallK Tryd.prog 66 #[x0] R w0 :=
  calls_vc (c := bodyOf Tryd.f66) Tryd.func66 (by kernel_rfl) (by kernel_rfl) a66 (by kernel_rfl) (by kernel_rfl) [x0] (by rw [Tryd.ntmps66]; exact Nat.le_of_ble_eq_true rfl) w0 R ((F66_eq x0 R w0).mp h)

/-- internal/stringslite.CutPrefix, its body as a formula. -/
def F68 (x0 x1 : Value) (R : Value → World → Prop) (w0 : World) : Prop :=
  CallV Tryd.prog (.func (.func 71) #[] #[]) #[x0, x1] (@hid _ ⟨fun t8_1 w2 =>
  UnK Tryd.prog Go.UnOp.not t8_1 (@hid _ ⟨fun t9_3 w4 =>
  BrK t9_3 (@hid _ ⟨
   R (.tuple #[x0, (Go.Value.bool false)]) w4⟩) (@hid _ ⟨
   BuiltinK Tryd.prog Go.Builtin.len #[9] 3 #[false] #[x1] (@hid _ ⟨fun t13_5 w6 =>
   SliceK Tryd.prog 9 x0 (some t13_5) none none (@hid _ ⟨fun t14_7 w8 =>
   R (.tuple #[t14_7, (Go.Value.bool true)]) w8⟩) w6⟩) w4⟩)⟩) w2⟩) w0
def a68 : Ann := (.seq .no (.seq (.seq .no (.cond (.seq .no .no) .no)) (.seq .no .no)))
theorem F68_eq (x0 x1 : Value) (R : Value → World → Prop) (w0 : World) : F68 x0 x1 R w0 = vc Tryd.prog (bodyOf Tryd.f68) a68 (retQ Tryd.prog Tryd.f68 R) (envOf 0 [x0, x1]) w0 := by kernel_rfl
theorem F68_calls (x0 x1 : Value) (R : Value → World → Prop) (w0 : World) (h : F68 x0 x1 R w0) : CallK Tryd.prog 68 #[x0, x1] R w0 :=
  calls_vc (c := bodyOf Tryd.f68) Tryd.func68 (by kernel_rfl) (by kernel_rfl) a68 (by kernel_rfl) (by kernel_rfl) [x0, x1] (by rw [Tryd.ntmps68]; exact Nat.le_of_ble_eq_true rfl) w0 R ((F68_eq x0 x1 R w0).mp h)

/-- internal/stringslite.HasPrefix, its body as a formula. -/
def F71 (x0 x1 : Value) (R : Value → World → Prop) (w0 : World) : Prop :=
  BuiltinK Tryd.prog Go.Builtin.len #[9] 3 #[false] #[x0] (@hid _ ⟨fun t6_1 w2 =>
  BuiltinK Tryd.prog Go.Builtin.len #[9] 3 #[false] #[x1] (@hid _ ⟨fun t8_3 w4 =>
  BinK Tryd.prog Go.BinOp.geq 3 t6_1 t8_3 (@hid _ ⟨fun t9_5 w6 =>
  GuardK t9_5 true (fun k w => k x0 w) (@hid _ ⟨fun t11_7 w8 =>
  GuardK t9_5 true (fun k w => k x1 w) (@hid _ ⟨fun t12_9 w10 =>
  GuardK t9_5 true (fun k w => BuiltinK Tryd.prog Go.Builtin.len #[9] 3 #[false] #[t12_9] k w) (@hid _ ⟨fun t13_11 w12 =>
  GuardK t9_5 true (fun k w => SliceK Tryd.prog 9 t11_7 none (some t13_11) none k w) (@hid _ ⟨fun t14_13 w14 =>
  GuardK t9_5 true (fun k w => k x1 w) (@hid _ ⟨fun t15_15 w16 =>
  GuardK t9_5 true (fun k w => BinK Tryd.prog Go.BinOp.eql 9 t14_13 t15_15 k w) (@hid _ ⟨fun t16_17 w18 =>
  PickK Tryd.prog t9_5 t16_17 (Go.Value.bool false) (@hid _ ⟨fun t17_19 w20 =>
  R t17_19 w20⟩) w18⟩) w16⟩) w14⟩) w12⟩) w10⟩) w8⟩) w6⟩) w4⟩) w2⟩) w0
def a71 : Ann := (.seq .no (.seq .no .no))
theorem F71_eq (x0 x1 : Value) (R : Value → World → Prop) (w0 : World) : F71 x0 x1 R w0 = vc Tryd.prog (bodyOf Tryd.f71) a71 (retQ Tryd.prog Tryd.f71 R) (envOf 0 [x0, x1]) w0 := by kernel_rfl
theorem F71_calls (x0 x1 : Value) (R : Value → World → Prop) (w0 : World) (h : F71 x0 x1 R w0) : CallK Tryd.prog 71 #[x0, x1] R w0 :=
  calls_vc (c := bodyOf Tryd.f71) Tryd.func71 (by kernel_rfl) (by kernel_rfl) a71 (by kernel_rfl) (by kernel_rfl) [x0, x1] (by rw [Tryd.ntmps71]; exact Nat.le_of_ble_eq_true rfl) w0 R ((F71_eq x0 x1 R w0).mp h)

end Go.Proofs.YtpdhmbbmhomlnaaDoor