import Derived.Test.YtdnlenngbaaeaaaDoorRows
import Derived.Test.YtdnlenngbaaeaaaDoorV3
set_option linter.unusedVariables false
set_option linter.unusedSimpArgs false
set_option maxRecDepth 100000
namespace Go.Proofs.YtdnlenngbaaeaaaDoor
open Go.RowKit Go.Cn
theorem kbx24 (v_0 : Int) (v_1 : Int) (v_2 : ByteArray) (v_3A : Option Addr) (v_3n v_3c : Nat) (K : Value → World → Prop) (w : World) : BoxK Tryd.prog 24 (.agg #[(.int .i64 v_0), (.int .i64 v_1), (.string v_2), (.slice v_3A v_3n v_3c)]) K w = K (.pointer (some ⟨w.heap.size, 0, none⟩)) (w.alloc (.cells #[(.int .i64 v_0), (.int .i64 v_1), (.string v_2), (.slice v_3A v_3n v_3c)] 24)) := by
  unfold BoxK; (first | (go_simp; rfl) | (go_simp; done))

theorem kld24 (g o : Nat) (K : Value → World → Prop) (w : World) : LoadK Tryd.prog 24 (.pointer (some ⟨g, o, none⟩)) K w = OptK (w.cell? ⟨g, o, none⟩) (@hid _ ⟨fun v0 => OptK (w.cell? ⟨g, o + 1, none⟩) (@hid _ ⟨fun v1 => OptK (w.cell? ⟨g, o + 2, none⟩) (@hid _ ⟨fun v2 => OptK (w.cell? ⟨g, o + 3, none⟩) (@hid _ ⟨fun v3 => K (.agg #[v0, v1, v2, v3]) w⟩) (LoadRaw Tryd.prog 24 ⟨g, o, none⟩ K w)⟩) (LoadRaw Tryd.prog 24 ⟨g, o, none⟩ K w)⟩) (LoadRaw Tryd.prog 24 ⟨g, o, none⟩ K w)⟩) (LoadRaw Tryd.prog 24 ⟨g, o, none⟩ K w) := by
  cases h0 : w.cell? ⟨g, o, none⟩ with
  | none => rfl
  | some v0 =>
  cases h1 : w.cell? ⟨g, o + 1, none⟩ with
  | none => rfl
  | some v1 =>
  cases h2 : w.cell? ⟨g, o + 2, none⟩ with
  | none => rfl
  | some v2 =>
  cases h3 : w.cell? ⟨g, o + 3, none⟩ with
  | none => rfl
  | some v3 =>
  simp only [optK_some]
  unfold LoadK; (first | (go_simp; rfl) | (go_simp; done))

theorem kbneq3 (x y : Int) (K : Value → World → Prop) (w : World) : BinK Tryd.prog .neq 3 (.int .i64 x) (.int .i64 y) K w = K (.bool (x != y)) w := by
  unfold BinK; (first | (go_simp; rfl) | (go_simp; done))

theorem kbsub3 (x y : Int) (K : Value → World → Prop) (w : World) : BinK Tryd.prog .sub 3 (.int .i64 x) (.int .i64 y) K w = K (.int .i64 (IntKind.i64.wrap (x - y))) w := by
  unfold BinK; (first | (go_simp; rfl) | (go_simp; done))

theorem kbneq9 (x y : ByteArray) (K : Value → World → Prop) (w : World) : BinK Tryd.prog .neq 9 (.string x) (.string y) K w = K (.bool (!(x.toList == y.toList))) w := by
  unfold BinK; (first | (go_simp; rfl) | (go_simp; done))

theorem kal24 (K : Value → World → Prop) (w : World) : AllocK Tryd.prog 24 K w = K (.pointer (some ⟨w.heap.size, 0, none⟩)) (w.alloc (.cells #[.int .i64 0, .int .i64 0, .string ByteArray.empty, .slice none 0 0] 24)) := by
  unfold AllocK; (first | (go_simp; rfl) | (go_simp; done))

theorem kst24f (v_0 : Int) (v_1 : Int) (v_2 : ByteArray) (v_3A : Option Addr) (v_3n v_3c : Nat) (z0 z1 z2 z3 : Value) (K : Value → World → Prop) (w : World) : StoreK Tryd.prog 24 (.pointer (some ⟨w.heap.size, 0, none⟩)) (.agg #[(.int .i64 v_0), (.int .i64 v_1), (.string v_2), (.slice v_3A v_3n v_3c)]) K (w.alloc (.cells #[z0, z1, z2, z3] 24)) = K undef (w.alloc (.cells #[(.int .i64 v_0), (.int .i64 v_1), (.string v_2), (.slice v_3A v_3n v_3c)] 24)) := by
  unfold StoreK; (first | (go_simp; rfl) | (go_simp; done))

theorem kbeql3 (x y : Int) (K : Value → World → Prop) (w : World) : BinK Tryd.prog .eql 3 (.int .i64 x) (.int .i64 y) K w = K (.bool (x == y)) w := by
  unfold BinK; (first | (go_simp; rfl) | (go_simp; done))

theorem kbeql4 (x y : Bool) (K : Value → World → Prop) (w : World) : BinK Tryd.prog .eql 4 (.bool x) (.bool y) K w = K (.bool (x == y)) w := by
  cases x <;> cases y <;> (unfold BinK; (first | (go_simp; rfl) | (go_simp; done)))

theorem klen9 (s : ByteArray) (K : Value → World → Prop) (w : World) : BuiltinK Tryd.prog .len #[9] 3 #[false] #[(.string s)] K w = K (.int .i64 (s.size : Int)) w := by
  unfold BuiltinK; (first | (go_simp; rfl) | (go_simp; done))

theorem hlen9 (s : ByteArray) {K : Value → Prop} {w1 : World} : TakeO Tryd.prog (fun w' => w' = w1) (builtin .len #[9] 3 #[false] #[(.string s)]) K = K (.int .i64 (s.size : Int)) := by
  exact here_o (fun w => by (first | (go_simp; rfl) | (go_simp; done)))

theorem kbgtr3 (x y : Int) (K : Value → World → Prop) (w : World) : BinK Tryd.prog .gtr 3 (.int .i64 x) (.int .i64 y) K w = K (.bool (decide (y < x))) w := by
  unfold BinK; (first | (go_simp; rfl) | (go_simp; done))

theorem kal28 (K : Value → World → Prop) (w : World) : AllocK Tryd.prog 28 K w = K (.pointer (some ⟨w.heap.size, 0, none⟩)) (w.alloc (.cells #[.int .i64 0, .int .i64 0, .string ByteArray.empty, .slice none 0 0] 28)) := by
  unfold AllocK; (first | (go_simp; rfl) | (go_simp; done))

theorem kst28f (v_0 : Int) (v_1 : Int) (v_2 : ByteArray) (v_3A : Option Addr) (v_3n v_3c : Nat) (z0 z1 z2 z3 : Value) (K : Value → World → Prop) (w : World) : StoreK Tryd.prog 28 (.pointer (some ⟨w.heap.size, 0, none⟩)) (.agg #[(.int .i64 v_0), (.int .i64 v_1), (.string v_2), (.slice v_3A v_3n v_3c)]) K (w.alloc (.cells #[z0, z1, z2, z3] 28)) = K undef (w.alloc (.cells #[(.int .i64 v_0), (.int .i64 v_1), (.string v_2), (.slice v_3A v_3n v_3c)] 28)) := by
  unfold StoreK; (first | (go_simp; rfl) | (go_simp; done))

theorem kfa24_0 (g o : Nat) (K : Value → World → Prop) (w : World) : FieldAtK Tryd.prog 24 (.pointer (some ⟨g, o, none⟩)) 0 K w = K (.pointer (some ⟨g, o, none⟩)) w := by
  unfold FieldAtK; (first | (go_simp; rfl) | (go_simp; done))

theorem kld3 (a : Addr) (K : Value → World → Prop) (w : World) : LoadK Tryd.prog 3 (.pointer (some a)) K w = OptK (w.cell? a) (@hid _ ⟨fun v => K v w⟩) (LoadRaw Tryd.prog 3 a K w) := by
  exact loadK_eq Tryd.underlying3 rfl a K w

theorem kfa28_0 (g o : Nat) (K : Value → World → Prop) (w : World) : FieldAtK Tryd.prog 28 (.pointer (some ⟨g, o, none⟩)) 0 K w = K (.pointer (some ⟨g, o, none⟩)) w := by
  unfold FieldAtK; (first | (go_simp; rfl) | (go_simp; done))

theorem kld28 (g o : Nat) (K : Value → World → Prop) (w : World) : LoadK Tryd.prog 28 (.pointer (some ⟨g, o, none⟩)) K w = OptK (w.cell? ⟨g, o, none⟩) (@hid _ ⟨fun v0 => OptK (w.cell? ⟨g, o + 1, none⟩) (@hid _ ⟨fun v1 => OptK (w.cell? ⟨g, o + 2, none⟩) (@hid _ ⟨fun v2 => OptK (w.cell? ⟨g, o + 3, none⟩) (@hid _ ⟨fun v3 => K (.agg #[v0, v1, v2, v3]) w⟩) (LoadRaw Tryd.prog 28 ⟨g, o, none⟩ K w)⟩) (LoadRaw Tryd.prog 28 ⟨g, o, none⟩ K w)⟩) (LoadRaw Tryd.prog 28 ⟨g, o, none⟩ K w)⟩) (LoadRaw Tryd.prog 28 ⟨g, o, none⟩ K w) := by
  cases h0 : w.cell? ⟨g, o, none⟩ with
  | none => rfl
  | some v0 =>
  cases h1 : w.cell? ⟨g, o + 1, none⟩ with
  | none => rfl
  | some v1 =>
  cases h2 : w.cell? ⟨g, o + 2, none⟩ with
  | none => rfl
  | some v2 =>
  cases h3 : w.cell? ⟨g, o + 3, none⟩ with
  | none => rfl
  | some v3 =>
  simp only [optK_some]
  unfold LoadK; (first | (go_simp; rfl) | (go_simp; done))

theorem kbeql9 (x y : ByteArray) (K : Value → World → Prop) (w : World) : BinK Tryd.prog .eql 9 (.string x) (.string y) K w = K (.bool (x.toList == y.toList)) w := by
  unfold BinK; (first | (go_simp; rfl) | (go_simp; done))

theorem kbleq3 (x y : Int) (K : Value → World → Prop) (w : World) : BinK Tryd.prog .leq 3 (.int .i64 x) (.int .i64 y) K w = K (.bool (decide (x ≤ y))) w := by
  unfold BinK; (first | (go_simp; rfl) | (go_simp; done))

theorem kblss3 (x y : Int) (K : Value → World → Prop) (w : World) : BinK Tryd.prog .lss 3 (.int .i64 x) (.int .i64 y) K w = K (.bool (decide (x < y))) w := by
  unfold BinK; (first | (go_simp; rfl) | (go_simp; done))

theorem kbeql2 (x y : Int) (K : Value → World → Prop) (w : World) : BinK Tryd.prog .eql 2 (.int .i64 x) (.int .i64 y) K w = K (.bool (x == y)) w := by
  unfold BinK; (first | (go_simp; rfl) | (go_simp; done))

theorem kbmul2 (x y : Int) (K : Value → World → Prop) (w : World) : BinK Tryd.prog .mul 2 (.int .i64 x) (.int .i64 y) K w = K (.int .i64 (IntKind.i64.wrap (x * y))) w := by
  unfold BinK; (first | (go_simp; rfl) | (go_simp; done))

theorem kbadd2 (x y : Int) (K : Value → World → Prop) (w : World) : BinK Tryd.prog .add 2 (.int .i64 x) (.int .i64 y) K w = K (.int .i64 (IntKind.i64.wrap (x + y))) w := by
  unfold BinK; (first | (go_simp; rfl) | (go_simp; done))

theorem kblss2 (x y : Int) (K : Value → World → Prop) (w : World) : BinK Tryd.prog .lss 2 (.int .i64 x) (.int .i64 y) K w = K (.bool (decide (x < y))) w := by
  unfold BinK; (first | (go_simp; rfl) | (go_simp; done))

theorem kbgtr2 (x y : Int) (K : Value → World → Prop) (w : World) : BinK Tryd.prog .gtr 2 (.int .i64 x) (.int .i64 y) K w = K (.bool (decide (y < x))) w := by
  unfold BinK; (first | (go_simp; rfl) | (go_simp; done))

theorem kbsub2 (x y : Int) (K : Value → World → Prop) (w : World) : BinK Tryd.prog .sub 2 (.int .i64 x) (.int .i64 y) K w = K (.int .i64 (IntKind.i64.wrap (x - y))) w := by
  unfold BinK; (first | (go_simp; rfl) | (go_simp; done))

theorem kbgeq2 (x y : Int) (K : Value → World → Prop) (w : World) : BinK Tryd.prog .geq 2 (.int .i64 x) (.int .i64 y) K w = K (.bool (decide (y ≤ x))) w := by
  unfold BinK; (first | (go_simp; rfl) | (go_simp; done))

theorem kbleq2 (x y : Int) (K : Value → World → Prop) (w : World) : BinK Tryd.prog .leq 2 (.int .i64 x) (.int .i64 y) K w = K (.bool (decide (x ≤ y))) w := by
  unfold BinK; (first | (go_simp; rfl) | (go_simp; done))

theorem kbadd3 (x y : Int) (K : Value → World → Prop) (w : World) : BinK Tryd.prog .add 3 (.int .i64 x) (.int .i64 y) K w = K (.int .i64 (IntKind.i64.wrap (x + y))) w := by
  unfold BinK; (first | (go_simp; rfl) | (go_simp; done))

theorem kfa24_3 (g o : Nat) (K : Value → World → Prop) (w : World) : FieldAtK Tryd.prog 24 (.pointer (some ⟨g, o, none⟩)) 3 K w = K (.pointer (some ⟨g, o + 3, none⟩)) w := by
  unfold FieldAtK; (first | (go_simp; rfl) | (go_simp; done))

theorem kld22 (a : Addr) (K : Value → World → Prop) (w : World) : LoadK Tryd.prog 22 (.pointer (some a)) K w = OptK (w.cell? a) (@hid _ ⟨fun v => K v w⟩) (LoadRaw Tryd.prog 22 a K w) := by
  exact loadK_eq Tryd.underlying22 rfl a K w

theorem klen22 (A : Option Addr) (n c : Nat) (K : Value → World → Prop) (w : World) : BuiltinK Tryd.prog .len #[22] 3 #[false] #[(.slice A n c)] K w = K (.int .i64 (n : Int)) w := by
  unfold BuiltinK; (first | (go_simp; rfl) | (go_simp; done))

theorem hlen22 (A : Option Addr) (n c : Nat) {K : Value → Prop} {w1 : World} : TakeO Tryd.prog (fun w' => w' = w1) (builtin .len #[22] 3 #[false] #[(.slice A n c)]) K = K (.int .i64 (n : Int)) := by
  exact here_o (fun w => by (first | (go_simp; rfl) | (go_simp; done)))

theorem kfa24_2 (g o : Nat) (K : Value → World → Prop) (w : World) : FieldAtK Tryd.prog 24 (.pointer (some ⟨g, o, none⟩)) 2 K w = K (.pointer (some ⟨g, o + 2, none⟩)) w := by
  unfold FieldAtK; (first | (go_simp; rfl) | (go_simp; done))

theorem kld9 (a : Addr) (K : Value → World → Prop) (w : World) : LoadK Tryd.prog 9 (.pointer (some a)) K w = OptK (w.cell? a) (@hid _ ⟨fun v => K v w⟩) (LoadRaw Tryd.prog 9 a K w) := by
  exact loadK_eq Tryd.underlying9 rfl a K w

theorem kbd24_0_1 (v0 : Int) (v1 : Int) (K : Value → World → Prop) (w : World) : BuildK Tryd.prog 24 #[(0, (.int .i64 v0)), (1, (.int .i64 v1))] K w = K (.agg #[(.int .i64 v0), (.int .i64 v1), .string ByteArray.empty, .slice none 0 0]) w := by
  unfold BuildK; (first | (go_simp; rfl) | (go_simp; done))

theorem kbd24_  (K : Value → World → Prop) (w : World) : BuildK Tryd.prog 24 #[] K w = K (.agg #[.int .i64 0, .int .i64 0, .string ByteArray.empty, .slice none 0 0]) w := by
  unfold BuildK; (first | (go_simp; rfl) | (go_simp; done))

theorem kbx28 (v_0 : Int) (v_1 : Int) (v_2 : ByteArray) (v_3A : Option Addr) (v_3n v_3c : Nat) (K : Value → World → Prop) (w : World) : BoxK Tryd.prog 28 (.agg #[(.int .i64 v_0), (.int .i64 v_1), (.string v_2), (.slice v_3A v_3n v_3c)]) K w = K (.pointer (some ⟨w.heap.size, 0, none⟩)) (w.alloc (.cells #[(.int .i64 v_0), (.int .i64 v_1), (.string v_2), (.slice v_3A v_3n v_3c)] 28)) := by
  unfold BoxK; (first | (go_simp; rfl) | (go_simp; done))

theorem kfa28_2 (g o : Nat) (K : Value → World → Prop) (w : World) : FieldAtK Tryd.prog 28 (.pointer (some ⟨g, o, none⟩)) 2 K w = K (.pointer (some ⟨g, o + 2, none⟩)) w := by
  unfold FieldAtK; (first | (go_simp; rfl) | (go_simp; done))

theorem kblss5 (x y : Int) (K : Value → World → Prop) (w : World) : BinK Tryd.prog .lss 5 (.int .u8 x) (.int .u8 y) K w = K (.bool (decide (x < y))) w := by
  unfold BinK; (first | (go_simp; rfl) | (go_simp; done))

theorem kbgtr5 (x y : Int) (K : Value → World → Prop) (w : World) : BinK Tryd.prog .gtr 5 (.int .u8 x) (.int .u8 y) K w = K (.bool (decide (y < x))) w := by
  unfold BinK; (first | (go_simp; rfl) | (go_simp; done))

theorem kbeql5 (x y : Int) (K : Value → World → Prop) (w : World) : BinK Tryd.prog .eql 5 (.int .u8 x) (.int .u8 y) K w = K (.bool (x == y)) w := by
  unfold BinK; (first | (go_simp; rfl) | (go_simp; done))

theorem kfa28_3 (g o : Nat) (K : Value → World → Prop) (w : World) : FieldAtK Tryd.prog 28 (.pointer (some ⟨g, o, none⟩)) 3 K w = K (.pointer (some ⟨g, o + 3, none⟩)) w := by
  unfold FieldAtK; (first | (go_simp; rfl) | (go_simp; done))

theorem kia22 (g o n c : Nat) (i : Int) (h : 0 ≤ i ∧ i < (n : Int)) (K : Value → World → Prop) (w : World) : IndexAtK Tryd.prog 22 (.slice (some ⟨g, o, none⟩) n c) (.int .i64 i) K w = K (.pointer (some ⟨g, o + i.toNat, none⟩)) w := by
  obtain ⟨h0, h1⟩ := h
  unfold IndexAtK; (first | (go_simp; rfl) | (go_simp; done))

theorem kld2 (a : Addr) (K : Value → World → Prop) (w : World) : LoadK Tryd.prog 2 (.pointer (some a)) K w = OptK (w.cell? a) (@hid _ ⟨fun v => K v w⟩) (LoadRaw Tryd.prog 2 a K w) := by
  exact loadK_eq Tryd.underlying2 rfl a K w

theorem kfa24_1 (g o : Nat) (K : Value → World → Prop) (w : World) : FieldAtK Tryd.prog 24 (.pointer (some ⟨g, o, none⟩)) 1 K w = K (.pointer (some ⟨g, o + 1, none⟩)) w := by
  unfold FieldAtK; (first | (go_simp; rfl) | (go_simp; done))

theorem kbd28_0_1_2_3 (v0 : Int) (v1 : Int) (v2 : ByteArray) (v3A : Option Addr) (v3n v3c : Nat) (K : Value → World → Prop) (w : World) : BuildK Tryd.prog 28 #[(0, (.int .i64 v0)), (1, (.int .i64 v1)), (2, (.string v2)), (3, (.slice v3A v3n v3c))] K w = K (.agg #[(.int .i64 v0), (.int .i64 v1), (.string v2), (.slice v3A v3n v3c)]) w := by
  unfold BuildK; (first | (go_simp; rfl) | (go_simp; done))

theorem kfa28_1 (g o : Nat) (K : Value → World → Prop) (w : World) : FieldAtK Tryd.prog 28 (.pointer (some ⟨g, o, none⟩)) 1 K w = K (.pointer (some ⟨g, o + 1, none⟩)) w := by
  unfold FieldAtK; (first | (go_simp; rfl) | (go_simp; done))

theorem kbneq2 (x y : Int) (K : Value → World → Prop) (w : World) : BinK Tryd.prog .neq 2 (.int .i64 x) (.int .i64 y) K w = K (.bool (x != y)) w := by
  unfold BinK; (first | (go_simp; rfl) | (go_simp; done))

theorem kbneq30 (x y : Int) (K : Value → World → Prop) (w : World) : BinK Tryd.prog .neq 30 (.int .i64 x) (.int .i64 y) K w = K (.bool (x != y)) w := by
  unfold BinK; (first | (go_simp; rfl) | (go_simp; done))

theorem kbgeq3 (x y : Int) (K : Value → World → Prop) (w : World) : BinK Tryd.prog .geq 3 (.int .i64 x) (.int .i64 y) K w = K (.bool (decide (y ≤ x))) w := by
  unfold BinK; (first | (go_simp; rfl) | (go_simp; done))

theorem kbd28_0_2 (v0 : Int) (v2 : ByteArray) (K : Value → World → Prop) (w : World) : BuildK Tryd.prog 28 #[(0, (.int .i64 v0)), (2, (.string v2))] K w = K (.agg #[(.int .i64 v0), .int .i64 0, (.string v2), .slice none 0 0]) w := by
  unfold BuildK; (first | (go_simp; rfl) | (go_simp; done))

theorem kbd28_  (K : Value → World → Prop) (w : World) : BuildK Tryd.prog 28 #[] K w = K (.agg #[.int .i64 0, .int .i64 0, .string ByteArray.empty, .slice none 0 0]) w := by
  unfold BuildK; (first | (go_simp; rfl) | (go_simp; done))

theorem kbd28_0 (v0 : Int) (K : Value → World → Prop) (w : World) : BuildK Tryd.prog 28 #[(0, (.int .i64 v0))] K w = K (.agg #[(.int .i64 v0), .int .i64 0, .string ByteArray.empty, .slice none 0 0]) w := by
  unfold BuildK; (first | (go_simp; rfl) | (go_simp; done))

theorem klen59 (A : Option Addr) (n c : Nat) (K : Value → World → Prop) (w : World) : BuiltinK Tryd.prog .len #[59] 3 #[false] #[(.slice A n c)] K w = K (.int .i64 (n : Int)) w := by
  unfold BuiltinK; (first | (go_simp; rfl) | (go_simp; done))

theorem hlen59 (A : Option Addr) (n c : Nat) {K : Value → Prop} {w1 : World} : TakeO Tryd.prog (fun w' => w' = w1) (builtin .len #[59] 3 #[false] #[(.slice A n c)]) K = K (.int .i64 (n : Int)) := by
  exact here_o (fun w => by (first | (go_simp; rfl) | (go_simp; done)))

theorem kia59 (g o n c : Nat) (i : Int) (h : 0 ≤ i ∧ i < (n : Int)) (K : Value → World → Prop) (w : World) : IndexAtK Tryd.prog 59 (.slice (some ⟨g, o, none⟩) n c) (.int .i64 i) K w = K (.pointer (some ⟨g, o + i.toNat, none⟩)) w := by
  obtain ⟨h0, h1⟩ := h
  unfold IndexAtK; (first | (go_simp; rfl) | (go_simp; done))

theorem kbs22_1_0 (v0 : Int) (K : Value → World → Prop) (w : World) : BuildSliceK Tryd.prog 22 1 #[(0, (.int .i64 v0))] K w = K (.slice (some ⟨w.heap.size, 0, none⟩) 1 1) (w.alloc (.cells #[(.int .i64 v0)] 2)) := by
  unfold BuildSliceK; (first | (go_simp; rfl) | (go_simp; done))

theorem kst22 (g o : Nat) (vA : Option Addr) (vn vc : Nat) (K : Value → World → Prop) (w : World) : StoreK Tryd.prog 22 (.pointer (some ⟨g, o, none⟩)) (.slice vA vn vc) K w = OptK (w.cell? ⟨g, o, none⟩) (@hid _ ⟨fun _ => FzK (w.frozen? ⟨g, o, none⟩) (@hid _ ⟨K undef (w.setCell ⟨g, o, none⟩ (.slice vA vn vc))⟩) (StoreRaw Tryd.prog 22 ⟨g, o, none⟩ (.slice vA vn vc) K w)⟩) (StoreRaw Tryd.prog 22 ⟨g, o, none⟩ (.slice vA vn vc) K w) := by
  cases h0 : w.cell? ⟨g, o, none⟩ with
  | none => rfl
  | some x =>
  cases f0 : w.frozen? ⟨g, o, none⟩ with
  | true => rfl
  | false =>
  simp only [optK_some, fzK_false]
  unfold StoreK; (first | (go_simp; rfl) | (go_simp; done))

theorem kbd28_0_1 (v0 : Int) (v1 : Int) (K : Value → World → Prop) (w : World) : BuildK Tryd.prog 28 #[(0, (.int .i64 v0)), (1, (.int .i64 v1))] K w = K (.agg #[(.int .i64 v0), (.int .i64 v1), .string ByteArray.empty, .slice none 0 0]) w := by
  unfold BuildK; (first | (go_simp; rfl) | (go_simp; done))

theorem kbquo2 (x y : Int) (h : 0 ≤ x ∧ 1 ≤ y ∧ x ≤ 9223372036854775807) (K : Value → World → Prop) (w : World) : BinK Tryd.prog .quo 2 (.int .i64 x) (.int .i64 y) K w = K (.int .i64 (x / y)) w := by
  obtain ⟨h0, h1, h2⟩ := h
  have h3 : ¬ y = 0 := by omega
  have h4 : x.tmod y = x % y := Int.tmod_eq_emod_of_nonneg h0
  have h5 : x.tdiv y = x / y := Int.tdiv_eq_ediv_of_nonneg h0
  have h6 : 0 ≤ x / y := Int.ediv_nonneg h0 (by omega)
  have h7 : x / y ≤ x := Int.ediv_le_self y h0
  unfold BinK; (first | (go_simp; rw [wrap_in (by omega)]; exact Iff.rfl) | (go_simp; rfl) | (go_simp; done))

theorem kbrem2 (x y : Int) (h : 0 ≤ x ∧ 1 ≤ y ∧ x ≤ 9223372036854775807) (K : Value → World → Prop) (w : World) : BinK Tryd.prog .rem 2 (.int .i64 x) (.int .i64 y) K w = K (.int .i64 (x % y)) w := by
  obtain ⟨h0, h1, h2⟩ := h
  have h3 : ¬ y = 0 := by omega
  have h4 : x.tmod y = x % y := Int.tmod_eq_emod_of_nonneg h0
  have h5 : x.tdiv y = x / y := Int.tdiv_eq_ediv_of_nonneg h0
  have h6 : 0 ≤ x / y := Int.ediv_nonneg h0 (by omega)
  have h7 : x / y ≤ x := Int.ediv_le_self y h0
  unfold BinK; (first | (go_simp; rw [wrap_in (by omega)]; exact Iff.rfl) | (go_simp; rfl) | (go_simp; done))

theorem kbneq4 (x y : Bool) (K : Value → World → Prop) (w : World) : BinK Tryd.prog .neq 4 (.bool x) (.bool y) K w = K (.bool (x != y)) w := by
  cases x <;> cases y <;> (unfold BinK; (first | (go_simp; rfl) | (go_simp; done)))

theorem kbeql63 (x y : Int) (K : Value → World → Prop) (w : World) : BinK Tryd.prog .eql 63 (.int .u64 x) (.int .u64 y) K w = K (.bool (x == y)) w := by
  unfold BinK; (first | (go_simp; rfl) | (go_simp; done))

theorem kbleq63 (x y : Int) (K : Value → World → Prop) (w : World) : BinK Tryd.prog .leq 63 (.int .u64 x) (.int .u64 y) K w = K (.bool (decide (x ≤ y))) w := by
  unfold BinK; (first | (go_simp; rfl) | (go_simp; done))

theorem kcv63_2 (x : Int) (K : Value → World → Prop) (w : World) : ConvK Tryd.prog 63 2 (.int .u64 x) K w = K (.int .i64 (IntKind.i64.wrap x)) w := by
  unfold ConvK; (first | (go_simp; rfl) | (go_simp; done))

theorem kuneg2 (x : Int) (K : Value → World → Prop) (w : World) : UnK Tryd.prog .neg (.int .i64 x) K w = K (.int .i64 (IntKind.i64.wrap (-x))) w := by
  unfold UnK; (first | (go_simp; rfl) | (go_simp; done))

theorem kblss9 (x y : ByteArray) (K : Value → World → Prop) (w : World) : BinK Tryd.prog .lss 9 (.string x) (.string y) K w = K (.bool (Op.bytesLess x.toList y.toList)) w := by
  unfold BinK; (first | (go_simp; rfl) | (go_simp; done))

theorem kbgtr9 (x y : ByteArray) (K : Value → World → Prop) (w : World) : BinK Tryd.prog .gtr 9 (.string x) (.string y) K w = K (.bool (!(Op.bytesLess x.toList y.toList || x.toList == y.toList))) w := by
  unfold BinK; (first | (go_simp; rfl) | (go_simp; done))

theorem kbs59_1_0 (v0 : ByteArray) (K : Value → World → Prop) (w : World) : BuildSliceK Tryd.prog 59 1 #[(0, (.string v0))] K w = K (.slice (some ⟨w.heap.size, 0, none⟩) 1 1) (w.alloc (.cells #[(.string v0)] 9)) := by
  unfold BuildSliceK; (first | (go_simp; rfl) | (go_simp; done))

theorem kcv2_5 (x : Int) (K : Value → World → Prop) (w : World) : ConvK Tryd.prog 2 5 (.int .i64 x) K w = K (.int .u8 (IntKind.u8.wrap x)) w := by
  unfold ConvK; (first | (go_simp; rfl) | (go_simp; done))

theorem kbs71_1_0 (v0 : Int) (K : Value → World → Prop) (w : World) : BuildSliceK Tryd.prog 71 1 #[(0, (.int .u8 v0))] K w = K (.slice (some ⟨w.heap.size, 0, none⟩) 1 1) (w.alloc (.cells #[(.int .u8 v0)] 5)) := by
  unfold BuildSliceK; (first | (go_simp; rfl) | (go_simp; done))

theorem kbd24_0_2 (v0 : Int) (v2 : ByteArray) (K : Value → World → Prop) (w : World) : BuildK Tryd.prog 24 #[(0, (.int .i64 v0)), (2, (.string v2))] K w = K (.agg #[(.int .i64 v0), .int .i64 0, (.string v2), .slice none 0 0]) w := by
  unfold BuildK; (first | (go_simp; rfl) | (go_simp; done))

theorem kbd24_0 (v0 : Int) (K : Value → World → Prop) (w : World) : BuildK Tryd.prog 24 #[(0, (.int .i64 v0))] K w = K (.agg #[(.int .i64 v0), .int .i64 0, .string ByteArray.empty, .slice none 0 0]) w := by
  unfold BuildK; (first | (go_simp; rfl) | (go_simp; done))

theorem kst9 (g o : Nat) (v : ByteArray) (K : Value → World → Prop) (w : World) : StoreK Tryd.prog 9 (.pointer (some ⟨g, o, none⟩)) (.string v) K w = OptK (w.cell? ⟨g, o, none⟩) (@hid _ ⟨fun _ => FzK (w.frozen? ⟨g, o, none⟩) (@hid _ ⟨K undef (w.setCell ⟨g, o, none⟩ (.string v))⟩) (StoreRaw Tryd.prog 9 ⟨g, o, none⟩ (.string v) K w)⟩) (StoreRaw Tryd.prog 9 ⟨g, o, none⟩ (.string v) K w) := by
  cases h0 : w.cell? ⟨g, o, none⟩ with
  | none => rfl
  | some x =>
  cases f0 : w.frozen? ⟨g, o, none⟩ with
  | true => rfl
  | false =>
  simp only [optK_some, fzK_false]
  unfold StoreK; (first | (go_simp; rfl) | (go_simp; done))

theorem kbmul63 (x y : Int) (K : Value → World → Prop) (w : World) : BinK Tryd.prog .mul 63 (.int .u64 x) (.int .u64 y) K w = K (.int .u64 (IntKind.u64.wrap (x * y))) w := by
  unfold BinK; (first | (go_simp; rfl) | (go_simp; done))

theorem kbsub5 (x y : Int) (K : Value → World → Prop) (w : World) : BinK Tryd.prog .sub 5 (.int .u8 x) (.int .u8 y) K w = K (.int .u8 (IntKind.u8.wrap (x - y))) w := by
  unfold BinK; (first | (go_simp; rfl) | (go_simp; done))

theorem kcv5_63 (x : Int) (K : Value → World → Prop) (w : World) : ConvK Tryd.prog 5 63 (.int .u8 x) K w = K (.int .u64 (IntKind.u64.wrap x)) w := by
  unfold ConvK; (first | (go_simp; rfl) | (go_simp; done))

theorem kbadd63 (x y : Int) (K : Value → World → Prop) (w : World) : BinK Tryd.prog .add 63 (.int .u64 x) (.int .u64 y) K w = K (.int .u64 (IntKind.u64.wrap (x + y))) w := by
  unfold BinK; (first | (go_simp; rfl) | (go_simp; done))

theorem kbgeq63 (x y : Int) (K : Value → World → Prop) (w : World) : BinK Tryd.prog .geq 63 (.int .u64 x) (.int .u64 y) K w = K (.bool (decide (y ≤ x))) w := by
  unfold BinK; (first | (go_simp; rfl) | (go_simp; done))

theorem kcv2_63 (x : Int) (K : Value → World → Prop) (w : World) : ConvK Tryd.prog 2 63 (.int .i64 x) K w = K (.int .u64 (IntKind.u64.wrap x)) w := by
  unfold ConvK; (first | (go_simp; rfl) | (go_simp; done))

theorem kuneg63 (x : Int) (K : Value → World → Prop) (w : World) : UnK Tryd.prog .neg (.int .u64 x) K w = K (.int .u64 (IntKind.u64.wrap (-x))) w := by
  unfold UnK; (first | (go_simp; rfl) | (go_simp; done))

theorem kbgeq5 (x y : Int) (K : Value → World → Prop) (w : World) : BinK Tryd.prog .geq 5 (.int .u8 x) (.int .u8 y) K w = K (.bool (decide (y ≤ x))) w := by
  unfold BinK; (first | (go_simp; rfl) | (go_simp; done))

theorem kbleq5 (x y : Int) (K : Value → World → Prop) (w : World) : BinK Tryd.prog .leq 5 (.int .u8 x) (.int .u8 y) K w = K (.bool (decide (x ≤ y))) w := by
  unfold BinK; (first | (go_simp; rfl) | (go_simp; done))

theorem kbneq5 (x y : Int) (K : Value → World → Prop) (w : World) : BinK Tryd.prog .neq 5 (.int .u8 x) (.int .u8 y) K w = K (.bool (x != y)) w := by
  unfold BinK; (first | (go_simp; rfl) | (go_simp; done))

theorem kbquo3 (x y : Int) (h : 0 ≤ x ∧ 1 ≤ y ∧ x ≤ 9223372036854775807) (K : Value → World → Prop) (w : World) : BinK Tryd.prog .quo 3 (.int .i64 x) (.int .i64 y) K w = K (.int .i64 (x / y)) w := by
  obtain ⟨h0, h1, h2⟩ := h
  have h3 : ¬ y = 0 := by omega
  have h4 : x.tmod y = x % y := Int.tmod_eq_emod_of_nonneg h0
  have h5 : x.tdiv y = x / y := Int.tdiv_eq_ediv_of_nonneg h0
  have h6 : 0 ≤ x / y := Int.ediv_nonneg h0 (by omega)
  have h7 : x / y ≤ x := Int.ediv_le_self y h0
  unfold BinK; (first | (go_simp; rw [wrap_in (by omega)]; exact Iff.rfl) | (go_simp; rfl) | (go_simp; done))

theorem kbmul3 (x y : Int) (K : Value → World → Prop) (w : World) : BinK Tryd.prog .mul 3 (.int .i64 x) (.int .i64 y) K w = K (.int .i64 (IntKind.i64.wrap (x * y))) w := by
  unfold BinK; (first | (go_simp; rfl) | (go_simp; done))

theorem kal85 (K : Value → World → Prop) (w : World) : AllocK Tryd.prog 85 K w = K (.pointer (some ⟨w.heap.size, 0, none⟩)) (w.alloc (.cells #[.pointer none, .slice none 0 0] 85)) := by
  unfold AllocK; (first | (go_simp; rfl) | (go_simp; done))

theorem ksl59_100z (K : Value → World → Prop) (w : World) : SliceK Tryd.prog 59 (.slice none 0 0) (some (.int .i64 0)) none none K w = K (.slice none 0 0) w := by
  unfold SliceK; (first | (go_simp; rfl) | (go_simp; done) | (go_simp; split <;> simp_all))

theorem ksl59_100 (g o n c : Nat) (l : Int) (hb : 0 ≤ l ∧ l ≤ (n : Int)) (K : Value → World → Prop) (w : World) : SliceK Tryd.prog 59 (.slice (some ⟨g, o, none⟩) n c) (some (.int .i64 l)) none none K w = K (.slice (if c = l.toNat then some ⟨g, o, none⟩ else some ⟨g, o + l.toNat, none⟩) (n - l.toNat) (c - l.toNat)) w := by
  obtain ⟨q0, q1⟩ := hb
  unfold SliceK; (first | (go_simp; rfl) | (go_simp; done) | (go_simp; split <;> simp_all))

theorem kbeql88n (K : Value → World → Prop) (w : World) : BinNK Tryd.prog .eql 88 .nilIface K w = K (.bool true) w := by
  unfold BinNK; go_simp; (first | exact Iff.rfl | exact ⟨fun h => h.2, fun h => ⟨fun xo => by simp [eqGuard], h⟩⟩)

theorem kbeql88i (u : TypeId) (p : Value) (K : Value → World → Prop) (w : World) : BinNK Tryd.prog .eql 88 (.iface u p) K w = K (.bool false) w := by
  unfold BinNK; go_simp; exact Iff.rfl

theorem ksl22_011 (g o n c : Nat) (h m : Int) (hb : 0 ≤ h ∧ h ≤ m ∧ m ≤ (c : Int)) (K : Value → World → Prop) (w : World) : SliceK Tryd.prog 22 (.slice (some ⟨g, o, none⟩) n c) none (some (.int .i64 h)) (some (.int .i64 m)) K w = K (.slice (some ⟨g, o, none⟩) h.toNat m.toNat) w := by
  obtain ⟨q0, q1, q2⟩ := hb
  unfold SliceK; (first | (go_simp; rfl) | (go_simp; done) | (go_simp; split <;> simp_all))

theorem ksl22_011z (K : Value → World → Prop) (w : World) : SliceK Tryd.prog 22 (.slice none 0 0) none (some (.int .i64 0)) (some (.int .i64 0)) K w = K (.slice none 0 0) w := by
  unfold SliceK; (first | (go_simp; rfl) | (go_simp; done) | (go_simp; split <;> simp_all))

theorem kfa85_1 (g o : Nat) (K : Value → World → Prop) (w : World) : FieldAtK Tryd.prog 85 (.pointer (some ⟨g, o, none⟩)) 1 K w = K (.pointer (some ⟨g, o + 1, none⟩)) w := by
  unfold FieldAtK; (first | (go_simp; rfl) | (go_simp; done))

theorem kld71 (a : Addr) (K : Value → World → Prop) (w : World) : LoadK Tryd.prog 71 (.pointer (some a)) K w = OptK (w.cell? a) (@hid _ ⟨fun v => K v w⟩) (LoadRaw Tryd.prog 71 a K w) := by
  exact loadK_eq Tryd.underlying71 rfl a K w

theorem kst71 (g o : Nat) (vA : Option Addr) (vn vc : Nat) (K : Value → World → Prop) (w : World) : StoreK Tryd.prog 71 (.pointer (some ⟨g, o, none⟩)) (.slice vA vn vc) K w = OptK (w.cell? ⟨g, o, none⟩) (@hid _ ⟨fun _ => FzK (w.frozen? ⟨g, o, none⟩) (@hid _ ⟨K undef (w.setCell ⟨g, o, none⟩ (.slice vA vn vc))⟩) (StoreRaw Tryd.prog 71 ⟨g, o, none⟩ (.slice vA vn vc) K w)⟩) (StoreRaw Tryd.prog 71 ⟨g, o, none⟩ (.slice vA vn vc) K w) := by
  cases h0 : w.cell? ⟨g, o, none⟩ with
  | none => rfl
  | some x =>
  cases f0 : w.frozen? ⟨g, o, none⟩ with
  | true => rfl
  | false =>
  simp only [optK_some, fzK_false]
  unfold StoreK; (first | (go_simp; rfl) | (go_simp; done))

theorem ck3 {args : Array Value} {K : Value → World → Prop} {w : World} (h : CallK Tryd.prog 3 args K w) : CallV Tryd.prog (.func (.func 3) #[] #[]) args K w := callV_func Tryd.func3 (by kernel_rfl) (by kernel_rfl) h
theorem ck4 {args : Array Value} {K : Value → World → Prop} {w : World} (h : CallK Tryd.prog 4 args K w) : CallV Tryd.prog (.func (.func 4) #[] #[]) args K w := callV_func Tryd.func4 (by kernel_rfl) (by kernel_rfl) h
theorem ck5 {args : Array Value} {K : Value → World → Prop} {w : World} (h : CallK Tryd.prog 5 args K w) : CallV Tryd.prog (.func (.func 5) #[] #[]) args K w := callV_func Tryd.func5 (by kernel_rfl) (by kernel_rfl) h
theorem ck6 {args : Array Value} {K : Value → World → Prop} {w : World} (h : CallK Tryd.prog 6 args K w) : CallV Tryd.prog (.func (.func 6) #[] #[]) args K w := callV_func Tryd.func6 (by kernel_rfl) (by kernel_rfl) h
theorem ck7 {args : Array Value} {K : Value → World → Prop} {w : World} (h : CallK Tryd.prog 7 args K w) : CallV Tryd.prog (.func (.func 7) #[] #[]) args K w := callV_func Tryd.func7 (by kernel_rfl) (by kernel_rfl) h
theorem ck8 {args : Array Value} {K : Value → World → Prop} {w : World} (h : CallK Tryd.prog 8 args K w) : CallV Tryd.prog (.func (.func 8) #[] #[]) args K w := callV_func Tryd.func8 (by kernel_rfl) (by kernel_rfl) h
theorem ck9 {args : Array Value} {K : Value → World → Prop} {w : World} (h : CallK Tryd.prog 9 args K w) : CallV Tryd.prog (.func (.func 9) #[] #[]) args K w := callV_func Tryd.func9 (by kernel_rfl) (by kernel_rfl) h
theorem ck10 {args : Array Value} {K : Value → World → Prop} {w : World} (h : CallK Tryd.prog 10 args K w) : CallV Tryd.prog (.func (.func 10) #[] #[]) args K w := callV_func Tryd.func10 (by kernel_rfl) (by kernel_rfl) h
theorem ck11 {args : Array Value} {K : Value → World → Prop} {w : World} (h : CallK Tryd.prog 11 args K w) : CallV Tryd.prog (.func (.func 11) #[] #[]) args K w := callV_func Tryd.func11 (by kernel_rfl) (by kernel_rfl) h
theorem ck12 {args : Array Value} {K : Value → World → Prop} {w : World} (h : CallK Tryd.prog 12 args K w) : CallV Tryd.prog (.func (.func 12) #[] #[]) args K w := callV_func Tryd.func12 (by kernel_rfl) (by kernel_rfl) h
theorem ck13 {args : Array Value} {K : Value → World → Prop} {w : World} (h : CallK Tryd.prog 13 args K w) : CallV Tryd.prog (.func (.func 13) #[] #[]) args K w := callV_func Tryd.func13 (by kernel_rfl) (by kernel_rfl) h
theorem ck14 {args : Array Value} {K : Value → World → Prop} {w : World} (h : CallK Tryd.prog 14 args K w) : CallV Tryd.prog (.func (.func 14) #[] #[]) args K w := callV_func Tryd.func14 (by kernel_rfl) (by kernel_rfl) h
theorem ck15 {args : Array Value} {K : Value → World → Prop} {w : World} (h : CallK Tryd.prog 15 args K w) : CallV Tryd.prog (.func (.func 15) #[] #[]) args K w := callV_func Tryd.func15 (by kernel_rfl) (by kernel_rfl) h
theorem ck16 {args : Array Value} {K : Value → World → Prop} {w : World} (h : CallK Tryd.prog 16 args K w) : CallV Tryd.prog (.func (.func 16) #[] #[]) args K w := callV_func Tryd.func16 (by kernel_rfl) (by kernel_rfl) h
theorem ck17 {args : Array Value} {K : Value → World → Prop} {w : World} (h : CallK Tryd.prog 17 args K w) : CallV Tryd.prog (.func (.func 17) #[] #[]) args K w := callV_func Tryd.func17 (by kernel_rfl) (by kernel_rfl) h
theorem ck18 {args : Array Value} {K : Value → World → Prop} {w : World} (h : CallK Tryd.prog 18 args K w) : CallV Tryd.prog (.func (.func 18) #[] #[]) args K w := callV_func Tryd.func18 (by kernel_rfl) (by kernel_rfl) h
theorem ck19 {args : Array Value} {K : Value → World → Prop} {w : World} (h : CallK Tryd.prog 19 args K w) : CallV Tryd.prog (.func (.func 19) #[] #[]) args K w := callV_func Tryd.func19 (by kernel_rfl) (by kernel_rfl) h
theorem ck20 {args : Array Value} {K : Value → World → Prop} {w : World} (h : CallK Tryd.prog 20 args K w) : CallV Tryd.prog (.func (.func 20) #[] #[]) args K w := callV_func Tryd.func20 (by kernel_rfl) (by kernel_rfl) h
theorem ck21 {args : Array Value} {K : Value → World → Prop} {w : World} (h : CallK Tryd.prog 21 args K w) : CallV Tryd.prog (.func (.func 21) #[] #[]) args K w := callV_func Tryd.func21 (by kernel_rfl) (by kernel_rfl) h
theorem ck22 {args : Array Value} {K : Value → World → Prop} {w : World} (h : CallK Tryd.prog 22 args K w) : CallV Tryd.prog (.func (.func 22) #[] #[]) args K w := callV_func Tryd.func22 (by kernel_rfl) (by kernel_rfl) h
theorem ck23 {args : Array Value} {K : Value → World → Prop} {w : World} (h : CallK Tryd.prog 23 args K w) : CallV Tryd.prog (.func (.func 23) #[] #[]) args K w := callV_func Tryd.func23 (by kernel_rfl) (by kernel_rfl) h
theorem ck24 {args : Array Value} {K : Value → World → Prop} {w : World} (h : CallK Tryd.prog 24 args K w) : CallV Tryd.prog (.func (.func 24) #[] #[]) args K w := callV_func Tryd.func24 (by kernel_rfl) (by kernel_rfl) h
theorem ck25 {args : Array Value} {K : Value → World → Prop} {w : World} (h : CallK Tryd.prog 25 args K w) : CallV Tryd.prog (.func (.func 25) #[] #[]) args K w := callV_func Tryd.func25 (by kernel_rfl) (by kernel_rfl) h
theorem ck26 {args : Array Value} {K : Value → World → Prop} {w : World} (h : CallK Tryd.prog 26 args K w) : CallV Tryd.prog (.func (.func 26) #[] #[]) args K w := callV_func Tryd.func26 (by kernel_rfl) (by kernel_rfl) h
theorem ck27 {args : Array Value} {K : Value → World → Prop} {w : World} (h : CallK Tryd.prog 27 args K w) : CallV Tryd.prog (.func (.func 27) #[] #[]) args K w := callV_func Tryd.func27 (by kernel_rfl) (by kernel_rfl) h
theorem ck28 {args : Array Value} {K : Value → World → Prop} {w : World} (h : CallK Tryd.prog 28 args K w) : CallV Tryd.prog (.func (.func 28) #[] #[]) args K w := callV_func Tryd.func28 (by kernel_rfl) (by kernel_rfl) h
theorem ck29 {args : Array Value} {K : Value → World → Prop} {w : World} (h : CallK Tryd.prog 29 args K w) : CallV Tryd.prog (.func (.func 29) #[] #[]) args K w := callV_func Tryd.func29 (by kernel_rfl) (by kernel_rfl) h
theorem ck30 {args : Array Value} {K : Value → World → Prop} {w : World} (h : CallK Tryd.prog 30 args K w) : CallV Tryd.prog (.func (.func 30) #[] #[]) args K w := callV_func Tryd.func30 (by kernel_rfl) (by kernel_rfl) h
theorem ck31 {args : Array Value} {K : Value → World → Prop} {w : World} (h : CallK Tryd.prog 31 args K w) : CallV Tryd.prog (.func (.func 31) #[] #[]) args K w := callV_func Tryd.func31 (by kernel_rfl) (by kernel_rfl) h
theorem ck32 {args : Array Value} {K : Value → World → Prop} {w : World} (h : CallK Tryd.prog 32 args K w) : CallV Tryd.prog (.func (.func 32) #[] #[]) args K w := callV_func Tryd.func32 (by kernel_rfl) (by kernel_rfl) h
theorem ck33 {args : Array Value} {K : Value → World → Prop} {w : World} (h : CallK Tryd.prog 33 args K w) : CallV Tryd.prog (.func (.func 33) #[] #[]) args K w := callV_func Tryd.func33 (by kernel_rfl) (by kernel_rfl) h
theorem ck34 {args : Array Value} {K : Value → World → Prop} {w : World} (h : CallK Tryd.prog 34 args K w) : CallV Tryd.prog (.func (.func 34) #[] #[]) args K w := callV_func Tryd.func34 (by kernel_rfl) (by kernel_rfl) h
theorem ck35 {args : Array Value} {K : Value → World → Prop} {w : World} (h : CallK Tryd.prog 35 args K w) : CallV Tryd.prog (.func (.func 35) #[] #[]) args K w := callV_func Tryd.func35 (by kernel_rfl) (by kernel_rfl) h
theorem ck36 {args : Array Value} {K : Value → World → Prop} {w : World} (h : CallK Tryd.prog 36 args K w) : CallV Tryd.prog (.func (.func 36) #[] #[]) args K w := callV_func Tryd.func36 (by kernel_rfl) (by kernel_rfl) h
theorem ck37 {args : Array Value} {K : Value → World → Prop} {w : World} (h : CallK Tryd.prog 37 args K w) : CallV Tryd.prog (.func (.func 37) #[] #[]) args K w := callV_func Tryd.func37 (by kernel_rfl) (by kernel_rfl) h
theorem ck38 {args : Array Value} {K : Value → World → Prop} {w : World} (h : CallK Tryd.prog 38 args K w) : CallV Tryd.prog (.func (.func 38) #[] #[]) args K w := callV_func Tryd.func38 (by kernel_rfl) (by kernel_rfl) h
theorem ck40 {args : Array Value} {K : Value → World → Prop} {w : World} (h : CallK Tryd.prog 40 args K w) : CallV Tryd.prog (.func (.func 40) #[] #[]) args K w := callV_func Tryd.func40 (by kernel_rfl) (by kernel_rfl) h
theorem ck41 {args : Array Value} {K : Value → World → Prop} {w : World} (h : CallK Tryd.prog 41 args K w) : CallV Tryd.prog (.func (.func 41) #[] #[]) args K w := callV_func Tryd.func41 (by kernel_rfl) (by kernel_rfl) h
theorem ck42 {args : Array Value} {K : Value → World → Prop} {w : World} (h : CallK Tryd.prog 42 args K w) : CallV Tryd.prog (.func (.func 42) #[] #[]) args K w := callV_func Tryd.func42 (by kernel_rfl) (by kernel_rfl) h
theorem ck43 {args : Array Value} {K : Value → World → Prop} {w : World} (h : CallK Tryd.prog 43 args K w) : CallV Tryd.prog (.func (.func 43) #[] #[]) args K w := callV_func Tryd.func43 (by kernel_rfl) (by kernel_rfl) h
theorem ck44 {args : Array Value} {K : Value → World → Prop} {w : World} (h : CallK Tryd.prog 44 args K w) : CallV Tryd.prog (.func (.func 44) #[] #[]) args K w := callV_func Tryd.func44 (by kernel_rfl) (by kernel_rfl) h
theorem ck45 {args : Array Value} {K : Value → World → Prop} {w : World} (h : CallK Tryd.prog 45 args K w) : CallV Tryd.prog (.func (.func 45) #[] #[]) args K w := callV_func Tryd.func45 (by kernel_rfl) (by kernel_rfl) h
theorem ck47 {args : Array Value} {K : Value → World → Prop} {w : World} (h : CallK Tryd.prog 47 args K w) : CallV Tryd.prog (.func (.func 47) #[] #[]) args K w := callV_func Tryd.func47 (by kernel_rfl) (by kernel_rfl) h
theorem ck48 {args : Array Value} {K : Value → World → Prop} {w : World} (h : CallK Tryd.prog 48 args K w) : CallV Tryd.prog (.func (.func 48) #[] #[]) args K w := callV_func Tryd.func48 (by kernel_rfl) (by kernel_rfl) h
theorem ck49 {args : Array Value} {K : Value → World → Prop} {w : World} (h : CallK Tryd.prog 49 args K w) : CallV Tryd.prog (.func (.func 49) #[] #[]) args K w := callV_func Tryd.func49 (by kernel_rfl) (by kernel_rfl) h
theorem ck50 {args : Array Value} {K : Value → World → Prop} {w : World} (h : CallK Tryd.prog 50 args K w) : CallV Tryd.prog (.func (.func 50) #[] #[]) args K w := callV_func Tryd.func50 (by kernel_rfl) (by kernel_rfl) h
theorem ck51 {args : Array Value} {K : Value → World → Prop} {w : World} (h : CallK Tryd.prog 51 args K w) : CallV Tryd.prog (.func (.func 51) #[] #[]) args K w := callV_func Tryd.func51 (by kernel_rfl) (by kernel_rfl) h
theorem ck53 {args : Array Value} {K : Value → World → Prop} {w : World} (h : CallK Tryd.prog 53 args K w) : CallV Tryd.prog (.func (.func 53) #[] #[]) args K w := callV_func Tryd.func53 (by kernel_rfl) (by kernel_rfl) h
theorem ck54 {args : Array Value} {K : Value → World → Prop} {w : World} (h : CallK Tryd.prog 54 args K w) : CallV Tryd.prog (.func (.func 54) #[] #[]) args K w := callV_func Tryd.func54 (by kernel_rfl) (by kernel_rfl) h
theorem ck56 {args : Array Value} {K : Value → World → Prop} {w : World} (h : CallK Tryd.prog 56 args K w) : CallV Tryd.prog (.func (.func 56) #[] #[]) args K w := callV_func Tryd.func56 (by kernel_rfl) (by kernel_rfl) h
theorem ck57 {args : Array Value} {K : Value → World → Prop} {w : World} (h : CallK Tryd.prog 57 args K w) : CallV Tryd.prog (.func (.func 57) #[] #[]) args K w := callV_func Tryd.func57 (by kernel_rfl) (by kernel_rfl) h
theorem ck63 {args : Array Value} {K : Value → World → Prop} {w : World} (h : CallK Tryd.prog 63 args K w) : CallV Tryd.prog (.func (.func 63) #[] #[]) args K w := callV_func Tryd.func63 (by kernel_rfl) (by kernel_rfl) h
theorem cv3 {args : Array Value} {K : Value → World → Prop} {w : World} {v : Value} {R : World → Prop} (h : Calls Tryd.prog 3 args w fun e w' => e = .returned v ∧ R w') (hk : ∀ w', R w' → K v w') : CallV Tryd.prog (.func (.func 3) #[] #[]) args K w := callV_of Tryd.func3 (by kernel_rfl) (by kernel_rfl) h hk
theorem cv4 {args : Array Value} {K : Value → World → Prop} {w : World} {v : Value} {R : World → Prop} (h : Calls Tryd.prog 4 args w fun e w' => e = .returned v ∧ R w') (hk : ∀ w', R w' → K v w') : CallV Tryd.prog (.func (.func 4) #[] #[]) args K w := callV_of Tryd.func4 (by kernel_rfl) (by kernel_rfl) h hk
theorem cv5 {args : Array Value} {K : Value → World → Prop} {w : World} {v : Value} {R : World → Prop} (h : Calls Tryd.prog 5 args w fun e w' => e = .returned v ∧ R w') (hk : ∀ w', R w' → K v w') : CallV Tryd.prog (.func (.func 5) #[] #[]) args K w := callV_of Tryd.func5 (by kernel_rfl) (by kernel_rfl) h hk
theorem cv6 {args : Array Value} {K : Value → World → Prop} {w : World} {v : Value} {R : World → Prop} (h : Calls Tryd.prog 6 args w fun e w' => e = .returned v ∧ R w') (hk : ∀ w', R w' → K v w') : CallV Tryd.prog (.func (.func 6) #[] #[]) args K w := callV_of Tryd.func6 (by kernel_rfl) (by kernel_rfl) h hk
theorem cv7 {args : Array Value} {K : Value → World → Prop} {w : World} {v : Value} {R : World → Prop} (h : Calls Tryd.prog 7 args w fun e w' => e = .returned v ∧ R w') (hk : ∀ w', R w' → K v w') : CallV Tryd.prog (.func (.func 7) #[] #[]) args K w := callV_of Tryd.func7 (by kernel_rfl) (by kernel_rfl) h hk
theorem cv8 {args : Array Value} {K : Value → World → Prop} {w : World} {v : Value} {R : World → Prop} (h : Calls Tryd.prog 8 args w fun e w' => e = .returned v ∧ R w') (hk : ∀ w', R w' → K v w') : CallV Tryd.prog (.func (.func 8) #[] #[]) args K w := callV_of Tryd.func8 (by kernel_rfl) (by kernel_rfl) h hk
theorem cv9 {args : Array Value} {K : Value → World → Prop} {w : World} {v : Value} {R : World → Prop} (h : Calls Tryd.prog 9 args w fun e w' => e = .returned v ∧ R w') (hk : ∀ w', R w' → K v w') : CallV Tryd.prog (.func (.func 9) #[] #[]) args K w := callV_of Tryd.func9 (by kernel_rfl) (by kernel_rfl) h hk
theorem cv10 {args : Array Value} {K : Value → World → Prop} {w : World} {v : Value} {R : World → Prop} (h : Calls Tryd.prog 10 args w fun e w' => e = .returned v ∧ R w') (hk : ∀ w', R w' → K v w') : CallV Tryd.prog (.func (.func 10) #[] #[]) args K w := callV_of Tryd.func10 (by kernel_rfl) (by kernel_rfl) h hk
theorem cv11 {args : Array Value} {K : Value → World → Prop} {w : World} {v : Value} {R : World → Prop} (h : Calls Tryd.prog 11 args w fun e w' => e = .returned v ∧ R w') (hk : ∀ w', R w' → K v w') : CallV Tryd.prog (.func (.func 11) #[] #[]) args K w := callV_of Tryd.func11 (by kernel_rfl) (by kernel_rfl) h hk
theorem cv12 {args : Array Value} {K : Value → World → Prop} {w : World} {v : Value} {R : World → Prop} (h : Calls Tryd.prog 12 args w fun e w' => e = .returned v ∧ R w') (hk : ∀ w', R w' → K v w') : CallV Tryd.prog (.func (.func 12) #[] #[]) args K w := callV_of Tryd.func12 (by kernel_rfl) (by kernel_rfl) h hk
theorem cv13 {args : Array Value} {K : Value → World → Prop} {w : World} {v : Value} {R : World → Prop} (h : Calls Tryd.prog 13 args w fun e w' => e = .returned v ∧ R w') (hk : ∀ w', R w' → K v w') : CallV Tryd.prog (.func (.func 13) #[] #[]) args K w := callV_of Tryd.func13 (by kernel_rfl) (by kernel_rfl) h hk
theorem cv14 {args : Array Value} {K : Value → World → Prop} {w : World} {v : Value} {R : World → Prop} (h : Calls Tryd.prog 14 args w fun e w' => e = .returned v ∧ R w') (hk : ∀ w', R w' → K v w') : CallV Tryd.prog (.func (.func 14) #[] #[]) args K w := callV_of Tryd.func14 (by kernel_rfl) (by kernel_rfl) h hk
theorem cv15 {args : Array Value} {K : Value → World → Prop} {w : World} {v : Value} {R : World → Prop} (h : Calls Tryd.prog 15 args w fun e w' => e = .returned v ∧ R w') (hk : ∀ w', R w' → K v w') : CallV Tryd.prog (.func (.func 15) #[] #[]) args K w := callV_of Tryd.func15 (by kernel_rfl) (by kernel_rfl) h hk
theorem cv16 {args : Array Value} {K : Value → World → Prop} {w : World} {v : Value} {R : World → Prop} (h : Calls Tryd.prog 16 args w fun e w' => e = .returned v ∧ R w') (hk : ∀ w', R w' → K v w') : CallV Tryd.prog (.func (.func 16) #[] #[]) args K w := callV_of Tryd.func16 (by kernel_rfl) (by kernel_rfl) h hk
theorem cv17 {args : Array Value} {K : Value → World → Prop} {w : World} {v : Value} {R : World → Prop} (h : Calls Tryd.prog 17 args w fun e w' => e = .returned v ∧ R w') (hk : ∀ w', R w' → K v w') : CallV Tryd.prog (.func (.func 17) #[] #[]) args K w := callV_of Tryd.func17 (by kernel_rfl) (by kernel_rfl) h hk
theorem cv18 {args : Array Value} {K : Value → World → Prop} {w : World} {v : Value} {R : World → Prop} (h : Calls Tryd.prog 18 args w fun e w' => e = .returned v ∧ R w') (hk : ∀ w', R w' → K v w') : CallV Tryd.prog (.func (.func 18) #[] #[]) args K w := callV_of Tryd.func18 (by kernel_rfl) (by kernel_rfl) h hk
theorem cv19 {args : Array Value} {K : Value → World → Prop} {w : World} {v : Value} {R : World → Prop} (h : Calls Tryd.prog 19 args w fun e w' => e = .returned v ∧ R w') (hk : ∀ w', R w' → K v w') : CallV Tryd.prog (.func (.func 19) #[] #[]) args K w := callV_of Tryd.func19 (by kernel_rfl) (by kernel_rfl) h hk
theorem cv20 {args : Array Value} {K : Value → World → Prop} {w : World} {v : Value} {R : World → Prop} (h : Calls Tryd.prog 20 args w fun e w' => e = .returned v ∧ R w') (hk : ∀ w', R w' → K v w') : CallV Tryd.prog (.func (.func 20) #[] #[]) args K w := callV_of Tryd.func20 (by kernel_rfl) (by kernel_rfl) h hk
theorem cv21 {args : Array Value} {K : Value → World → Prop} {w : World} {v : Value} {R : World → Prop} (h : Calls Tryd.prog 21 args w fun e w' => e = .returned v ∧ R w') (hk : ∀ w', R w' → K v w') : CallV Tryd.prog (.func (.func 21) #[] #[]) args K w := callV_of Tryd.func21 (by kernel_rfl) (by kernel_rfl) h hk
theorem cv22 {args : Array Value} {K : Value → World → Prop} {w : World} {v : Value} {R : World → Prop} (h : Calls Tryd.prog 22 args w fun e w' => e = .returned v ∧ R w') (hk : ∀ w', R w' → K v w') : CallV Tryd.prog (.func (.func 22) #[] #[]) args K w := callV_of Tryd.func22 (by kernel_rfl) (by kernel_rfl) h hk
theorem cv23 {args : Array Value} {K : Value → World → Prop} {w : World} {v : Value} {R : World → Prop} (h : Calls Tryd.prog 23 args w fun e w' => e = .returned v ∧ R w') (hk : ∀ w', R w' → K v w') : CallV Tryd.prog (.func (.func 23) #[] #[]) args K w := callV_of Tryd.func23 (by kernel_rfl) (by kernel_rfl) h hk
theorem cv24 {args : Array Value} {K : Value → World → Prop} {w : World} {v : Value} {R : World → Prop} (h : Calls Tryd.prog 24 args w fun e w' => e = .returned v ∧ R w') (hk : ∀ w', R w' → K v w') : CallV Tryd.prog (.func (.func 24) #[] #[]) args K w := callV_of Tryd.func24 (by kernel_rfl) (by kernel_rfl) h hk
theorem cv25 {args : Array Value} {K : Value → World → Prop} {w : World} {v : Value} {R : World → Prop} (h : Calls Tryd.prog 25 args w fun e w' => e = .returned v ∧ R w') (hk : ∀ w', R w' → K v w') : CallV Tryd.prog (.func (.func 25) #[] #[]) args K w := callV_of Tryd.func25 (by kernel_rfl) (by kernel_rfl) h hk
theorem cv26 {args : Array Value} {K : Value → World → Prop} {w : World} {v : Value} {R : World → Prop} (h : Calls Tryd.prog 26 args w fun e w' => e = .returned v ∧ R w') (hk : ∀ w', R w' → K v w') : CallV Tryd.prog (.func (.func 26) #[] #[]) args K w := callV_of Tryd.func26 (by kernel_rfl) (by kernel_rfl) h hk
theorem cv27 {args : Array Value} {K : Value → World → Prop} {w : World} {v : Value} {R : World → Prop} (h : Calls Tryd.prog 27 args w fun e w' => e = .returned v ∧ R w') (hk : ∀ w', R w' → K v w') : CallV Tryd.prog (.func (.func 27) #[] #[]) args K w := callV_of Tryd.func27 (by kernel_rfl) (by kernel_rfl) h hk
theorem cv28 {args : Array Value} {K : Value → World → Prop} {w : World} {v : Value} {R : World → Prop} (h : Calls Tryd.prog 28 args w fun e w' => e = .returned v ∧ R w') (hk : ∀ w', R w' → K v w') : CallV Tryd.prog (.func (.func 28) #[] #[]) args K w := callV_of Tryd.func28 (by kernel_rfl) (by kernel_rfl) h hk
theorem cv29 {args : Array Value} {K : Value → World → Prop} {w : World} {v : Value} {R : World → Prop} (h : Calls Tryd.prog 29 args w fun e w' => e = .returned v ∧ R w') (hk : ∀ w', R w' → K v w') : CallV Tryd.prog (.func (.func 29) #[] #[]) args K w := callV_of Tryd.func29 (by kernel_rfl) (by kernel_rfl) h hk
theorem cv30 {args : Array Value} {K : Value → World → Prop} {w : World} {v : Value} {R : World → Prop} (h : Calls Tryd.prog 30 args w fun e w' => e = .returned v ∧ R w') (hk : ∀ w', R w' → K v w') : CallV Tryd.prog (.func (.func 30) #[] #[]) args K w := callV_of Tryd.func30 (by kernel_rfl) (by kernel_rfl) h hk
theorem cv31 {args : Array Value} {K : Value → World → Prop} {w : World} {v : Value} {R : World → Prop} (h : Calls Tryd.prog 31 args w fun e w' => e = .returned v ∧ R w') (hk : ∀ w', R w' → K v w') : CallV Tryd.prog (.func (.func 31) #[] #[]) args K w := callV_of Tryd.func31 (by kernel_rfl) (by kernel_rfl) h hk
theorem cv32 {args : Array Value} {K : Value → World → Prop} {w : World} {v : Value} {R : World → Prop} (h : Calls Tryd.prog 32 args w fun e w' => e = .returned v ∧ R w') (hk : ∀ w', R w' → K v w') : CallV Tryd.prog (.func (.func 32) #[] #[]) args K w := callV_of Tryd.func32 (by kernel_rfl) (by kernel_rfl) h hk
theorem cv33 {args : Array Value} {K : Value → World → Prop} {w : World} {v : Value} {R : World → Prop} (h : Calls Tryd.prog 33 args w fun e w' => e = .returned v ∧ R w') (hk : ∀ w', R w' → K v w') : CallV Tryd.prog (.func (.func 33) #[] #[]) args K w := callV_of Tryd.func33 (by kernel_rfl) (by kernel_rfl) h hk
theorem cv34 {args : Array Value} {K : Value → World → Prop} {w : World} {v : Value} {R : World → Prop} (h : Calls Tryd.prog 34 args w fun e w' => e = .returned v ∧ R w') (hk : ∀ w', R w' → K v w') : CallV Tryd.prog (.func (.func 34) #[] #[]) args K w := callV_of Tryd.func34 (by kernel_rfl) (by kernel_rfl) h hk
theorem cv35 {args : Array Value} {K : Value → World → Prop} {w : World} {v : Value} {R : World → Prop} (h : Calls Tryd.prog 35 args w fun e w' => e = .returned v ∧ R w') (hk : ∀ w', R w' → K v w') : CallV Tryd.prog (.func (.func 35) #[] #[]) args K w := callV_of Tryd.func35 (by kernel_rfl) (by kernel_rfl) h hk
theorem cv36 {args : Array Value} {K : Value → World → Prop} {w : World} {v : Value} {R : World → Prop} (h : Calls Tryd.prog 36 args w fun e w' => e = .returned v ∧ R w') (hk : ∀ w', R w' → K v w') : CallV Tryd.prog (.func (.func 36) #[] #[]) args K w := callV_of Tryd.func36 (by kernel_rfl) (by kernel_rfl) h hk
theorem cv37 {args : Array Value} {K : Value → World → Prop} {w : World} {v : Value} {R : World → Prop} (h : Calls Tryd.prog 37 args w fun e w' => e = .returned v ∧ R w') (hk : ∀ w', R w' → K v w') : CallV Tryd.prog (.func (.func 37) #[] #[]) args K w := callV_of Tryd.func37 (by kernel_rfl) (by kernel_rfl) h hk
theorem cv38 {args : Array Value} {K : Value → World → Prop} {w : World} {v : Value} {R : World → Prop} (h : Calls Tryd.prog 38 args w fun e w' => e = .returned v ∧ R w') (hk : ∀ w', R w' → K v w') : CallV Tryd.prog (.func (.func 38) #[] #[]) args K w := callV_of Tryd.func38 (by kernel_rfl) (by kernel_rfl) h hk
theorem cv40 {args : Array Value} {K : Value → World → Prop} {w : World} {v : Value} {R : World → Prop} (h : Calls Tryd.prog 40 args w fun e w' => e = .returned v ∧ R w') (hk : ∀ w', R w' → K v w') : CallV Tryd.prog (.func (.func 40) #[] #[]) args K w := callV_of Tryd.func40 (by kernel_rfl) (by kernel_rfl) h hk
theorem cv41 {args : Array Value} {K : Value → World → Prop} {w : World} {v : Value} {R : World → Prop} (h : Calls Tryd.prog 41 args w fun e w' => e = .returned v ∧ R w') (hk : ∀ w', R w' → K v w') : CallV Tryd.prog (.func (.func 41) #[] #[]) args K w := callV_of Tryd.func41 (by kernel_rfl) (by kernel_rfl) h hk
theorem cv42 {args : Array Value} {K : Value → World → Prop} {w : World} {v : Value} {R : World → Prop} (h : Calls Tryd.prog 42 args w fun e w' => e = .returned v ∧ R w') (hk : ∀ w', R w' → K v w') : CallV Tryd.prog (.func (.func 42) #[] #[]) args K w := callV_of Tryd.func42 (by kernel_rfl) (by kernel_rfl) h hk
theorem cv43 {args : Array Value} {K : Value → World → Prop} {w : World} {v : Value} {R : World → Prop} (h : Calls Tryd.prog 43 args w fun e w' => e = .returned v ∧ R w') (hk : ∀ w', R w' → K v w') : CallV Tryd.prog (.func (.func 43) #[] #[]) args K w := callV_of Tryd.func43 (by kernel_rfl) (by kernel_rfl) h hk
theorem cv44 {args : Array Value} {K : Value → World → Prop} {w : World} {v : Value} {R : World → Prop} (h : Calls Tryd.prog 44 args w fun e w' => e = .returned v ∧ R w') (hk : ∀ w', R w' → K v w') : CallV Tryd.prog (.func (.func 44) #[] #[]) args K w := callV_of Tryd.func44 (by kernel_rfl) (by kernel_rfl) h hk
theorem cv45 {args : Array Value} {K : Value → World → Prop} {w : World} {v : Value} {R : World → Prop} (h : Calls Tryd.prog 45 args w fun e w' => e = .returned v ∧ R w') (hk : ∀ w', R w' → K v w') : CallV Tryd.prog (.func (.func 45) #[] #[]) args K w := callV_of Tryd.func45 (by kernel_rfl) (by kernel_rfl) h hk
theorem cv47 {args : Array Value} {K : Value → World → Prop} {w : World} {v : Value} {R : World → Prop} (h : Calls Tryd.prog 47 args w fun e w' => e = .returned v ∧ R w') (hk : ∀ w', R w' → K v w') : CallV Tryd.prog (.func (.func 47) #[] #[]) args K w := callV_of Tryd.func47 (by kernel_rfl) (by kernel_rfl) h hk
theorem cv48 {args : Array Value} {K : Value → World → Prop} {w : World} {v : Value} {R : World → Prop} (h : Calls Tryd.prog 48 args w fun e w' => e = .returned v ∧ R w') (hk : ∀ w', R w' → K v w') : CallV Tryd.prog (.func (.func 48) #[] #[]) args K w := callV_of Tryd.func48 (by kernel_rfl) (by kernel_rfl) h hk
theorem cv49 {args : Array Value} {K : Value → World → Prop} {w : World} {v : Value} {R : World → Prop} (h : Calls Tryd.prog 49 args w fun e w' => e = .returned v ∧ R w') (hk : ∀ w', R w' → K v w') : CallV Tryd.prog (.func (.func 49) #[] #[]) args K w := callV_of Tryd.func49 (by kernel_rfl) (by kernel_rfl) h hk
theorem cv50 {args : Array Value} {K : Value → World → Prop} {w : World} {v : Value} {R : World → Prop} (h : Calls Tryd.prog 50 args w fun e w' => e = .returned v ∧ R w') (hk : ∀ w', R w' → K v w') : CallV Tryd.prog (.func (.func 50) #[] #[]) args K w := callV_of Tryd.func50 (by kernel_rfl) (by kernel_rfl) h hk
theorem cv51 {args : Array Value} {K : Value → World → Prop} {w : World} {v : Value} {R : World → Prop} (h : Calls Tryd.prog 51 args w fun e w' => e = .returned v ∧ R w') (hk : ∀ w', R w' → K v w') : CallV Tryd.prog (.func (.func 51) #[] #[]) args K w := callV_of Tryd.func51 (by kernel_rfl) (by kernel_rfl) h hk
theorem cv53 {args : Array Value} {K : Value → World → Prop} {w : World} {v : Value} {R : World → Prop} (h : Calls Tryd.prog 53 args w fun e w' => e = .returned v ∧ R w') (hk : ∀ w', R w' → K v w') : CallV Tryd.prog (.func (.func 53) #[] #[]) args K w := callV_of Tryd.func53 (by kernel_rfl) (by kernel_rfl) h hk
theorem cv54 {args : Array Value} {K : Value → World → Prop} {w : World} {v : Value} {R : World → Prop} (h : Calls Tryd.prog 54 args w fun e w' => e = .returned v ∧ R w') (hk : ∀ w', R w' → K v w') : CallV Tryd.prog (.func (.func 54) #[] #[]) args K w := callV_of Tryd.func54 (by kernel_rfl) (by kernel_rfl) h hk
theorem cv56 {args : Array Value} {K : Value → World → Prop} {w : World} {v : Value} {R : World → Prop} (h : Calls Tryd.prog 56 args w fun e w' => e = .returned v ∧ R w') (hk : ∀ w', R w' → K v w') : CallV Tryd.prog (.func (.func 56) #[] #[]) args K w := callV_of Tryd.func56 (by kernel_rfl) (by kernel_rfl) h hk
theorem cv57 {args : Array Value} {K : Value → World → Prop} {w : World} {v : Value} {R : World → Prop} (h : Calls Tryd.prog 57 args w fun e w' => e = .returned v ∧ R w') (hk : ∀ w', R w' → K v w') : CallV Tryd.prog (.func (.func 57) #[] #[]) args K w := callV_of Tryd.func57 (by kernel_rfl) (by kernel_rfl) h hk
theorem cv63 {args : Array Value} {K : Value → World → Prop} {w : World} {v : Value} {R : World → Prop} (h : Calls Tryd.prog 63 args w fun e w' => e = .returned v ∧ R w') (hk : ∀ w', R w' → K v w') : CallV Tryd.prog (.func (.func 63) #[] #[]) args K w := callV_of Tryd.func63 (by kernel_rfl) (by kernel_rfl) h hk

/-- canton/cantonlaw2.ValueAny, its body as a formula. -/
def F3 (x0 x1 : Value) (R : Value → World → Prop) (w0 : World) : Prop :=
  BoxK Tryd.prog 24 x0 (@hid _ ⟨fun t2_1 w2 =>
  BoxK Tryd.prog 24 x1 (@hid _ ⟨fun t3_3 w4 =>
  CallV Tryd.prog (.func (.func 9) #[] #[]) #[] (@hid _ ⟨fun t10_5 w6 =>
  UnK Tryd.prog Go.UnOp.not t10_5 (@hid _ ⟨fun t11_7 w8 =>
  BrK t11_7 (@hid _ ⟨
   R (Go.Value.bool false) w8⟩) (@hid _ ⟨
   LoadK Tryd.prog 24 t2_1 (@hid _ ⟨fun t12_9 w10 =>
   CallV Tryd.prog (.func (.func 10) #[] #[]) #[t12_9] (@hid _ ⟨fun t13_11 w12 =>
   UnK Tryd.prog Go.UnOp.not t13_11 (@hid _ ⟨fun t14_13 w14 =>
   GuardK t14_13 false (fun k w => LoadK Tryd.prog 24 t3_3 k w) (@hid _ ⟨fun t16_15 w16 =>
   GuardK t14_13 false (fun k w => CallV Tryd.prog (.func (.func 10) #[] #[]) #[t16_15] k w) (@hid _ ⟨fun t17_17 w18 =>
   GuardK t14_13 false (fun k w => UnK Tryd.prog Go.UnOp.not t17_17 k w) (@hid _ ⟨fun t18_19 w20 =>
   PickK Tryd.prog t14_13 (Go.Value.bool true) t18_19 (@hid _ ⟨fun t19_21 w22 =>
   BrK t19_21 (@hid _ ⟨
    R (Go.Value.bool true) w22⟩) (@hid _ ⟨
    LoadK Tryd.prog 24 t2_1 (@hid _ ⟨fun t20_23 w24 =>
    CallV Tryd.prog (.func (.func 12) #[] #[]) #[t20_23] (@hid _ ⟨fun t21_25 w26 =>
    CallV Tryd.prog (.func (.func 11) #[] #[]) #[t21_25] (@hid _ ⟨fun t22_27 w28 =>
    LoadK Tryd.prog 24 t3_3 (@hid _ ⟨fun t23_29 w30 =>
    CallV Tryd.prog (.func (.func 12) #[] #[]) #[t23_29] (@hid _ ⟨fun t24_31 w32 =>
    CallV Tryd.prog (.func (.func 11) #[] #[]) #[t24_31] (@hid _ ⟨fun t25_33 w34 =>
    LoadK Tryd.prog 24 t2_1 (@hid _ ⟨fun t26_35 w36 =>
    CallV Tryd.prog (.func (.func 13) #[] #[]) #[t26_35] (@hid _ ⟨fun t27_37 w38 =>
    BinK Tryd.prog Go.BinOp.neq 3 t27_37 t22_27 (@hid _ ⟨fun t29_39 w40 =>
    GuardK t29_39 false (fun k w => LoadK Tryd.prog 24 t3_3 k w) (@hid _ ⟨fun t31_41 w42 =>
    GuardK t29_39 false (fun k w => CallV Tryd.prog (.func (.func 13) #[] #[]) #[t31_41] k w) (@hid _ ⟨fun t32_43 w44 =>
    GuardK t29_39 false (fun k w => k t25_33 w) (@hid _ ⟨fun t33_45 w46 =>
    GuardK t29_39 false (fun k w => BinK Tryd.prog Go.BinOp.neq 3 t32_43 t33_45 k w) (@hid _ ⟨fun t34_47 w48 =>
    PickK Tryd.prog t29_39 (Go.Value.bool true) t34_47 (@hid _ ⟨fun t35_49 w50 =>
    BrK t35_49 (@hid _ ⟨
     R (Go.Value.bool false) w50⟩) (@hid _ ⟨
     DrawK (@hid _ ⟨fun S51 w52 =>
     TakeS Tryd.prog S51 (Instr.loadAt 24 t2_1) (@hid _ ⟨fun t36_53 =>
     TakeS Tryd.prog S51 (Instr.loadAt 24 t3_3) (@hid _ ⟨fun t38_54 =>
     (CallV Tryd.prog (.func (.func 12) #[] #[]) #[t36_53] (@hid _ ⟨fun t37_55 w56 =>
     S51 w56 ∧
     (CallV Tryd.prog (.func (.func 12) #[] #[]) #[t38_54] (@hid _ ⟨fun t39_57 w58 =>
     S51 w58 ∧
     (CallV Tryd.prog (.func (.func 14) #[] #[]) #[t37_55, t39_57] (@hid _ ⟨fun t40_59 w60 =>
     S51 w60 ∧
     DrawK (@hid _ ⟨fun S61 w62 =>
     TakeS Tryd.prog S61 (Instr.loadAt 24 t2_1) (@hid _ ⟨fun t41_63 =>
     TakeS Tryd.prog S61 (Instr.loadAt 24 t3_3) (@hid _ ⟨fun t42_64 =>
     (CallV Tryd.prog (.func (.func 15) #[] #[]) #[t41_63, t42_64] (@hid _ ⟨fun t43_65 w66 =>
     S61 w66 ∧
     BinT Tryd.prog S61 Go.BinOp.neq 3 t43_65 t40_59 (@hid _ ⟨fun t45_67 =>
     TakeG t45_67 false (fun k => TakeS Tryd.prog S61 (Instr.loadAt 24 t3_3) k) (@hid _ ⟨fun t47_68 =>
     TakeG t45_67 false (fun k => TakeS Tryd.prog S61 (Instr.loadAt 24 t2_1) k) (@hid _ ⟨fun t48_69 =>
     TakeG t45_67 false (fun k => k t40_59) (@hid _ ⟨fun t50_70 =>
     TakeG t45_67 false (fun k => BinT Tryd.prog S61 Go.BinOp.sub 3 (Go.Value.int Go.IntKind.i64 0) t50_70 k) (@hid _ ⟨fun t51_71 =>
     (GuardK t45_67 false (fun k w => CallV Tryd.prog (.func (.func 15) #[] #[]) #[t47_68, t48_69] k w) (@hid _ ⟨fun t49_72 w73 =>
     S61 w73 ∧
     TakeG t45_67 false (fun k => BinT Tryd.prog S61 Go.BinOp.neq 3 t49_72 t51_71 k) (@hid _ ⟨fun t52_74 =>
     PickT t45_67 (Go.Value.bool true) t52_74 (@hid _ ⟨fun t53_75 =>
     TakeG t53_75 false (fun k => TakeS Tryd.prog S61 (Instr.loadAt 24 t2_1) k) (@hid _ ⟨fun t55_76 =>
     TakeG t53_75 false (fun k => TakeS Tryd.prog S61 (Instr.loadAt 24 t2_1) k) (@hid _ ⟨fun t57_77 =>
     (GuardK t53_75 false (fun k w => CallV Tryd.prog (.func (.func 16) #[] #[]) #[t55_76] k w) (@hid _ ⟨fun t56_78 w79 =>
     S61 w79 ∧
     (GuardK t53_75 false (fun k w => CallV Tryd.prog (.func (.func 12) #[] #[]) #[t57_77] k w) (@hid _ ⟨fun t58_80 w81 =>
     S61 w81 ∧
     (GuardK t53_75 false (fun k w => CallV Tryd.prog (.func (.func 17) #[] #[]) #[t58_80] k w) (@hid _ ⟨fun t59_82 w83 =>
     S61 w83 ∧
     TakeG t53_75 false (fun k => BinT Tryd.prog S61 Go.BinOp.neq 9 t56_78 t59_82 k) (@hid _ ⟨fun t60_84 =>
     PickT t53_75 (Go.Value.bool true) t60_84 (@hid _ ⟨fun t61_85 =>
     BrK t61_85 (@hid _ ⟨
      R (Go.Value.bool false) w83⟩) (@hid _ ⟨
      BinK Tryd.prog Go.BinOp.neq 3 t22_27 (Go.Value.int Go.IntKind.i64 0) (@hid _ ⟨fun t63_86 w87 =>
      GuardK t63_86 false (fun k w => k t25_33 w) (@hid _ ⟨fun t65_88 w89 =>
      GuardK t63_86 false (fun k w => BinK Tryd.prog Go.BinOp.neq 3 t65_88 (Go.Value.int Go.IntKind.i64 0) k w) (@hid _ ⟨fun t66_90 w91 =>
      PickK Tryd.prog t63_86 (Go.Value.bool true) t66_90 (@hid _ ⟨fun t67_92 w93 =>
      BrK t67_92 (@hid _ ⟨
       R (Go.Value.bool true) w93⟩) (@hid _ ⟨
       LoadK Tryd.prog 24 t2_1 (@hid _ ⟨fun t69_94 w95 =>
       CallV Tryd.prog (.func (.func 16) #[] #[]) #[t69_94] (@hid _ ⟨fun t70_96 w97 =>
       CallV Tryd.prog (.func (.func 18) #[] #[]) #[t70_96] (@hid _ ⟨fun t71_98 w99 =>
       ExtractK Tryd.prog t71_98 0 (@hid _ ⟨fun t72_100 w101 =>
       ExtractK Tryd.prog t71_98 1 (@hid _ ⟨fun t73_102 w103 =>
       AllocK Tryd.prog 24 (@hid _ ⟨fun t8_104 w105 =>
       StoreK Tryd.prog 24 t8_104 t72_100 (@hid _ ⟨fun tu_106 w107 =>
       LoadK Tryd.prog 24 t2_1 (@hid _ ⟨fun t74_108 w109 =>
       LoadK Tryd.prog 24 t3_3 (@hid _ ⟨fun t75_110 w111 =>
       CallV Tryd.prog (.func (.func 19) #[] #[]) #[t74_108, t75_110] (@hid _ ⟨fun t76_112 w113 =>
       BinK Tryd.prog Go.BinOp.eql 3 t40_59 (Go.Value.int Go.IntKind.i64 0) (@hid _ ⟨fun t78_114 w115 =>
       BinK Tryd.prog Go.BinOp.eql 4 t76_112 t78_114 (@hid _ ⟨fun t79_116 w117 =>
       GuardK t79_116 true (fun k w => k t73_102 w) (@hid _ ⟨fun t81_118 w119 =>
       GuardK t79_116 true (fun k w => BinK Tryd.prog Go.BinOp.eql 3 t81_118 (Go.Value.int Go.IntKind.i64 0) k w) (@hid _ ⟨fun t82_120 w121 =>
       PickK Tryd.prog t79_116 t82_120 (Go.Value.bool false) (@hid _ ⟨fun t83_122 w123 =>
       GuardK t83_122 true (fun k w => LoadK Tryd.prog 24 t8_104 k w) (@hid _ ⟨fun t85_124 w125 =>
       GuardK t83_122 true (fun k w => LoadK Tryd.prog 24 t2_1 k w) (@hid _ ⟨fun t86_126 w127 =>
       GuardK t83_122 true (fun k w => CallV Tryd.prog (.func (.func 19) #[] #[]) #[t85_124, t86_126] k w) (@hid _ ⟨fun t87_128 w129 =>
       PickK Tryd.prog t83_122 t87_128 (Go.Value.bool false) (@hid _ ⟨fun t88_130 w131 =>
       GuardK t88_130 true (fun k w => LoadK Tryd.prog 24 t8_104 k w) (@hid _ ⟨fun t90_132 w133 =>
       GuardK t88_130 true (fun k w => LoadK Tryd.prog 24 t2_1 k w) (@hid _ ⟨fun t91_134 w135 =>
       GuardK t88_130 true (fun k w => CallV Tryd.prog (.func (.func 15) #[] #[]) #[t90_132, t91_134] k w) (@hid _ ⟨fun t92_136 w137 =>
       GuardK t88_130 true (fun k w => BinK Tryd.prog Go.BinOp.eql 3 t92_136 (Go.Value.int Go.IntKind.i64 0) k w) (@hid _ ⟨fun t93_138 w139 =>
       PickK Tryd.prog t88_130 t93_138 (Go.Value.bool false) (@hid _ ⟨fun t94_140 w141 =>
       R t94_140 w141⟩) w139⟩) w137⟩) w135⟩) w133⟩) w131⟩) w129⟩) w127⟩) w125⟩) w123⟩) w121⟩) w119⟩) w117⟩) w115⟩) w113⟩) w111⟩) w109⟩) w107⟩) w105⟩) w103⟩) w101⟩) w99⟩) w97⟩) w95⟩) w93⟩)⟩) w91⟩) w89⟩) w87⟩) w83⟩)⟩)⟩)⟩) w81) ∧
     True⟩) w79) ∧
     True⟩) w73) ∧
     True⟩)⟩)⟩)⟩)⟩) w66) ∧
     True⟩)⟩)⟩)⟩)⟩)⟩) w62) ∧
     True⟩)⟩)⟩) w60⟩) w58) ∧
     True⟩) w56) ∧
     True⟩) w52) ∧
     True⟩)⟩)⟩) w50⟩)⟩) w48⟩) w46⟩) w44⟩) w42⟩) w40⟩) w38⟩) w36⟩) w34⟩) w32⟩) w30⟩) w28⟩) w26⟩) w24⟩) w22⟩)⟩) w20⟩) w18⟩) w16⟩) w14⟩) w12⟩) w10⟩) w8⟩)⟩) w6⟩) w4⟩) w2⟩) w0
def a3 : Ann := (.seq .no (.seq (.seq .no (.cond (.seq .no .no) .no)) (.seq (.seq .no (.cond (.seq .no .no) .no)) (.seq .no (.seq .no (.seq (.seq .no (.cond (.seq .no .no) .no)) (.seq (.plan (.take 0 (.take 2 (.alt 1 (.alt 3 (.alt 4 (.take 5 .done) .nil) .nil) .nil)))) (.seq (.seq (.plan (.take 0 (.take 1 (.take 3 (.alt 2 (.take 4 (.take 5 (.take 6 (.take 7 (.take 9 (.take 10 (.alt 8 (.take 11 (.take 12 (.take 13 (.take 14 (.take 16 (.alt 15 (.alt 17 (.alt 18 (.take 19 (.take 20 .done)) .nil) .nil) .nil)))))) .nil))))))) .nil))))) (.cond (.seq .no .no) .no)) (.seq (.seq .no (.cond (.seq .no .no) .no)) (.seq .no (.seq .no .no)))))))))))
theorem F3_eq (x0 x1 : Value) (R : Value → World → Prop) (w0 : World) : F3 x0 x1 R w0 = vc Tryd.prog (bodyOf Tryd.f3) a3 (retQ Tryd.prog Tryd.f3 R) (envOf 0 [x0, x1]) w0 := by kernel_rfl
theorem F3_calls (x0 x1 : Value) (R : Value → World → Prop) (w0 : World) (h : F3 x0 x1 R w0) : CallK Tryd.prog 3 #[x0, x1] R w0 :=
  calls_vc (c := bodyOf Tryd.f3) Tryd.func3 (by kernel_rfl) (by kernel_rfl) a3 (by kernel_rfl) (by kernel_rfl) [x0, x1] (by rw [Tryd.ntmps3]; exact Nat.le_of_ble_eq_true rfl) w0 R ((F3_eq x0 x1 R w0).mp h)

/-- canton/cantonlaw2.ValueTexts, its body as a formula. -/
def F4 (x0 : Value) (R : Value → World → Prop) (w0 : World) : Prop :=
  CallV Tryd.prog (.func (.func 9) #[] #[]) #[] (@hid _ ⟨fun t7_1 w2 =>
  UnK Tryd.prog Go.UnOp.not t7_1 (@hid _ ⟨fun t8_3 w4 =>
  BrK t8_3 (@hid _ ⟨
   R (Go.Value.bool false) w4⟩) (@hid _ ⟨
   BuiltinK Tryd.prog Go.Builtin.len #[9] 3 #[false] #[x0] (@hid _ ⟨fun t10_5 w6 =>
   BinK Tryd.prog Go.BinOp.gtr 3 t10_5 (Go.Value.int Go.IntKind.i64 500) (@hid _ ⟨fun t11_7 w8 =>
   BrK t11_7 (@hid _ ⟨
    R (Go.Value.bool true) w8⟩) (@hid _ ⟨
    CallV Tryd.prog (.func (.func 18) #[] #[]) #[x0] (@hid _ ⟨fun t14_9 w10 =>
    ExtractK Tryd.prog t14_9 0 (@hid _ ⟨fun t15_11 w12 =>
    ExtractK Tryd.prog t14_9 1 (@hid _ ⟨fun t16_13 w14 =>
    AllocK Tryd.prog 24 (@hid _ ⟨fun t3_15 w16 =>
    StoreK Tryd.prog 24 t3_15 t15_11 (@hid _ ⟨fun tu_17 w18 =>
    CallV Tryd.prog (.func (.func 20) #[] #[]) #[x0] (@hid _ ⟨fun t19_19 w20 =>
    ExtractK Tryd.prog t19_19 0 (@hid _ ⟨fun t20_21 w22 =>
    ExtractK Tryd.prog t19_19 1 (@hid _ ⟨fun t21_23 w24 =>
    AllocK Tryd.prog 28 (@hid _ ⟨fun t5_25 w26 =>
    StoreK Tryd.prog 28 t5_25 t20_21 (@hid _ ⟨fun tu_27 w28 =>
    BinK Tryd.prog Go.BinOp.neq 3 t16_13 t21_23 (@hid _ ⟨fun t24_29 w30 =>
    GuardK t24_29 false (fun k w => FieldAtK Tryd.prog 24 t3_15 0 k w) (@hid _ ⟨fun t26_31 w32 =>
    GuardK t24_29 false (fun k w => LoadK Tryd.prog 3 t26_31 k w) (@hid _ ⟨fun t27_33 w34 =>
    GuardK t24_29 false (fun k w => FieldAtK Tryd.prog 28 t5_25 0 k w) (@hid _ ⟨fun t28_35 w36 =>
    GuardK t24_29 false (fun k w => LoadK Tryd.prog 3 t28_35 k w) (@hid _ ⟨fun t29_37 w38 =>
    GuardK t24_29 false (fun k w => BinK Tryd.prog Go.BinOp.neq 3 t27_33 t29_37 k w) (@hid _ ⟨fun t30_39 w40 =>
    PickK Tryd.prog t24_29 (Go.Value.bool true) t30_39 (@hid _ ⟨fun t31_41 w42 =>
    BrK t31_41 (@hid _ ⟨
     R (Go.Value.bool false) w42⟩) (@hid _ ⟨
     DrawK (@hid _ ⟨fun S43 w44 =>
     BinT Tryd.prog S43 Go.BinOp.neq 3 t21_23 (Go.Value.int Go.IntKind.i64 0) (@hid _ ⟨fun t33_45 =>
     TakeG t33_45 false (fun k => TakeS Tryd.prog S43 (Instr.loadAt 24 t3_15) k) (@hid _ ⟨fun t35_46 =>
     TakeG t33_45 false (fun k => TakeS Tryd.prog S43 (Instr.loadAt 28 t5_25) k) (@hid _ ⟨fun t37_47 =>
     (GuardK t33_45 false (fun k w => CallV Tryd.prog (.func (.func 12) #[] #[]) #[t35_46] k w) (@hid _ ⟨fun t36_48 w49 =>
     S43 w49 ∧
     (GuardK t33_45 false (fun k w => CallV Tryd.prog (.func (.func 14) #[] #[]) #[t36_48, t37_47] k w) (@hid _ ⟨fun t38_50 w51 =>
     S43 w51 ∧
     TakeG t33_45 false (fun k => BinT Tryd.prog S43 Go.BinOp.eql 3 t38_50 (Go.Value.int Go.IntKind.i64 0) k) (@hid _ ⟨fun t39_52 =>
     TakeG t33_45 false (fun k => k t39_52) (@hid _ ⟨fun t40_53 =>
     TakeG t40_53 true (fun k => TakeS Tryd.prog S43 (Instr.loadAt 24 t3_15) k) (@hid _ ⟨fun t41_54 =>
     TakeG t40_53 true (fun k => k x0) (@hid _ ⟨fun t43_55 =>
     (GuardK t40_53 true (fun k w => CallV Tryd.prog (.func (.func 16) #[] #[]) #[t41_54] k w) (@hid _ ⟨fun t42_56 w57 =>
     S43 w57 ∧
     TakeG t40_53 true (fun k => BinT Tryd.prog S43 Go.BinOp.eql 9 t42_56 t43_55 k) (@hid _ ⟨fun t44_58 =>
     TakeG t33_45 false (fun k => PickT t40_53 t44_58 (Go.Value.bool false) k) (@hid _ ⟨fun t45_59 =>
     PickT t33_45 (Go.Value.bool true) t45_59 (@hid _ ⟨fun t46_60 =>
     R t46_60 w57⟩)⟩)⟩)⟩) w51) ∧
     True⟩)⟩)⟩)⟩)⟩) w49) ∧
     True⟩) w44) ∧
     True⟩)⟩)⟩)⟩) w42⟩)⟩) w40⟩) w38⟩) w36⟩) w34⟩) w32⟩) w30⟩) w28⟩) w26⟩) w24⟩) w22⟩) w20⟩) w18⟩) w16⟩) w14⟩) w12⟩) w10⟩) w8⟩)⟩) w6⟩) w4⟩)⟩) w2⟩) w0
def a4 : Ann := (.seq .no (.seq (.seq .no (.cond (.seq .no .no) .no)) (.seq (.seq .no (.cond (.seq .no .no) .no)) (.seq .no (.seq .no (.seq (.seq .no (.cond (.seq .no .no) .no)) (.seq (.plan (.take 0 (.take 1 (.take 2 (.take 3 (.take 5 (.alt 4 (.alt 6 (.take 7 (.take 8 (.take 9 (.take 11 (.alt 10 (.take 12 (.take 13 (.take 14 (.take 15 .done)))) .nil))))) .nil) .nil))))))) .no)))))))
theorem F4_eq (x0 : Value) (R : Value → World → Prop) (w0 : World) : F4 x0 R w0 = vc Tryd.prog (bodyOf Tryd.f4) a4 (retQ Tryd.prog Tryd.f4 R) (envOf 0 [x0]) w0 := by kernel_rfl
theorem F4_calls (x0 : Value) (R : Value → World → Prop) (w0 : World) (h : F4 x0 R w0) : CallK Tryd.prog 4 #[x0] R w0 :=
  calls_vc (c := bodyOf Tryd.f4) Tryd.func4 (by kernel_rfl) (by kernel_rfl) a4 (by kernel_rfl) (by kernel_rfl) [x0] (by rw [Tryd.ntmps4]; exact Nat.le_of_ble_eq_true rfl) w0 R ((F4_eq x0 R w0).mp h)

/-- canton/cantonlaw2.ValueOrder, its body as a formula. -/
def F5 (x0 x1 x2 : Value) (R : Value → World → Prop) (w0 : World) : Prop :=
  BoxK Tryd.prog 24 x0 (@hid _ ⟨fun t3_1 w2 =>
  BoxK Tryd.prog 24 x1 (@hid _ ⟨fun t4_3 w4 =>
  BoxK Tryd.prog 24 x2 (@hid _ ⟨fun t5_5 w6 =>
  CallV Tryd.prog (.func (.func 9) #[] #[]) #[] (@hid _ ⟨fun t10_7 w8 =>
  UnK Tryd.prog Go.UnOp.not t10_7 (@hid _ ⟨fun t11_9 w10 =>
  BrK t11_9 (@hid _ ⟨
   R (Go.Value.bool false) w10⟩) (@hid _ ⟨
   LoadK Tryd.prog 24 t3_1 (@hid _ ⟨fun t12_11 w12 =>
   CallV Tryd.prog (.func (.func 10) #[] #[]) #[t12_11] (@hid _ ⟨fun t13_13 w14 =>
   UnK Tryd.prog Go.UnOp.not t13_13 (@hid _ ⟨fun t14_15 w16 =>
   GuardK t14_15 false (fun k w => LoadK Tryd.prog 24 t4_3 k w) (@hid _ ⟨fun t16_17 w18 =>
   GuardK t14_15 false (fun k w => CallV Tryd.prog (.func (.func 10) #[] #[]) #[t16_17] k w) (@hid _ ⟨fun t17_19 w20 =>
   GuardK t14_15 false (fun k w => UnK Tryd.prog Go.UnOp.not t17_19 k w) (@hid _ ⟨fun t18_21 w22 =>
   PickK Tryd.prog t14_15 (Go.Value.bool true) t18_21 (@hid _ ⟨fun t19_23 w24 =>
   GuardK t19_23 false (fun k w => LoadK Tryd.prog 24 t5_5 k w) (@hid _ ⟨fun t21_25 w26 =>
   GuardK t19_23 false (fun k w => CallV Tryd.prog (.func (.func 10) #[] #[]) #[t21_25] k w) (@hid _ ⟨fun t22_27 w28 =>
   GuardK t19_23 false (fun k w => UnK Tryd.prog Go.UnOp.not t22_27 k w) (@hid _ ⟨fun t23_29 w30 =>
   PickK Tryd.prog t19_23 (Go.Value.bool true) t23_29 (@hid _ ⟨fun t24_31 w32 =>
   BrK t24_31 (@hid _ ⟨
    R (Go.Value.bool true) w32⟩) (@hid _ ⟨
    LoadK Tryd.prog 24 t3_1 (@hid _ ⟨fun t25_33 w34 =>
    LoadK Tryd.prog 24 t4_3 (@hid _ ⟨fun t26_35 w36 =>
    CallV Tryd.prog (.func (.func 15) #[] #[]) #[t25_33, t26_35] (@hid _ ⟨fun t27_37 w38 =>
    LoadK Tryd.prog 24 t4_3 (@hid _ ⟨fun t28_39 w40 =>
    LoadK Tryd.prog 24 t5_5 (@hid _ ⟨fun t29_41 w42 =>
    CallV Tryd.prog (.func (.func 15) #[] #[]) #[t28_39, t29_41] (@hid _ ⟨fun t30_43 w44 =>
    BinK Tryd.prog Go.BinOp.gtr 3 t27_37 (Go.Value.int Go.IntKind.i64 0) (@hid _ ⟨fun t32_45 w46 =>
    GuardK t32_45 false (fun k w => k t30_43 w) (@hid _ ⟨fun t34_47 w48 =>
    GuardK t32_45 false (fun k w => BinK Tryd.prog Go.BinOp.gtr 3 t34_47 (Go.Value.int Go.IntKind.i64 0) k w) (@hid _ ⟨fun t35_49 w50 =>
    PickK Tryd.prog t32_45 (Go.Value.bool true) t35_49 (@hid _ ⟨fun t36_51 w52 =>
    BrK t36_51 (@hid _ ⟨
     R (Go.Value.bool true) w52⟩) (@hid _ ⟨
     LoadK Tryd.prog 24 t3_1 (@hid _ ⟨fun t37_53 w54 =>
     LoadK Tryd.prog 24 t5_5 (@hid _ ⟨fun t38_55 w56 =>
     CallV Tryd.prog (.func (.func 15) #[] #[]) #[t37_53, t38_55] (@hid _ ⟨fun t39_57 w58 =>
     BinK Tryd.prog Go.BinOp.leq 3 t39_57 (Go.Value.int Go.IntKind.i64 0) (@hid _ ⟨fun t41_59 w60 =>
     GuardK t41_59 true (fun k w => k t39_57 w) (@hid _ ⟨fun t43_61 w62 =>
     GuardK t41_59 true (fun k w => BinK Tryd.prog Go.BinOp.lss 3 t43_61 (Go.Value.int Go.IntKind.i64 0) k w) (@hid _ ⟨fun t44_63 w64 =>
     GuardK t41_59 true (fun k w => k t27_37 w) (@hid _ ⟨fun t45_65 w66 =>
     GuardK t41_59 true (fun k w => BinK Tryd.prog Go.BinOp.lss 3 t45_65 (Go.Value.int Go.IntKind.i64 0) k w) (@hid _ ⟨fun t46_67 w68 =>
     GuardK t41_59 true (fun k w => k t46_67 w) (@hid _ ⟨fun t47_69 w70 =>
     GuardK t47_69 false (fun k w => k t30_43 w) (@hid _ ⟨fun t48_71 w72 =>
     GuardK t47_69 false (fun k w => BinK Tryd.prog Go.BinOp.lss 3 t48_71 (Go.Value.int Go.IntKind.i64 0) k w) (@hid _ ⟨fun t49_73 w74 =>
     GuardK t41_59 true (fun k w => PickK Tryd.prog t47_69 (Go.Value.bool true) t49_73 k w) (@hid _ ⟨fun t50_75 w76 =>
     GuardK t41_59 true (fun k w => BinK Tryd.prog Go.BinOp.eql 4 t44_63 t50_75 k w) (@hid _ ⟨fun t51_77 w78 =>
     PickK Tryd.prog t41_59 t51_77 (Go.Value.bool false) (@hid _ ⟨fun t52_79 w80 =>
     R t52_79 w80⟩) w78⟩) w76⟩) w74⟩) w72⟩) w70⟩) w68⟩) w66⟩) w64⟩) w62⟩) w60⟩) w58⟩) w56⟩) w54⟩) w52⟩)⟩) w50⟩) w48⟩) w46⟩) w44⟩) w42⟩) w40⟩) w38⟩) w36⟩) w34⟩) w32⟩)⟩) w30⟩) w28⟩) w26⟩) w24⟩) w22⟩) w20⟩) w18⟩) w16⟩) w14⟩) w12⟩) w10⟩)⟩) w8⟩) w6⟩) w4⟩) w2⟩) w0
def a5 : Ann := (.seq .no (.seq (.seq .no (.cond (.seq .no .no) .no)) (.seq (.seq .no (.cond (.seq .no .no) .no)) (.seq .no (.seq .no (.seq (.seq .no (.cond (.seq .no .no) .no)) (.seq .no (.seq .no .no))))))))
theorem F5_eq (x0 x1 x2 : Value) (R : Value → World → Prop) (w0 : World) : F5 x0 x1 x2 R w0 = vc Tryd.prog (bodyOf Tryd.f5) a5 (retQ Tryd.prog Tryd.f5 R) (envOf 0 [x0, x1, x2]) w0 := by kernel_rfl
theorem F5_calls (x0 x1 x2 : Value) (R : Value → World → Prop) (w0 : World) (h : F5 x0 x1 x2 R w0) : CallK Tryd.prog 5 #[x0, x1, x2] R w0 :=
  calls_vc (c := bodyOf Tryd.f5) Tryd.func5 (by kernel_rfl) (by kernel_rfl) a5 (by kernel_rfl) (by kernel_rfl) [x0, x1, x2] (by rw [Tryd.ntmps5]; exact Nat.le_of_ble_eq_true rfl) w0 R ((F5_eq x0 x1 x2 R w0).mp h)

/-- canton/cantonlaw2.ValueDivs, its body as a formula. -/
def F6 (x0 x1 : Value) (R : Value → World → Prop) (w0 : World) : Prop :=
  CallV Tryd.prog (.func (.func 9) #[] #[]) #[] (@hid _ ⟨fun t9_1 w2 =>
  UnK Tryd.prog Go.UnOp.not t9_1 (@hid _ ⟨fun t10_3 w4 =>
  BrK t10_3 (@hid _ ⟨
   R (Go.Value.bool false) w4⟩) (@hid _ ⟨
   CallV Tryd.prog (.func (.func 21) #[] #[]) #[x0, x1] (@hid _ ⟨fun t14_5 w6 =>
   ExtractK Tryd.prog t14_5 0 (@hid _ ⟨fun t15_7 w8 =>
   ExtractK Tryd.prog t14_5 1 (@hid _ ⟨fun t16_9 w10 =>
   CallV Tryd.prog (.func (.func 22) #[] #[]) #[x0, x1] (@hid _ ⟨fun t20_11 w12 =>
   ExtractK Tryd.prog t20_11 0 (@hid _ ⟨fun t21_13 w14 =>
   ExtractK Tryd.prog t20_11 1 (@hid _ ⟨fun t22_15 w16 =>
   BinK Tryd.prog Go.BinOp.eql 2 x1 (Go.Value.int Go.IntKind.i64 0) (@hid _ ⟨fun t24_17 w18 =>
   BrK t24_17 (@hid _ ⟨
    UnK Tryd.prog Go.UnOp.not t16_9 (@hid _ ⟨fun t26_19 w20 =>
    GuardK t26_19 true (fun k w => k t22_15 w) (@hid _ ⟨fun t28_21 w22 =>
    GuardK t26_19 true (fun k w => UnK Tryd.prog Go.UnOp.not t28_21 k w) (@hid _ ⟨fun t29_23 w24 =>
    PickK Tryd.prog t26_19 t29_23 (Go.Value.bool false) (@hid _ ⟨fun t30_25 w26 =>
    GuardK t30_25 true (fun k w => k t15_7 w) (@hid _ ⟨fun t32_27 w28 =>
    GuardK t30_25 true (fun k w => BinK Tryd.prog Go.BinOp.eql 2 t32_27 (Go.Value.int Go.IntKind.i64 0) k w) (@hid _ ⟨fun t33_29 w30 =>
    PickK Tryd.prog t30_25 t33_29 (Go.Value.bool false) (@hid _ ⟨fun t34_31 w32 =>
    GuardK t34_31 true (fun k w => k t21_13 w) (@hid _ ⟨fun t36_33 w34 =>
    GuardK t34_31 true (fun k w => BinK Tryd.prog Go.BinOp.eql 2 t36_33 (Go.Value.int Go.IntKind.i64 0) k w) (@hid _ ⟨fun t37_35 w36 =>
    PickK Tryd.prog t34_31 t37_35 (Go.Value.bool false) (@hid _ ⟨fun t38_37 w38 =>
    R t38_37 w38⟩) w36⟩) w34⟩) w32⟩) w30⟩) w28⟩) w26⟩) w24⟩) w22⟩) w20⟩) w18⟩) (@hid _ ⟨
    BinK Tryd.prog Go.BinOp.eql 2 x0 (Go.Value.int Go.IntKind.i64 (-9223372036854775808)) (@hid _ ⟨fun t40_39 w40 =>
    GuardK t40_39 true (fun k w => k x1 w) (@hid _ ⟨fun t42_41 w42 =>
    GuardK t40_39 true (fun k w => BinK Tryd.prog Go.BinOp.eql 2 t42_41 (Go.Value.int Go.IntKind.i64 (-1)) k w) (@hid _ ⟨fun t43_43 w44 =>
    PickK Tryd.prog t40_39 t43_43 (Go.Value.bool false) (@hid _ ⟨fun t44_45 w46 =>
    BrK t44_45 (@hid _ ⟨
     GuardK t16_9 true (fun k w => k t22_15 w) (@hid _ ⟨fun t47_47 w48 =>
     PickK Tryd.prog t16_9 t47_47 (Go.Value.bool false) (@hid _ ⟨fun t48_49 w50 =>
     GuardK t48_49 true (fun k w => k t15_7 w) (@hid _ ⟨fun t50_51 w52 =>
     GuardK t48_49 true (fun k w => BinK Tryd.prog Go.BinOp.eql 2 t50_51 (Go.Value.int Go.IntKind.i64 9223372036854775807) k w) (@hid _ ⟨fun t51_53 w54 =>
     PickK Tryd.prog t48_49 t51_53 (Go.Value.bool false) (@hid _ ⟨fun t52_55 w56 =>
     GuardK t52_55 true (fun k w => k t21_13 w) (@hid _ ⟨fun t54_57 w58 =>
     GuardK t52_55 true (fun k w => BinK Tryd.prog Go.BinOp.eql 2 t54_57 (Go.Value.int Go.IntKind.i64 0) k w) (@hid _ ⟨fun t55_59 w60 =>
     PickK Tryd.prog t52_55 t55_59 (Go.Value.bool false) (@hid _ ⟨fun t56_61 w62 =>
     R t56_61 w62⟩) w60⟩) w58⟩) w56⟩) w54⟩) w52⟩) w50⟩) w48⟩) w46⟩) (@hid _ ⟨
     GuardK t16_9 true (fun k w => k t22_15 w) (@hid _ ⟨fun t59_63 w64 =>
     PickK Tryd.prog t16_9 t59_63 (Go.Value.bool false) (@hid _ ⟨fun t60_65 w66 =>
     GuardK t60_65 true (fun k w => k t15_7 w) (@hid _ ⟨fun t62_67 w68 =>
     GuardK t60_65 true (fun k w => k x1 w) (@hid _ ⟨fun t63_69 w70 =>
     GuardK t60_65 true (fun k w => BinK Tryd.prog Go.BinOp.mul 2 t62_67 t63_69 k w) (@hid _ ⟨fun t64_71 w72 =>
     GuardK t60_65 true (fun k w => k t21_13 w) (@hid _ ⟨fun t65_73 w74 =>
     GuardK t60_65 true (fun k w => BinK Tryd.prog Go.BinOp.add 2 t64_71 t65_73 k w) (@hid _ ⟨fun t66_75 w76 =>
     GuardK t60_65 true (fun k w => k x0 w) (@hid _ ⟨fun t67_77 w78 =>
     GuardK t60_65 true (fun k w => BinK Tryd.prog Go.BinOp.eql 2 t66_75 t67_77 k w) (@hid _ ⟨fun t68_79 w80 =>
     PickK Tryd.prog t60_65 t68_79 (Go.Value.bool false) (@hid _ ⟨fun t69_81 w82 =>
     GuardK t69_81 true (fun k w => k t21_13 w) (@hid _ ⟨fun t71_83 w84 =>
     GuardK t69_81 true (fun k w => BinK Tryd.prog Go.BinOp.eql 2 t71_83 (Go.Value.int Go.IntKind.i64 0) k w) (@hid _ ⟨fun t72_85 w86 =>
     GuardK t69_81 true (fun k w => k t72_85 w) (@hid _ ⟨fun t73_87 w88 =>
     GuardK t73_87 false (fun k w => k t21_13 w) (@hid _ ⟨fun t74_89 w90 =>
     GuardK t73_87 false (fun k w => BinK Tryd.prog Go.BinOp.lss 2 t74_89 (Go.Value.int Go.IntKind.i64 0) k w) (@hid _ ⟨fun t75_91 w92 =>
     GuardK t73_87 false (fun k w => k x0 w) (@hid _ ⟨fun t76_93 w94 =>
     GuardK t73_87 false (fun k w => BinK Tryd.prog Go.BinOp.lss 2 t76_93 (Go.Value.int Go.IntKind.i64 0) k w) (@hid _ ⟨fun t77_95 w96 =>
     GuardK t73_87 false (fun k w => BinK Tryd.prog Go.BinOp.eql 4 t75_91 t77_95 k w) (@hid _ ⟨fun t78_97 w98 =>
     GuardK t69_81 true (fun k w => PickK Tryd.prog t73_87 (Go.Value.bool true) t78_97 k w) (@hid _ ⟨fun t79_99 w100 =>
     PickK Tryd.prog t69_81 t79_99 (Go.Value.bool false) (@hid _ ⟨fun t80_101 w102 =>
     GuardK t80_101 true (fun k w => k x1 w) (@hid _ ⟨fun t82_103 w104 =>
     GuardK t80_101 true (fun k w => BinK Tryd.prog Go.BinOp.gtr 2 t82_103 (Go.Value.int Go.IntKind.i64 0) k w) (@hid _ ⟨fun t83_105 w106 =>
     GuardK t80_101 true (fun k w => k t83_105 w) (@hid _ ⟨fun t84_107 w108 =>
     GuardK t84_107 true (fun k w => k t21_13 w) (@hid _ ⟨fun t85_109 w110 =>
     GuardK t84_107 true (fun k w => k x1 w) (@hid _ ⟨fun t86_111 w112 =>
     GuardK t84_107 true (fun k w => BinK Tryd.prog Go.BinOp.lss 2 t85_109 t86_111 k w) (@hid _ ⟨fun t87_113 w114 =>
     GuardK t80_101 true (fun k w => PickK Tryd.prog t84_107 t87_113 (Go.Value.bool false) k w) (@hid _ ⟨fun t88_115 w116 =>
     GuardK t80_101 true (fun k w => k t88_115 w) (@hid _ ⟨fun t89_117 w118 =>
     GuardK t89_117 true (fun k w => k t21_13 w) (@hid _ ⟨fun t90_119 w120 =>
     GuardK t89_117 true (fun k w => k x1 w) (@hid _ ⟨fun t91_121 w122 =>
     GuardK t89_117 true (fun k w => BinK Tryd.prog Go.BinOp.sub 2 (Go.Value.int Go.IntKind.i64 0) t91_121 k w) (@hid _ ⟨fun t92_123 w124 =>
     GuardK t89_117 true (fun k w => BinK Tryd.prog Go.BinOp.gtr 2 t90_119 t92_123 k w) (@hid _ ⟨fun t93_125 w126 =>
     GuardK t80_101 true (fun k w => PickK Tryd.prog t89_117 t93_125 (Go.Value.bool false) k w) (@hid _ ⟨fun t94_127 w128 =>
     GuardK t80_101 true (fun k w => k t94_127 w) (@hid _ ⟨fun t95_129 w130 =>
     GuardK t95_129 false (fun k w => k x1 w) (@hid _ ⟨fun t96_131 w132 =>
     GuardK t95_129 false (fun k w => BinK Tryd.prog Go.BinOp.lss 2 t96_131 (Go.Value.int Go.IntKind.i64 0) k w) (@hid _ ⟨fun t97_133 w134 =>
     GuardK t95_129 false (fun k w => k t97_133 w) (@hid _ ⟨fun t98_135 w136 =>
     GuardK t98_135 true (fun k w => k t21_13 w) (@hid _ ⟨fun t99_137 w138 =>
     GuardK t98_135 true (fun k w => k x1 w) (@hid _ ⟨fun t100_139 w140 =>
     GuardK t98_135 true (fun k w => BinK Tryd.prog Go.BinOp.gtr 2 t99_137 t100_139 k w) (@hid _ ⟨fun t101_141 w142 =>
     GuardK t95_129 false (fun k w => PickK Tryd.prog t98_135 t101_141 (Go.Value.bool false) k w) (@hid _ ⟨fun t102_143 w144 =>
     GuardK t95_129 false (fun k w => k t102_143 w) (@hid _ ⟨fun t103_145 w146 =>
     GuardK t103_145 true (fun k w => k x1 w) (@hid _ ⟨fun t104_147 w148 =>
     GuardK t103_145 true (fun k w => BinK Tryd.prog Go.BinOp.eql 2 t104_147 (Go.Value.int Go.IntKind.i64 (-9223372036854775808)) k w) (@hid _ ⟨fun t105_149 w150 =>
     GuardK t103_145 true (fun k w => k t105_149 w) (@hid _ ⟨fun t106_151 w152 =>
     GuardK t106_151 false (fun k w => k t21_13 w) (@hid _ ⟨fun t107_153 w154 =>
     GuardK t106_151 false (fun k w => k x1 w) (@hid _ ⟨fun t108_155 w156 =>
     GuardK t106_151 false (fun k w => BinK Tryd.prog Go.BinOp.sub 2 (Go.Value.int Go.IntKind.i64 0) t108_155 k w) (@hid _ ⟨fun t109_157 w158 =>
     GuardK t106_151 false (fun k w => BinK Tryd.prog Go.BinOp.lss 2 t107_153 t109_157 k w) (@hid _ ⟨fun t110_159 w160 =>
     GuardK t103_145 true (fun k w => PickK Tryd.prog t106_151 (Go.Value.bool true) t110_159 k w) (@hid _ ⟨fun t111_161 w162 =>
     GuardK t95_129 false (fun k w => PickK Tryd.prog t103_145 t111_161 (Go.Value.bool false) k w) (@hid _ ⟨fun t112_163 w164 =>
     GuardK t80_101 true (fun k w => PickK Tryd.prog t95_129 (Go.Value.bool true) t112_163 k w) (@hid _ ⟨fun t113_165 w166 =>
     PickK Tryd.prog t80_101 t113_165 (Go.Value.bool false) (@hid _ ⟨fun t114_167 w168 =>
     R t114_167 w168⟩) w166⟩) w164⟩) w162⟩) w160⟩) w158⟩) w156⟩) w154⟩) w152⟩) w150⟩) w148⟩) w146⟩) w144⟩) w142⟩) w140⟩) w138⟩) w136⟩) w134⟩) w132⟩) w130⟩) w128⟩) w126⟩) w124⟩) w122⟩) w120⟩) w118⟩) w116⟩) w114⟩) w112⟩) w110⟩) w108⟩) w106⟩) w104⟩) w102⟩) w100⟩) w98⟩) w96⟩) w94⟩) w92⟩) w90⟩) w88⟩) w86⟩) w84⟩) w82⟩) w80⟩) w78⟩) w76⟩) w74⟩) w72⟩) w70⟩) w68⟩) w66⟩) w64⟩) w46⟩)⟩) w44⟩) w42⟩) w40⟩) w18⟩)⟩) w16⟩) w14⟩) w12⟩) w10⟩) w8⟩) w6⟩) w4⟩)⟩) w2⟩) w0
def a6 : Ann := (.seq .no (.seq (.seq .no (.cond (.seq .no .no) .no)) (.seq .no (.seq .no (.seq (.seq .no (.cond (.seq .no .no) .no)) (.seq (.seq .no (.cond (.seq .no .no) .no)) (.seq .no .no)))))))
theorem F6_eq (x0 x1 : Value) (R : Value → World → Prop) (w0 : World) : F6 x0 x1 R w0 = vc Tryd.prog (bodyOf Tryd.f6) a6 (retQ Tryd.prog Tryd.f6 R) (envOf 0 [x0, x1]) w0 := by kernel_rfl
theorem F6_calls (x0 x1 : Value) (R : Value → World → Prop) (w0 : World) (h : F6 x0 x1 R w0) : CallK Tryd.prog 6 #[x0, x1] R w0 :=
  calls_vc (c := bodyOf Tryd.f6) Tryd.func6 (by kernel_rfl) (by kernel_rfl) a6 (by kernel_rfl) (by kernel_rfl) [x0, x1] (by rw [Tryd.ntmps6]; exact Nat.le_of_ble_eq_true rfl) w0 R ((F6_eq x0 x1 R w0).mp h)

/-- canton/cantonlaw2.ValueSums, its body as a formula. -/
def F7 (x0 x1 : Value) (R : Value → World → Prop) (w0 : World) : Prop :=
  CallV Tryd.prog (.func (.func 9) #[] #[]) #[] (@hid _ ⟨fun t13_1 w2 =>
  UnK Tryd.prog Go.UnOp.not t13_1 (@hid _ ⟨fun t14_3 w4 =>
  BrK t14_3 (@hid _ ⟨
   R (Go.Value.bool false) w4⟩) (@hid _ ⟨
   CallV Tryd.prog (.func (.func 21) #[] #[]) #[x0, x1] (@hid _ ⟨fun t18_5 w6 =>
   ExtractK Tryd.prog t18_5 0 (@hid _ ⟨fun t19_7 w8 =>
   ExtractK Tryd.prog t18_5 1 (@hid _ ⟨fun t20_9 w10 =>
   CallV Tryd.prog (.func (.func 22) #[] #[]) #[x0, x1] (@hid _ ⟨fun t24_11 w12 =>
   ExtractK Tryd.prog t24_11 0 (@hid _ ⟨fun t25_13 w14 =>
   ExtractK Tryd.prog t24_11 1 (@hid _ ⟨fun t26_15 w16 =>
   CallV Tryd.prog (.func (.func 23) #[] #[]) #[x0, x1] (@hid _ ⟨fun t30_17 w18 =>
   ExtractK Tryd.prog t30_17 0 (@hid _ ⟨fun t31_19 w20 =>
   ExtractK Tryd.prog t30_17 1 (@hid _ ⟨fun t32_21 w22 =>
   CallV Tryd.prog (.func (.func 24) #[] #[]) #[x0, x1] (@hid _ ⟨fun t36_23 w24 =>
   ExtractK Tryd.prog t36_23 0 (@hid _ ⟨fun t37_25 w26 =>
   ExtractK Tryd.prog t36_23 1 (@hid _ ⟨fun t38_27 w28 =>
   CallV Tryd.prog (.func (.func 25) #[] #[]) #[x0, x1] (@hid _ ⟨fun t41_29 w30 =>
   CallV Tryd.prog (.func (.func 26) #[] #[]) #[x0, x1] (@hid _ ⟨fun t44_31 w32 =>
   BinK Tryd.prog Go.BinOp.eql 2 t41_29 t44_31 (@hid _ ⟨fun t45_33 w34 =>
   GuardK t45_33 true (fun k w => k x0 w) (@hid _ ⟨fun t47_35 w36 =>
   GuardK t45_33 true (fun k w => k x1 w) (@hid _ ⟨fun t48_37 w38 =>
   GuardK t45_33 true (fun k w => CallV Tryd.prog (.func (.func 27) #[] #[]) #[t47_35, t48_37] k w) (@hid _ ⟨fun t49_39 w40 =>
   GuardK t45_33 true (fun k w => k x0 w) (@hid _ ⟨fun t50_41 w42 =>
   GuardK t45_33 true (fun k w => k x1 w) (@hid _ ⟨fun t51_43 w44 =>
   GuardK t45_33 true (fun k w => CallV Tryd.prog (.func (.func 28) #[] #[]) #[t50_41, t51_43] k w) (@hid _ ⟨fun t52_45 w46 =>
   GuardK t45_33 true (fun k w => BinK Tryd.prog Go.BinOp.eql 2 t49_39 t52_45 k w) (@hid _ ⟨fun t53_47 w48 =>
   PickK Tryd.prog t45_33 t53_47 (Go.Value.bool false) (@hid _ ⟨fun t54_49 w50 =>
   GuardK t54_49 true (fun k w => k x0 w) (@hid _ ⟨fun t56_51 w52 =>
   GuardK t54_49 true (fun k w => k x1 w) (@hid _ ⟨fun t57_53 w54 =>
   GuardK t54_49 true (fun k w => CallV Tryd.prog (.func (.func 29) #[] #[]) #[t56_51, t57_53] k w) (@hid _ ⟨fun t58_55 w56 =>
   GuardK t54_49 true (fun k w => k x0 w) (@hid _ ⟨fun t59_57 w58 =>
   GuardK t54_49 true (fun k w => k x1 w) (@hid _ ⟨fun t60_59 w60 =>
   GuardK t54_49 true (fun k w => CallV Tryd.prog (.func (.func 30) #[] #[]) #[t59_57, t60_59] k w) (@hid _ ⟨fun t61_61 w62 =>
   GuardK t54_49 true (fun k w => BinK Tryd.prog Go.BinOp.eql 2 t58_55 t61_61 k w) (@hid _ ⟨fun t62_63 w64 =>
   PickK Tryd.prog t54_49 t62_63 (Go.Value.bool false) (@hid _ ⟨fun t63_65 w66 =>
   GuardK t63_65 true (fun k w => k x1 w) (@hid _ ⟨fun t65_67 w68 =>
   GuardK t63_65 true (fun k w => k x0 w) (@hid _ ⟨fun t66_69 w70 =>
   GuardK t63_65 true (fun k w => CallV Tryd.prog (.func (.func 29) #[] #[]) #[t65_67, t66_69] k w) (@hid _ ⟨fun t67_71 w72 =>
   GuardK t63_65 true (fun k w => k x0 w) (@hid _ ⟨fun t68_73 w74 =>
   GuardK t63_65 true (fun k w => k x1 w) (@hid _ ⟨fun t69_75 w76 =>
   GuardK t63_65 true (fun k w => CallV Tryd.prog (.func (.func 30) #[] #[]) #[t68_73, t69_75] k w) (@hid _ ⟨fun t70_77 w78 =>
   GuardK t63_65 true (fun k w => BinK Tryd.prog Go.BinOp.eql 2 t67_71 t70_77 k w) (@hid _ ⟨fun t71_79 w80 =>
   PickK Tryd.prog t63_65 t71_79 (Go.Value.bool false) (@hid _ ⟨fun t72_81 w82 =>
   GuardK t72_81 true (fun k w => k t19_7 w) (@hid _ ⟨fun t74_83 w84 =>
   GuardK t72_81 true (fun k w => k t31_19 w) (@hid _ ⟨fun t75_85 w86 =>
   GuardK t72_81 true (fun k w => BinK Tryd.prog Go.BinOp.eql 2 t74_83 t75_85 k w) (@hid _ ⟨fun t76_87 w88 =>
   PickK Tryd.prog t72_81 t76_87 (Go.Value.bool false) (@hid _ ⟨fun t77_89 w90 =>
   GuardK t77_89 true (fun k w => k t20_9 w) (@hid _ ⟨fun t79_91 w92 =>
   GuardK t77_89 true (fun k w => k t32_21 w) (@hid _ ⟨fun t80_93 w94 =>
   GuardK t77_89 true (fun k w => BinK Tryd.prog Go.BinOp.eql 4 t79_91 t80_93 k w) (@hid _ ⟨fun t81_95 w96 =>
   PickK Tryd.prog t77_89 t81_95 (Go.Value.bool false) (@hid _ ⟨fun t82_97 w98 =>
   GuardK t82_97 true (fun k w => k t25_13 w) (@hid _ ⟨fun t84_99 w100 =>
   GuardK t82_97 true (fun k w => k t37_25 w) (@hid _ ⟨fun t85_101 w102 =>
   GuardK t82_97 true (fun k w => BinK Tryd.prog Go.BinOp.eql 2 t84_99 t85_101 k w) (@hid _ ⟨fun t86_103 w104 =>
   PickK Tryd.prog t82_97 t86_103 (Go.Value.bool false) (@hid _ ⟨fun t87_105 w106 =>
   GuardK t87_105 true (fun k w => k t26_15 w) (@hid _ ⟨fun t89_107 w108 =>
   GuardK t87_105 true (fun k w => k t38_27 w) (@hid _ ⟨fun t90_109 w110 =>
   GuardK t87_105 true (fun k w => BinK Tryd.prog Go.BinOp.eql 4 t89_107 t90_109 k w) (@hid _ ⟨fun t91_111 w112 =>
   PickK Tryd.prog t87_105 t91_111 (Go.Value.bool false) (@hid _ ⟨fun t92_113 w114 =>
   R t92_113 w114⟩) w112⟩) w110⟩) w108⟩) w106⟩) w104⟩) w102⟩) w100⟩) w98⟩) w96⟩) w94⟩) w92⟩) w90⟩) w88⟩) w86⟩) w84⟩) w82⟩) w80⟩) w78⟩) w76⟩) w74⟩) w72⟩) w70⟩) w68⟩) w66⟩) w64⟩) w62⟩) w60⟩) w58⟩) w56⟩) w54⟩) w52⟩) w50⟩) w48⟩) w46⟩) w44⟩) w42⟩) w40⟩) w38⟩) w36⟩) w34⟩) w32⟩) w30⟩) w28⟩) w26⟩) w24⟩) w22⟩) w20⟩) w18⟩) w16⟩) w14⟩) w12⟩) w10⟩) w8⟩) w6⟩) w4⟩)⟩) w2⟩) w0
def a7 : Ann := (.seq .no (.seq (.seq .no (.cond (.seq .no .no) .no)) (.seq .no (.seq .no (.seq .no (.seq .no (.seq .no .no)))))))
theorem F7_eq (x0 x1 : Value) (R : Value → World → Prop) (w0 : World) : F7 x0 x1 R w0 = vc Tryd.prog (bodyOf Tryd.f7) a7 (retQ Tryd.prog Tryd.f7 R) (envOf 0 [x0, x1]) w0 := by kernel_rfl
theorem F7_calls (x0 x1 : Value) (R : Value → World → Prop) (w0 : World) (h : F7 x0 x1 R w0) : CallK Tryd.prog 7 #[x0, x1] R w0 :=
  calls_vc (c := bodyOf Tryd.f7) Tryd.func7 (by kernel_rfl) (by kernel_rfl) a7 (by kernel_rfl) (by kernel_rfl) [x0, x1] (by rw [Tryd.ntmps7]; exact Nat.le_of_ble_eq_true rfl) w0 R ((F7_eq x0 x1 R w0).mp h)

/-- canton/cantonlaw2.ValueEnds, its body as a formula. -/
def F8 (x0 x1 x2 : Value) (R : Value → World → Prop) (w0 : World) : Prop :=
  CallV Tryd.prog (.func (.func 9) #[] #[]) #[] (@hid _ ⟨fun t11_1 w2 =>
  UnK Tryd.prog Go.UnOp.not t11_1 (@hid _ ⟨fun t12_3 w4 =>
  BrK t12_3 (@hid _ ⟨
   R (Go.Value.bool false) w4⟩) (@hid _ ⟨
   CallV Tryd.prog (.func (.func 25) #[] #[]) #[x0, x1] (@hid _ ⟨fun t15_5 w6 =>
   BinK Tryd.prog Go.BinOp.lss 2 x1 (Go.Value.int Go.IntKind.i64 0) (@hid _ ⟨fun t17_7 w8 =>
   GuardK t17_7 false (fun k w => k t15_5 w) (@hid _ ⟨fun t19_9 w10 =>
   GuardK t17_7 false (fun k w => k x0 w) (@hid _ ⟨fun t20_11 w12 =>
   GuardK t17_7 false (fun k w => BinK Tryd.prog Go.BinOp.geq 2 t19_9 t20_11 k w) (@hid _ ⟨fun t21_13 w14 =>
   PickK Tryd.prog t17_7 (Go.Value.bool true) t21_13 (@hid _ ⟨fun t22_15 w16 =>
   BinK Tryd.prog Go.BinOp.gtr 2 x1 (Go.Value.int Go.IntKind.i64 0) (@hid _ ⟨fun t24_17 w18 =>
   GuardK t24_17 false (fun k w => k t15_5 w) (@hid _ ⟨fun t26_19 w20 =>
   GuardK t24_17 false (fun k w => k x0 w) (@hid _ ⟨fun t27_21 w22 =>
   GuardK t24_17 false (fun k w => BinK Tryd.prog Go.BinOp.leq 2 t26_19 t27_21 k w) (@hid _ ⟨fun t28_23 w24 =>
   PickK Tryd.prog t24_17 (Go.Value.bool true) t28_23 (@hid _ ⟨fun t29_25 w26 =>
   BinK Tryd.prog Go.BinOp.leq 2 x1 x2 (@hid _ ⟨fun t32_27 w28 =>
   GuardK t32_27 true (fun k w => k x0 w) (@hid _ ⟨fun t34_29 w30 =>
   GuardK t32_27 true (fun k w => k x1 w) (@hid _ ⟨fun t35_31 w32 =>
   GuardK t32_27 true (fun k w => CallV Tryd.prog (.func (.func 25) #[] #[]) #[t34_29, t35_31] k w) (@hid _ ⟨fun t36_33 w34 =>
   GuardK t32_27 true (fun k w => k x0 w) (@hid _ ⟨fun t37_35 w36 =>
   GuardK t32_27 true (fun k w => k x2 w) (@hid _ ⟨fun t38_37 w38 =>
   GuardK t32_27 true (fun k w => CallV Tryd.prog (.func (.func 25) #[] #[]) #[t37_35, t38_37] k w) (@hid _ ⟨fun t39_39 w40 =>
   GuardK t32_27 true (fun k w => BinK Tryd.prog Go.BinOp.leq 2 t36_33 t39_39 k w) (@hid _ ⟨fun t40_41 w42 =>
   PickK Tryd.prog t32_27 t40_41 (Go.Value.bool false) (@hid _ ⟨fun t41_43 w44 =>
   GuardK t41_43 false (fun k w => k x1 w) (@hid _ ⟨fun t43_45 w46 =>
   GuardK t41_43 false (fun k w => k x2 w) (@hid _ ⟨fun t44_47 w48 =>
   GuardK t41_43 false (fun k w => BinK Tryd.prog Go.BinOp.gtr 2 t43_45 t44_47 k w) (@hid _ ⟨fun t45_49 w50 =>
   GuardK t41_43 false (fun k w => k t45_49 w) (@hid _ ⟨fun t46_51 w52 =>
   GuardK t46_51 true (fun k w => k x0 w) (@hid _ ⟨fun t47_53 w54 =>
   GuardK t46_51 true (fun k w => k x1 w) (@hid _ ⟨fun t48_55 w56 =>
   GuardK t46_51 true (fun k w => CallV Tryd.prog (.func (.func 25) #[] #[]) #[t47_53, t48_55] k w) (@hid _ ⟨fun t49_57 w58 =>
   GuardK t46_51 true (fun k w => k x0 w) (@hid _ ⟨fun t50_59 w60 =>
   GuardK t46_51 true (fun k w => k x2 w) (@hid _ ⟨fun t51_61 w62 =>
   GuardK t46_51 true (fun k w => CallV Tryd.prog (.func (.func 25) #[] #[]) #[t50_59, t51_61] k w) (@hid _ ⟨fun t52_63 w64 =>
   GuardK t46_51 true (fun k w => BinK Tryd.prog Go.BinOp.geq 2 t49_57 t52_63 k w) (@hid _ ⟨fun t53_65 w66 =>
   GuardK t41_43 false (fun k w => PickK Tryd.prog t46_51 t53_65 (Go.Value.bool false) k w) (@hid _ ⟨fun t54_67 w68 =>
   PickK Tryd.prog t41_43 (Go.Value.bool true) t54_67 (@hid _ ⟨fun t55_69 w70 =>
   GuardK t22_15 true (fun k w => k t29_25 w) (@hid _ ⟨fun t58_71 w72 =>
   PickK Tryd.prog t22_15 t58_71 (Go.Value.bool false) (@hid _ ⟨fun t59_73 w74 =>
   GuardK t59_73 true (fun k w => k t55_69 w) (@hid _ ⟨fun t61_75 w76 =>
   PickK Tryd.prog t59_73 t61_75 (Go.Value.bool false) (@hid _ ⟨fun t62_77 w78 =>
   GuardK t62_77 true (fun k w => k x0 w) (@hid _ ⟨fun t64_79 w80 =>
   GuardK t62_77 true (fun k w => k x1 w) (@hid _ ⟨fun t65_81 w82 =>
   GuardK t62_77 true (fun k w => CallV Tryd.prog (.func (.func 25) #[] #[]) #[t64_79, t65_81] k w) (@hid _ ⟨fun t66_83 w84 =>
   GuardK t62_77 true (fun k w => k x1 w) (@hid _ ⟨fun t67_85 w86 =>
   GuardK t62_77 true (fun k w => k x0 w) (@hid _ ⟨fun t68_87 w88 =>
   GuardK t62_77 true (fun k w => CallV Tryd.prog (.func (.func 25) #[] #[]) #[t67_85, t68_87] k w) (@hid _ ⟨fun t69_89 w90 =>
   GuardK t62_77 true (fun k w => BinK Tryd.prog Go.BinOp.eql 2 t66_83 t69_89 k w) (@hid _ ⟨fun t70_91 w92 =>
   PickK Tryd.prog t62_77 t70_91 (Go.Value.bool false) (@hid _ ⟨fun t71_93 w94 =>
   GuardK t71_93 true (fun k w => k x0 w) (@hid _ ⟨fun t73_95 w96 =>
   GuardK t71_93 true (fun k w => CallV Tryd.prog (.func (.func 25) #[] #[]) #[t73_95, (Go.Value.int Go.IntKind.i64 0)] k w) (@hid _ ⟨fun t74_97 w98 =>
   GuardK t71_93 true (fun k w => k x0 w) (@hid _ ⟨fun t75_99 w100 =>
   GuardK t71_93 true (fun k w => BinK Tryd.prog Go.BinOp.eql 2 t74_97 t75_99 k w) (@hid _ ⟨fun t76_101 w102 =>
   PickK Tryd.prog t71_93 t76_101 (Go.Value.bool false) (@hid _ ⟨fun t77_103 w104 =>
   GuardK t77_103 true (fun k w => k x0 w) (@hid _ ⟨fun t79_105 w106 =>
   GuardK t77_103 true (fun k w => CallV Tryd.prog (.func (.func 27) #[] #[]) #[t79_105, (Go.Value.int Go.IntKind.i64 0)] k w) (@hid _ ⟨fun t80_107 w108 =>
   GuardK t77_103 true (fun k w => k x0 w) (@hid _ ⟨fun t81_109 w110 =>
   GuardK t77_103 true (fun k w => BinK Tryd.prog Go.BinOp.eql 2 t80_107 t81_109 k w) (@hid _ ⟨fun t82_111 w112 =>
   PickK Tryd.prog t77_103 t82_111 (Go.Value.bool false) (@hid _ ⟨fun t83_113 w114 =>
   GuardK t83_113 true (fun k w => k x0 w) (@hid _ ⟨fun t85_115 w116 =>
   GuardK t83_113 true (fun k w => k x0 w) (@hid _ ⟨fun t86_117 w118 =>
   GuardK t83_113 true (fun k w => CallV Tryd.prog (.func (.func 27) #[] #[]) #[t85_115, t86_117] k w) (@hid _ ⟨fun t87_119 w120 =>
   GuardK t83_113 true (fun k w => BinK Tryd.prog Go.BinOp.eql 2 t87_119 (Go.Value.int Go.IntKind.i64 0) k w) (@hid _ ⟨fun t88_121 w122 =>
   PickK Tryd.prog t83_113 t88_121 (Go.Value.bool false) (@hid _ ⟨fun t89_123 w124 =>
   GuardK t89_123 true (fun k w => k x0 w) (@hid _ ⟨fun t91_125 w126 =>
   GuardK t89_123 true (fun k w => CallV Tryd.prog (.func (.func 29) #[] #[]) #[t91_125, (Go.Value.int Go.IntKind.i64 1)] k w) (@hid _ ⟨fun t92_127 w128 =>
   GuardK t89_123 true (fun k w => k x0 w) (@hid _ ⟨fun t93_129 w130 =>
   GuardK t89_123 true (fun k w => BinK Tryd.prog Go.BinOp.eql 2 t92_127 t93_129 k w) (@hid _ ⟨fun t94_131 w132 =>
   PickK Tryd.prog t89_123 t94_131 (Go.Value.bool false) (@hid _ ⟨fun t95_133 w134 =>
   GuardK t95_133 true (fun k w => k x0 w) (@hid _ ⟨fun t97_135 w136 =>
   GuardK t95_133 true (fun k w => CallV Tryd.prog (.func (.func 29) #[] #[]) #[t97_135, (Go.Value.int Go.IntKind.i64 0)] k w) (@hid _ ⟨fun t98_137 w138 =>
   GuardK t95_133 true (fun k w => BinK Tryd.prog Go.BinOp.eql 2 t98_137 (Go.Value.int Go.IntKind.i64 0) k w) (@hid _ ⟨fun t99_139 w140 =>
   PickK Tryd.prog t95_133 t99_139 (Go.Value.bool false) (@hid _ ⟨fun t100_141 w142 =>
   R t100_141 w142⟩) w140⟩) w138⟩) w136⟩) w134⟩) w132⟩) w130⟩) w128⟩) w126⟩) w124⟩) w122⟩) w120⟩) w118⟩) w116⟩) w114⟩) w112⟩) w110⟩) w108⟩) w106⟩) w104⟩) w102⟩) w100⟩) w98⟩) w96⟩) w94⟩) w92⟩) w90⟩) w88⟩) w86⟩) w84⟩) w82⟩) w80⟩) w78⟩) w76⟩) w74⟩) w72⟩) w70⟩) w68⟩) w66⟩) w64⟩) w62⟩) w60⟩) w58⟩) w56⟩) w54⟩) w52⟩) w50⟩) w48⟩) w46⟩) w44⟩) w42⟩) w40⟩) w38⟩) w36⟩) w34⟩) w32⟩) w30⟩) w28⟩) w26⟩) w24⟩) w22⟩) w20⟩) w18⟩) w16⟩) w14⟩) w12⟩) w10⟩) w8⟩) w6⟩) w4⟩)⟩) w2⟩) w0
def a8 : Ann := (.seq .no (.seq (.seq .no (.cond (.seq .no .no) .no)) (.seq .no (.seq .no (.seq .no (.seq .no (.seq .no .no)))))))
theorem F8_eq (x0 x1 x2 : Value) (R : Value → World → Prop) (w0 : World) : F8 x0 x1 x2 R w0 = vc Tryd.prog (bodyOf Tryd.f8) a8 (retQ Tryd.prog Tryd.f8 R) (envOf 0 [x0, x1, x2]) w0 := by kernel_rfl
theorem F8_calls (x0 x1 x2 : Value) (R : Value → World → Prop) (w0 : World) (h : F8 x0 x1 x2 R w0) : CallK Tryd.prog 8 #[x0, x1, x2] R w0 :=
  calls_vc (c := bodyOf Tryd.f8) Tryd.func8 (by kernel_rfl) (by kernel_rfl) a8 (by kernel_rfl) (by kernel_rfl) [x0, x1, x2] (by rw [Tryd.ntmps8]; exact Nat.le_of_ble_eq_true rfl) w0 R ((F8_eq x0 x1 x2 R w0).mp h)

/-- canton/cantonlaw2.known, its body as a formula. -/
def F9 (R : Value → World → Prop) (w0 : World) : Prop :=
  CallV Tryd.prog (.func (.func 18) #[] #[]) #[(Go.Value.string { data := #[91, 49, 32, 53, 93] })] (@hid _ ⟨fun t14_1 w2 =>
  ExtractK Tryd.prog t14_1 0 (@hid _ ⟨fun t15_3 w4 =>
  ExtractK Tryd.prog t14_1 1 (@hid _ ⟨fun t16_5 w6 =>
  AllocK Tryd.prog 24 (@hid _ ⟨fun t1_7 w8 =>
  StoreK Tryd.prog 24 t1_7 t15_3 (@hid _ ⟨fun tu_9 w10 =>
  CallV Tryd.prog (.func (.func 18) #[] #[]) #[(Go.Value.string { data := #[34, 120, 32, 121, 34] })] (@hid _ ⟨fun t18_11 w12 =>
  ExtractK Tryd.prog t18_11 0 (@hid _ ⟨fun t19_13 w14 =>
  ExtractK Tryd.prog t18_11 1 (@hid _ ⟨fun t20_15 w16 =>
  AllocK Tryd.prog 24 (@hid _ ⟨fun t3_17 w18 =>
  StoreK Tryd.prog 24 t3_17 t19_13 (@hid _ ⟨fun tu_19 w20 =>
  CallV Tryd.prog (.func (.func 18) #[] #[]) #[(Go.Value.string { data := #[48, 49] })] (@hid _ ⟨fun t22_21 w22 =>
  ExtractK Tryd.prog t22_21 0 (@hid _ ⟨fun t23_23 w24 =>
  ExtractK Tryd.prog t22_21 1 (@hid _ ⟨fun t24_25 w26 =>
  AllocK Tryd.prog 24 (@hid _ ⟨fun t5_27 w28 =>
  StoreK Tryd.prog 24 t5_27 t23_23 (@hid _ ⟨fun tu_29 w30 =>
  CallV Tryd.prog (.func (.func 21) #[] #[]) #[(Go.Value.int Go.IntKind.i64 (-7)), (Go.Value.int Go.IntKind.i64 2)] (@hid _ ⟨fun t26_31 w32 =>
  ExtractK Tryd.prog t26_31 0 (@hid _ ⟨fun t27_33 w34 =>
  ExtractK Tryd.prog t26_31 1 (@hid _ ⟨fun t28_35 w36 =>
  CallV Tryd.prog (.func (.func 22) #[] #[]) #[(Go.Value.int Go.IntKind.i64 (-7)), (Go.Value.int Go.IntKind.i64 2)] (@hid _ ⟨fun t30_37 w38 =>
  ExtractK Tryd.prog t30_37 0 (@hid _ ⟨fun t31_39 w40 =>
  ExtractK Tryd.prog t30_37 1 (@hid _ ⟨fun t32_41 w42 =>
  CallV Tryd.prog (.func (.func 21) #[] #[]) #[(Go.Value.int Go.IntKind.i64 1), (Go.Value.int Go.IntKind.i64 0)] (@hid _ ⟨fun t34_43 w44 =>
  ExtractK Tryd.prog t34_43 0 (@hid _ ⟨fun t35_45 w46 =>
  ExtractK Tryd.prog t34_43 1 (@hid _ ⟨fun t36_47 w48 =>
  BinK Tryd.prog Go.BinOp.add 3 t16_5 t20_15 (@hid _ ⟨fun t39_49 w50 =>
  BinK Tryd.prog Go.BinOp.eql 3 t39_49 (Go.Value.int Go.IntKind.i64 0) (@hid _ ⟨fun t40_51 w52 =>
  GuardK t40_51 true (fun k w => k t24_25 w) (@hid _ ⟨fun t42_53 w54 =>
  GuardK t40_51 true (fun k w => BinK Tryd.prog Go.BinOp.eql 3 t42_53 (Go.Value.int Go.IntKind.i64 2) k w) (@hid _ ⟨fun t43_55 w56 =>
  PickK Tryd.prog t40_51 t43_55 (Go.Value.bool false) (@hid _ ⟨fun t44_57 w58 =>
  GuardK t44_57 true (fun k w => FieldAtK Tryd.prog 24 t1_7 3 k w) (@hid _ ⟨fun t46_59 w60 =>
  GuardK t44_57 true (fun k w => LoadK Tryd.prog 22 t46_59 k w) (@hid _ ⟨fun t47_61 w62 =>
  GuardK t44_57 true (fun k w => BuiltinK Tryd.prog Go.Builtin.len #[22] 3 #[false] #[t47_61] k w) (@hid _ ⟨fun t48_63 w64 =>
  GuardK t44_57 true (fun k w => BinK Tryd.prog Go.BinOp.eql 3 t48_63 (Go.Value.int Go.IntKind.i64 2) k w) (@hid _ ⟨fun t49_65 w66 =>
  PickK Tryd.prog t44_57 t49_65 (Go.Value.bool false) (@hid _ ⟨fun t50_67 w68 =>
  GuardK t50_67 true (fun k w => FieldAtK Tryd.prog 24 t3_17 2 k w) (@hid _ ⟨fun t52_69 w70 =>
  GuardK t50_67 true (fun k w => LoadK Tryd.prog 9 t52_69 k w) (@hid _ ⟨fun t53_71 w72 =>
  GuardK t50_67 true (fun k w => BinK Tryd.prog Go.BinOp.eql 9 t53_71 (Go.Value.string { data := #[120, 32, 121] }) k w) (@hid _ ⟨fun t54_73 w74 =>
  PickK Tryd.prog t50_67 t54_73 (Go.Value.bool false) (@hid _ ⟨fun t55_75 w76 =>
  GuardK t55_75 true (fun k w => LoadK Tryd.prog 24 t1_7 k w) (@hid _ ⟨fun t57_77 w78 =>
  GuardK t55_75 true (fun k w => CallV Tryd.prog (.func (.func 16) #[] #[]) #[t57_77] k w) (@hid _ ⟨fun t58_79 w80 =>
  GuardK t55_75 true (fun k w => BinK Tryd.prog Go.BinOp.eql 9 t58_79 (Go.Value.string { data := #[91, 49, 32, 53, 93] }) k w) (@hid _ ⟨fun t59_81 w82 =>
  PickK Tryd.prog t55_75 t59_81 (Go.Value.bool false) (@hid _ ⟨fun t60_83 w84 =>
  GuardK t60_83 true (fun k w => BuildK Tryd.prog 24 #[(0, (Go.Value.int Go.IntKind.i64 1)), (1, (Go.Value.int Go.IntKind.i64 (-3)))] k w) (@hid _ ⟨fun t62_85 w86 =>
  GuardK t60_83 true (fun k w => CallV Tryd.prog (.func (.func 16) #[] #[]) #[t62_85] k w) (@hid _ ⟨fun t63_87 w88 =>
  GuardK t60_83 true (fun k w => BinK Tryd.prog Go.BinOp.eql 9 t63_87 (Go.Value.string { data := #[45, 51] }) k w) (@hid _ ⟨fun t64_89 w90 =>
  PickK Tryd.prog t60_83 t64_89 (Go.Value.bool false) (@hid _ ⟨fun t65_91 w92 =>
  GuardK t65_91 true (fun k w => LoadK Tryd.prog 24 t1_7 k w) (@hid _ ⟨fun t67_93 w94 =>
  GuardK t65_91 true (fun k w => LoadK Tryd.prog 24 t3_17 k w) (@hid _ ⟨fun t68_95 w96 =>
  GuardK t65_91 true (fun k w => CallV Tryd.prog (.func (.func 15) #[] #[]) #[t67_93, t68_95] k w) (@hid _ ⟨fun t69_97 w98 =>
  GuardK t65_91 true (fun k w => BinK Tryd.prog Go.BinOp.eql 3 t69_97 (Go.Value.int Go.IntKind.i64 1) k w) (@hid _ ⟨fun t70_99 w100 =>
  PickK Tryd.prog t65_91 t70_99 (Go.Value.bool false) (@hid _ ⟨fun t71_101 w102 =>
  GuardK t71_101 true (fun k w => LoadK Tryd.prog 24 t1_7 k w) (@hid _ ⟨fun t73_103 w104 =>
  GuardK t71_101 true (fun k w => LoadK Tryd.prog 24 t1_7 k w) (@hid _ ⟨fun t74_105 w106 =>
  GuardK t71_101 true (fun k w => CallV Tryd.prog (.func (.func 19) #[] #[]) #[t73_103, t74_105] k w) (@hid _ ⟨fun t75_107 w108 =>
  PickK Tryd.prog t71_101 t75_107 (Go.Value.bool false) (@hid _ ⟨fun t76_109 w110 =>
  GuardK t76_109 true (fun k w => CallV Tryd.prog (.func (.func 25) #[] #[]) #[(Go.Value.int Go.IntKind.i64 4611686018427387904), (Go.Value.int Go.IntKind.i64 4611686018427387904)] k w) (@hid _ ⟨fun t78_111 w112 =>
  GuardK t76_109 true (fun k w => BinK Tryd.prog Go.BinOp.eql 2 t78_111 (Go.Value.int Go.IntKind.i64 9223372036854775807) k w) (@hid _ ⟨fun t79_113 w114 =>
  PickK Tryd.prog t76_109 t79_113 (Go.Value.bool false) (@hid _ ⟨fun t80_115 w116 =>
  GuardK t80_115 true (fun k w => k t27_33 w) (@hid _ ⟨fun t82_117 w118 =>
  GuardK t80_115 true (fun k w => BinK Tryd.prog Go.BinOp.eql 2 t82_117 (Go.Value.int Go.IntKind.i64 (-3)) k w) (@hid _ ⟨fun t83_119 w120 =>
  PickK Tryd.prog t80_115 t83_119 (Go.Value.bool false) (@hid _ ⟨fun t84_121 w122 =>
  GuardK t84_121 true (fun k w => k t28_35 w) (@hid _ ⟨fun t86_123 w124 =>
  PickK Tryd.prog t84_121 t86_123 (Go.Value.bool false) (@hid _ ⟨fun t87_125 w126 =>
  GuardK t87_125 true (fun k w => k t31_39 w) (@hid _ ⟨fun t89_127 w128 =>
  GuardK t87_125 true (fun k w => BinK Tryd.prog Go.BinOp.eql 2 t89_127 (Go.Value.int Go.IntKind.i64 (-1)) k w) (@hid _ ⟨fun t90_129 w130 =>
  PickK Tryd.prog t87_125 t90_129 (Go.Value.bool false) (@hid _ ⟨fun t91_131 w132 =>
  GuardK t91_131 true (fun k w => k t32_41 w) (@hid _ ⟨fun t93_133 w134 =>
  PickK Tryd.prog t91_131 t93_133 (Go.Value.bool false) (@hid _ ⟨fun t94_135 w136 =>
  GuardK t94_135 true (fun k w => k t36_47 w) (@hid _ ⟨fun t96_137 w138 =>
  GuardK t94_135 true (fun k w => UnK Tryd.prog Go.UnOp.not t96_137 k w) (@hid _ ⟨fun t97_139 w140 =>
  PickK Tryd.prog t94_135 t97_139 (Go.Value.bool false) (@hid _ ⟨fun t98_141 w142 =>
  GuardK t98_141 true (fun k w => BuildK Tryd.prog 24 #[] k w) (@hid _ ⟨fun t100_143 w144 =>
  GuardK t98_141 true (fun k w => CallV Tryd.prog (.func (.func 13) #[] #[]) #[t100_143] k w) (@hid _ ⟨fun t101_145 w146 =>
  GuardK t98_141 true (fun k w => BinK Tryd.prog Go.BinOp.eql 3 t101_145 (Go.Value.int Go.IntKind.i64 7) k w) (@hid _ ⟨fun t102_147 w148 =>
  PickK Tryd.prog t98_141 t102_147 (Go.Value.bool false) (@hid _ ⟨fun t103_149 w150 =>
  R t103_149 w150⟩) w148⟩) w146⟩) w144⟩) w142⟩) w140⟩) w138⟩) w136⟩) w134⟩) w132⟩) w130⟩) w128⟩) w126⟩) w124⟩) w122⟩) w120⟩) w118⟩) w116⟩) w114⟩) w112⟩) w110⟩) w108⟩) w106⟩) w104⟩) w102⟩) w100⟩) w98⟩) w96⟩) w94⟩) w92⟩) w90⟩) w88⟩) w86⟩) w84⟩) w82⟩) w80⟩) w78⟩) w76⟩) w74⟩) w72⟩) w70⟩) w68⟩) w66⟩) w64⟩) w62⟩) w60⟩) w58⟩) w56⟩) w54⟩) w52⟩) w50⟩) w48⟩) w46⟩) w44⟩) w42⟩) w40⟩) w38⟩) w36⟩) w34⟩) w32⟩) w30⟩) w28⟩) w26⟩) w24⟩) w22⟩) w20⟩) w18⟩) w16⟩) w14⟩) w12⟩) w10⟩) w8⟩) w6⟩) w4⟩) w2⟩) w0
def a9 : Ann := (.seq .no (.seq .no (.seq .no (.seq .no (.seq .no (.seq .no (.seq .no (.seq .no .no))))))))
theorem F9_eq (R : Value → World → Prop) (w0 : World) : F9  R w0 = vc Tryd.prog (bodyOf Tryd.f9) a9 (retQ Tryd.prog Tryd.f9 R) (envOf 0 []) w0 := by kernel_rfl
theorem F9_calls (R : Value → World → Prop) (w0 : World) (h : F9  R w0) : CallK Tryd.prog 9 #[] R w0 :=
  calls_vc (c := bodyOf Tryd.f9) Tryd.func9 (by kernel_rfl) (by kernel_rfl) a9 (by kernel_rfl) (by kernel_rfl) [] (by rw [Tryd.ntmps9]; exact Nat.le_of_ble_eq_true rfl) w0 R ((F9_eq  R w0).mp h)

/-- canton/cantonlaw2.Few, its body as a formula. -/
def F10 (x0 : Value) (R : Value → World → Prop) (w0 : World) : Prop :=
  BoxK Tryd.prog 24 x0 (@hid _ ⟨fun t1_1 w2 =>
  FieldAtK Tryd.prog 24 t1_1 2 (@hid _ ⟨fun t3_3 w4 =>
  LoadK Tryd.prog 9 t3_3 (@hid _ ⟨fun t4_5 w6 =>
  BuiltinK Tryd.prog Go.Builtin.len #[9] 3 #[false] #[t4_5] (@hid _ ⟨fun t5_7 w8 =>
  BinK Tryd.prog Go.BinOp.leq 3 t5_7 (Go.Value.int Go.IntKind.i64 200) (@hid _ ⟨fun t6_9 w10 =>
  GuardK t6_9 true (fun k w => FieldAtK Tryd.prog 24 t1_1 3 k w) (@hid _ ⟨fun t8_11 w12 =>
  GuardK t6_9 true (fun k w => LoadK Tryd.prog 22 t8_11 k w) (@hid _ ⟨fun t9_13 w14 =>
  GuardK t6_9 true (fun k w => BuiltinK Tryd.prog Go.Builtin.len #[22] 3 #[false] #[t9_13] k w) (@hid _ ⟨fun t10_15 w16 =>
  GuardK t6_9 true (fun k w => BinK Tryd.prog Go.BinOp.leq 3 t10_15 (Go.Value.int Go.IntKind.i64 40) k w) (@hid _ ⟨fun t11_17 w18 =>
  PickK Tryd.prog t6_9 t11_17 (Go.Value.bool false) (@hid _ ⟨fun t12_19 w20 =>
  R t12_19 w20⟩) w18⟩) w16⟩) w14⟩) w12⟩) w10⟩) w8⟩) w6⟩) w4⟩) w2⟩) w0
def a10 : Ann := (.seq .no (.seq .no .no))
theorem F10_eq (x0 : Value) (R : Value → World → Prop) (w0 : World) : F10 x0 R w0 = vc Tryd.prog (bodyOf Tryd.f10) a10 (retQ Tryd.prog Tryd.f10 R) (envOf 0 [x0]) w0 := by kernel_rfl
theorem F10_calls (x0 : Value) (R : Value → World → Prop) (w0 : World) (h : F10 x0 R w0) : CallK Tryd.prog 10 #[x0] R w0 :=
  calls_vc (c := bodyOf Tryd.f10) Tryd.func10 (by kernel_rfl) (by kernel_rfl) a10 (by kernel_rfl) (by kernel_rfl) [x0] (by rw [Tryd.ntmps10]; exact Nat.le_of_ble_eq_true rfl) w0 R ((F10_eq x0 R w0).mp h)

/-- canton/cantonref7.CheckValue, its body as a formula. -/
def F11 (x0 : Value) (R : Value → World → Prop) (w0 : World) : Prop :=
  BoxK Tryd.prog 28 x0 (@hid _ ⟨fun t1_1 w2 =>
  FieldAtK Tryd.prog 28 t1_1 0 (@hid _ ⟨fun t5_3 w4 =>
  LoadK Tryd.prog 3 t5_3 (@hid _ ⟨fun t6_5 w6 =>
  BinK Tryd.prog Go.BinOp.eql 3 t6_5 (Go.Value.int Go.IntKind.i64 1) (@hid _ ⟨fun t8_7 w8 =>
  BrK t8_7 (@hid _ ⟨
   R (Go.Value.int Go.IntKind.i64 0) w8⟩) (@hid _ ⟨
   BinK Tryd.prog Go.BinOp.eql 3 t6_5 (Go.Value.int Go.IntKind.i64 2) (@hid _ ⟨fun t10_9 w10 =>
   BrK t10_9 (@hid _ ⟨
    FieldAtK Tryd.prog 28 t1_1 2 (@hid _ ⟨fun t11_11 w12 =>
    LoadK Tryd.prog 9 t11_11 (@hid _ ⟨fun t12_13 w14 =>
    BuiltinK Tryd.prog Go.Builtin.len #[9] 3 #[false] #[t12_13] (@hid _ ⟨fun t13_15 w16 =>
    BinK Tryd.prog Go.BinOp.gtr 3 t13_15 (Go.Value.int Go.IntKind.i64 64) (@hid _ ⟨fun t14_17 w18 =>
    BrK t14_17 (@hid _ ⟨
     R (Go.Value.int Go.IntKind.i64 4) w18⟩) (@hid _ ⟨
     LoopK1 (Go.Value.int Go.IntKind.i64 0) w18 (@hid _ ⟨fun _ x3_19 w20 B21 =>
      FieldAtK Tryd.prog 28 t1_1 2 (@hid _ ⟨fun t16_22 w23 =>
      LoadK Tryd.prog 9 t16_22 (@hid _ ⟨fun t17_24 w25 =>
      BuiltinK Tryd.prog Go.Builtin.len #[9] 3 #[false] #[t17_24] (@hid _ ⟨fun t18_26 w27 =>
      BinK Tryd.prog Go.BinOp.lss 3 x3_19 t18_26 (@hid _ ⟨fun t19_28 w29 =>
      BrK t19_28 (@hid _ ⟨
       FieldAtK Tryd.prog 28 t1_1 2 (@hid _ ⟨fun t22_30 w31 =>
       LoadK Tryd.prog 9 t22_30 (@hid _ ⟨fun t23_32 w33 =>
       ValK Tryd.prog (Instr.index 9 t23_32 x3_19) (@hid _ ⟨fun t25_34 w35 =>
       BinK Tryd.prog Go.BinOp.lss 5 t25_34 (Go.Value.int Go.IntKind.u8 32) (@hid _ ⟨fun t26_36 w37 =>
       GuardK t26_36 false (fun k w => FieldAtK Tryd.prog 28 t1_1 2 k w) (@hid _ ⟨fun t28_38 w39 =>
       GuardK t26_36 false (fun k w => LoadK Tryd.prog 9 t28_38 k w) (@hid _ ⟨fun t29_40 w41 =>
       GuardK t26_36 false (fun k w => k x3_19 w) (@hid _ ⟨fun t30_42 w43 =>
       GuardK t26_36 false (fun k w => ValK Tryd.prog (Instr.index 9 t29_40 t30_42) k w) (@hid _ ⟨fun t31_44 w45 =>
       GuardK t26_36 false (fun k w => BinK Tryd.prog Go.BinOp.gtr 5 t31_44 (Go.Value.int Go.IntKind.u8 126) k w) (@hid _ ⟨fun t32_46 w47 =>
       PickK Tryd.prog t26_36 (Go.Value.bool true) t32_46 (@hid _ ⟨fun t33_48 w49 =>
       GuardK t33_48 false (fun k w => FieldAtK Tryd.prog 28 t1_1 2 k w) (@hid _ ⟨fun t35_50 w51 =>
       GuardK t33_48 false (fun k w => LoadK Tryd.prog 9 t35_50 k w) (@hid _ ⟨fun t36_52 w53 =>
       GuardK t33_48 false (fun k w => k x3_19 w) (@hid _ ⟨fun t37_54 w55 =>
       GuardK t33_48 false (fun k w => ValK Tryd.prog (Instr.index 9 t36_52 t37_54) k w) (@hid _ ⟨fun t38_56 w57 =>
       GuardK t33_48 false (fun k w => BinK Tryd.prog Go.BinOp.eql 5 t38_56 (Go.Value.int Go.IntKind.u8 34) k w) (@hid _ ⟨fun t39_58 w59 =>
       PickK Tryd.prog t33_48 (Go.Value.bool true) t39_58 (@hid _ ⟨fun t40_60 w61 =>
       BrK t40_60 (@hid _ ⟨
        R (Go.Value.int Go.IntKind.i64 2) w61⟩) (@hid _ ⟨
        BinK Tryd.prog Go.BinOp.add 3 x3_19 (Go.Value.int Go.IntKind.i64 1) (@hid _ ⟨fun t21_62 w63 =>
        B21 t21_62 w63⟩) w61⟩)⟩) w59⟩) w57⟩) w55⟩) w53⟩) w51⟩) w49⟩) w47⟩) w45⟩) w43⟩) w41⟩) w39⟩) w37⟩) w35⟩) w33⟩) w31⟩) w29⟩) (@hid _ ⟨
       R (Go.Value.int Go.IntKind.i64 0) w29⟩)⟩) w27⟩) w25⟩) w23⟩) w20⟩)⟩)⟩) w16⟩) w14⟩) w12⟩) w10⟩) (@hid _ ⟨
    BinK Tryd.prog Go.BinOp.eql 3 t6_5 (Go.Value.int Go.IntKind.i64 3) (@hid _ ⟨fun t42_64 w65 =>
    BrK t42_64 (@hid _ ⟨
     FieldAtK Tryd.prog 28 t1_1 3 (@hid _ ⟨fun t43_66 w67 =>
     LoadK Tryd.prog 22 t43_66 (@hid _ ⟨fun t44_68 w69 =>
     BuiltinK Tryd.prog Go.Builtin.len #[22] 3 #[false] #[t44_68] (@hid _ ⟨fun t45_70 w71 =>
     BinK Tryd.prog Go.BinOp.gtr 3 t45_70 (Go.Value.int Go.IntKind.i64 16) (@hid _ ⟨fun t46_72 w73 =>
     BrK t46_72 (@hid _ ⟨
      R (Go.Value.int Go.IntKind.i64 4) w73⟩) (@hid _ ⟨
      LoopK1 (Go.Value.int Go.IntKind.i64 1) w73 (@hid _ ⟨fun _ x4_74 w75 B76 =>
       FieldAtK Tryd.prog 28 t1_1 3 (@hid _ ⟨fun t48_77 w78 =>
       LoadK Tryd.prog 22 t48_77 (@hid _ ⟨fun t49_79 w80 =>
       BuiltinK Tryd.prog Go.Builtin.len #[22] 3 #[false] #[t49_79] (@hid _ ⟨fun t50_81 w82 =>
       BinK Tryd.prog Go.BinOp.lss 3 x4_74 t50_81 (@hid _ ⟨fun t51_83 w84 =>
       BrK t51_83 (@hid _ ⟨
        DrawK (@hid _ ⟨fun S85 w86 =>
        TakeS Tryd.prog S85 (Instr.fieldAt 28 t1_1 3) (@hid _ ⟨fun t54_87 =>
        TakeS Tryd.prog S85 (Instr.loadAt 22 t54_87) (@hid _ ⟨fun t55_88 =>
        BinT Tryd.prog S85 Go.BinOp.sub 3 x4_74 (Go.Value.int Go.IntKind.i64 1) (@hid _ ⟨fun t57_89 =>
        TakeS Tryd.prog S85 (Instr.indexAt 22 t55_88 t57_89) (@hid _ ⟨fun t58_90 =>
        TakeS Tryd.prog S85 (Instr.loadAt 2 t58_90) (@hid _ ⟨fun t59_91 =>
        TakeS Tryd.prog S85 (Instr.fieldAt 28 t1_1 3) (@hid _ ⟨fun t60_92 =>
        TakeS Tryd.prog S85 (Instr.loadAt 22 t60_92) (@hid _ ⟨fun t61_93 =>
        TakeS Tryd.prog S85 (Instr.indexAt 22 t61_93 x4_74) (@hid _ ⟨fun t63_94 =>
        TakeS Tryd.prog S85 (Instr.loadAt 2 t63_94) (@hid _ ⟨fun t64_95 =>
        BinT Tryd.prog S85 Go.BinOp.geq 2 t59_91 t64_95 (@hid _ ⟨fun t65_96 =>
        BrK t65_96 (@hid _ ⟨
         R (Go.Value.int Go.IntKind.i64 2) w86⟩) (@hid _ ⟨
         BinK Tryd.prog Go.BinOp.add 3 x4_74 (Go.Value.int Go.IntKind.i64 1) (@hid _ ⟨fun t53_97 w98 =>
         B76 t53_97 w98⟩) w86⟩)⟩)⟩)⟩)⟩)⟩)⟩)⟩)⟩)⟩)⟩)⟩) w84⟩) (@hid _ ⟨
        R (Go.Value.int Go.IntKind.i64 0) w84⟩)⟩) w82⟩) w80⟩) w78⟩) w75⟩)⟩)⟩) w71⟩) w69⟩) w67⟩) w65⟩) (@hid _ ⟨
     R (Go.Value.int Go.IntKind.i64 7) w65⟩)⟩) w10⟩)⟩) w8⟩)⟩) w6⟩) w4⟩) w2⟩) w0
def a11 : Ann := (.seq .no (.seq (.seq .no (.block (.seq .no (.cond (.seq .no .no) (.seq .no (.cond (.seq (.seq .no (.cond (.seq .no .no) .no)) (.seq (.seq .no (.block (.loop [3] [(2, 2), (15, 40)] (.seq (.seq .no (.cond .no .no)) (.seq (.block (.seq .no (.cond (.seq .no .no) .no))) .no))))) (.seq .no .no))) (.seq .no (.cond (.seq (.seq .no (.cond (.seq .no .no) .no)) (.seq (.seq .no (.block (.loop [4] [(2, 2), (47, 65)] (.seq (.seq .no (.cond .no .no)) (.seq (.block (.seq (.plan (.take 0 (.take 1 (.take 2 (.take 3 (.take 4 (.take 5 (.take 6 (.take 7 (.take 8 (.take 9 (.take 10 (.take 11 .done))))))))))))) (.cond (.seq .no .no) .no))) .no))))) (.seq .no .no))) .no)))))))) (.seq .no .no)))
theorem F11_eq (x0 : Value) (R : Value → World → Prop) (w0 : World) : F11 x0 R w0 = vc Tryd.prog (bodyOf Tryd.f11) a11 (retQ Tryd.prog Tryd.f11 R) (envOf 0 [x0]) w0 := by kernel_rfl
theorem F11_calls (x0 : Value) (R : Value → World → Prop) (w0 : World) (h : F11 x0 R w0) : CallK Tryd.prog 11 #[x0] R w0 :=
  calls_vc (c := bodyOf Tryd.f11) Tryd.func11 (by kernel_rfl) (by kernel_rfl) a11 (by kernel_rfl) (by kernel_rfl) [x0] (by rw [Tryd.ntmps11]; exact Nat.le_of_ble_eq_true rfl) w0 R ((F11_eq x0 R w0).mp h)

/-- canton/cantonlaw2.Of, its body as a formula. -/
def F12 (x0 : Value) (R : Value → World → Prop) (w0 : World) : Prop :=
  BoxK Tryd.prog 24 x0 (@hid _ ⟨fun t1_1 w2 =>
  AllocK Tryd.prog 28 (@hid _ ⟨fun t2_3 w4 =>
  FieldAtK Tryd.prog 24 t1_1 0 (@hid _ ⟨fun t3_5 w6 =>
  LoadK Tryd.prog 3 t3_5 (@hid _ ⟨fun t4_7 w8 =>
  FieldAtK Tryd.prog 24 t1_1 1 (@hid _ ⟨fun t5_9 w10 =>
  LoadK Tryd.prog 2 t5_9 (@hid _ ⟨fun t6_11 w12 =>
  FieldAtK Tryd.prog 24 t1_1 2 (@hid _ ⟨fun t7_13 w14 =>
  LoadK Tryd.prog 9 t7_13 (@hid _ ⟨fun t8_15 w16 =>
  FieldAtK Tryd.prog 24 t1_1 3 (@hid _ ⟨fun t9_17 w18 =>
  LoadK Tryd.prog 22 t9_17 (@hid _ ⟨fun t10_19 w20 =>
  BuildK Tryd.prog 28 #[(0, t4_7), (1, t6_11), (2, t8_15), (3, t10_19)] (@hid _ ⟨fun t11_21 w22 =>
  StoreK Tryd.prog 28 t2_3 t11_21 (@hid _ ⟨fun tu_23 w24 =>
  LoadK Tryd.prog 28 t2_3 (@hid _ ⟨fun c25 w26 => w26 = w24 ∧ R c25 w24⟩) w24⟩) w22⟩) w20⟩) w18⟩) w16⟩) w14⟩) w12⟩) w10⟩) w8⟩) w6⟩) w4⟩) w2⟩) w0
def a12 : Ann := (.seq .no (.seq .no .no))
theorem F12_eq (x0 : Value) (R : Value → World → Prop) (w0 : World) : F12 x0 R w0 = vc Tryd.prog (bodyOf Tryd.f12) a12 (retQ Tryd.prog Tryd.f12 R) (envOf 0 [x0]) w0 := by kernel_rfl
theorem F12_calls (x0 : Value) (R : Value → World → Prop) (w0 : World) (h : F12 x0 R w0) : CallK Tryd.prog 12 #[x0] R w0 :=
  calls_vc (c := bodyOf Tryd.f12) Tryd.func12 (by kernel_rfl) (by kernel_rfl) a12 (by kernel_rfl) (by kernel_rfl) [x0] (by rw [Tryd.ntmps12]; exact Nat.le_of_ble_eq_true rfl) w0 R ((F12_eq x0 R w0).mp h)

/-- canton/value.Check, its body as a formula. -/
def F13 (x0 : Value) (R : Value → World → Prop) (w0 : World) : Prop :=
  BoxK Tryd.prog 24 x0 (@hid _ ⟨fun t1_1 w2 =>
  FieldAtK Tryd.prog 24 t1_1 0 (@hid _ ⟨fun t3_3 w4 =>
  LoadK Tryd.prog 3 t3_3 (@hid _ ⟨fun t4_5 w6 =>
  BinK Tryd.prog Go.BinOp.eql 3 t4_5 (Go.Value.int Go.IntKind.i64 1) (@hid _ ⟨fun t6_7 w8 =>
  BrK t6_7 (@hid _ ⟨
   R (Go.Value.int Go.IntKind.i64 0) w8⟩) (@hid _ ⟨
   BinK Tryd.prog Go.BinOp.eql 3 t4_5 (Go.Value.int Go.IntKind.i64 2) (@hid _ ⟨fun t8_9 w10 =>
   BrK t8_9 (@hid _ ⟨
    FieldAtK Tryd.prog 24 t1_1 2 (@hid _ ⟨fun t9_11 w12 =>
    LoadK Tryd.prog 9 t9_11 (@hid _ ⟨fun t10_13 w14 =>
    CallV Tryd.prog (.func (.func 31) #[] #[]) #[t10_13] (@hid _ ⟨fun t11_15 w16 =>
    R t11_15 w16⟩) w14⟩) w12⟩) w10⟩) (@hid _ ⟨
    BinK Tryd.prog Go.BinOp.eql 3 t4_5 (Go.Value.int Go.IntKind.i64 3) (@hid _ ⟨fun t13_17 w18 =>
    BrK t13_17 (@hid _ ⟨
     FieldAtK Tryd.prog 24 t1_1 3 (@hid _ ⟨fun t14_19 w20 =>
     LoadK Tryd.prog 22 t14_19 (@hid _ ⟨fun t15_21 w22 =>
     CallV Tryd.prog (.func (.func 32) #[] #[]) #[t15_21] (@hid _ ⟨fun t16_23 w24 =>
     R t16_23 w24⟩) w22⟩) w20⟩) w18⟩) (@hid _ ⟨
     R (Go.Value.int Go.IntKind.i64 7) w18⟩)⟩) w10⟩)⟩) w8⟩)⟩) w6⟩) w4⟩) w2⟩) w0
def a13 : Ann := (.seq .no (.seq (.seq .no (.block (.seq .no (.cond (.seq .no .no) (.seq .no (.cond (.seq .no .no) (.seq .no (.cond (.seq .no .no) .no)))))))) (.seq .no .no)))
theorem F13_eq (x0 : Value) (R : Value → World → Prop) (w0 : World) : F13 x0 R w0 = vc Tryd.prog (bodyOf Tryd.f13) a13 (retQ Tryd.prog Tryd.f13 R) (envOf 0 [x0]) w0 := by kernel_rfl
theorem F13_calls (x0 : Value) (R : Value → World → Prop) (w0 : World) (h : F13 x0 R w0) : CallK Tryd.prog 13 #[x0] R w0 :=
  calls_vc (c := bodyOf Tryd.f13) Tryd.func13 (by kernel_rfl) (by kernel_rfl) a13 (by kernel_rfl) (by kernel_rfl) [x0] (by rw [Tryd.ntmps13]; exact Nat.le_of_ble_eq_true rfl) w0 R ((F13_eq x0 R w0).mp h)

/-- canton/cantonref7.CompareValue, its body as a formula. -/
def F14 (x0 x1 : Value) (R : Value → World → Prop) (w0 : World) : Prop :=
  BoxK Tryd.prog 28 x0 (@hid _ ⟨fun t2_1 w2 =>
  BoxK Tryd.prog 28 x1 (@hid _ ⟨fun t3_3 w4 =>
  FieldAtK Tryd.prog 28 t2_1 0 (@hid _ ⟨fun t6_5 w6 =>
  LoadK Tryd.prog 3 t6_5 (@hid _ ⟨fun t7_7 w8 =>
  FieldAtK Tryd.prog 28 t3_3 0 (@hid _ ⟨fun t8_9 w10 =>
  LoadK Tryd.prog 3 t8_9 (@hid _ ⟨fun t9_11 w12 =>
  BinK Tryd.prog Go.BinOp.neq 3 t7_7 t9_11 (@hid _ ⟨fun t10_13 w14 =>
  BrK t10_13 (@hid _ ⟨
   FieldAtK Tryd.prog 28 t2_1 0 (@hid _ ⟨fun t11_15 w16 =>
   LoadK Tryd.prog 3 t11_15 (@hid _ ⟨fun t12_17 w18 =>
   FieldAtK Tryd.prog 28 t3_3 0 (@hid _ ⟨fun t13_19 w20 =>
   LoadK Tryd.prog 3 t13_19 (@hid _ ⟨fun t14_21 w22 =>
   CallV Tryd.prog (.func (.func 33) #[] #[]) #[t12_17, t14_21] (@hid _ ⟨fun t15_23 w24 =>
   R t15_23 w24⟩) w22⟩) w20⟩) w18⟩) w16⟩) w14⟩) (@hid _ ⟨
   FieldAtK Tryd.prog 28 t2_1 0 (@hid _ ⟨fun t16_25 w26 =>
   LoadK Tryd.prog 3 t16_25 (@hid _ ⟨fun t17_27 w28 =>
   BinK Tryd.prog Go.BinOp.eql 3 t17_27 (Go.Value.int Go.IntKind.i64 1) (@hid _ ⟨fun t19_29 w30 =>
   BrK t19_29 (@hid _ ⟨
    FieldAtK Tryd.prog 28 t2_1 1 (@hid _ ⟨fun t20_31 w32 =>
    LoadK Tryd.prog 2 t20_31 (@hid _ ⟨fun t21_33 w34 =>
    FieldAtK Tryd.prog 28 t3_3 1 (@hid _ ⟨fun t22_35 w36 =>
    LoadK Tryd.prog 2 t22_35 (@hid _ ⟨fun t23_37 w38 =>
    CallV Tryd.prog (.func (.func 33) #[] #[]) #[t21_33, t23_37] (@hid _ ⟨fun t24_39 w40 =>
    R t24_39 w40⟩) w38⟩) w36⟩) w34⟩) w32⟩) w30⟩) (@hid _ ⟨
    BinK Tryd.prog Go.BinOp.eql 3 t17_27 (Go.Value.int Go.IntKind.i64 2) (@hid _ ⟨fun t26_41 w42 =>
    BrK t26_41 (@hid _ ⟨
     FieldAtK Tryd.prog 28 t2_1 2 (@hid _ ⟨fun t27_43 w44 =>
     LoadK Tryd.prog 9 t27_43 (@hid _ ⟨fun t28_45 w46 =>
     FieldAtK Tryd.prog 28 t3_3 2 (@hid _ ⟨fun t29_47 w48 =>
     LoadK Tryd.prog 9 t29_47 (@hid _ ⟨fun t30_49 w50 =>
     CallV Tryd.prog (.func (.func 34) #[] #[]) #[t28_45, t30_49] (@hid _ ⟨fun t31_51 w52 =>
     R t31_51 w52⟩) w50⟩) w48⟩) w46⟩) w44⟩) w42⟩) (@hid _ ⟨
     BinK Tryd.prog Go.BinOp.eql 3 t17_27 (Go.Value.int Go.IntKind.i64 3) (@hid _ ⟨fun t33_53 w54 =>
     BrK t33_53 (@hid _ ⟨
      LoopK1 (Go.Value.int Go.IntKind.i64 0) w54 (@hid _ ⟨fun _ x5_55 w56 B57 =>
       FieldAtK Tryd.prog 28 t2_1 3 (@hid _ ⟨fun t35_58 w59 =>
       LoadK Tryd.prog 22 t35_58 (@hid _ ⟨fun t36_60 w61 =>
       BuiltinK Tryd.prog Go.Builtin.len #[22] 3 #[false] #[t36_60] (@hid _ ⟨fun t37_62 w63 =>
       BinK Tryd.prog Go.BinOp.lss 3 x5_55 t37_62 (@hid _ ⟨fun t38_64 w65 =>
       GuardK t38_64 true (fun k w => k x5_55 w) (@hid _ ⟨fun t40_66 w67 =>
       GuardK t38_64 true (fun k w => FieldAtK Tryd.prog 28 t3_3 3 k w) (@hid _ ⟨fun t41_68 w69 =>
       GuardK t38_64 true (fun k w => LoadK Tryd.prog 22 t41_68 k w) (@hid _ ⟨fun t42_70 w71 =>
       GuardK t38_64 true (fun k w => BuiltinK Tryd.prog Go.Builtin.len #[22] 3 #[false] #[t42_70] k w) (@hid _ ⟨fun t43_72 w73 =>
       GuardK t38_64 true (fun k w => BinK Tryd.prog Go.BinOp.lss 3 t40_66 t43_72 k w) (@hid _ ⟨fun t44_74 w75 =>
       PickK Tryd.prog t38_64 t44_74 (Go.Value.bool false) (@hid _ ⟨fun t45_76 w77 =>
       BrK t45_76 (@hid _ ⟨
        DrawK (@hid _ ⟨fun S78 w79 =>
        TakeS Tryd.prog S78 (Instr.fieldAt 28 t2_1 3) (@hid _ ⟨fun t48_80 =>
        TakeS Tryd.prog S78 (Instr.loadAt 22 t48_80) (@hid _ ⟨fun t49_81 =>
        TakeS Tryd.prog S78 (Instr.indexAt 22 t49_81 x5_55) (@hid _ ⟨fun t51_82 =>
        TakeS Tryd.prog S78 (Instr.loadAt 2 t51_82) (@hid _ ⟨fun t52_83 =>
        TakeS Tryd.prog S78 (Instr.fieldAt 28 t3_3 3) (@hid _ ⟨fun t53_84 =>
        TakeS Tryd.prog S78 (Instr.loadAt 22 t53_84) (@hid _ ⟨fun t54_85 =>
        TakeS Tryd.prog S78 (Instr.indexAt 22 t54_85 x5_55) (@hid _ ⟨fun t56_86 =>
        TakeS Tryd.prog S78 (Instr.loadAt 2 t56_86) (@hid _ ⟨fun t57_87 =>
        BinT Tryd.prog S78 Go.BinOp.neq 2 t52_83 t57_87 (@hid _ ⟨fun t58_88 =>
        BrK t58_88 (@hid _ ⟨
         DrawK (@hid _ ⟨fun S89 w90 =>
         TakeS Tryd.prog S89 (Instr.fieldAt 28 t2_1 3) (@hid _ ⟨fun t59_91 =>
         TakeS Tryd.prog S89 (Instr.loadAt 22 t59_91) (@hid _ ⟨fun t60_92 =>
         TakeS Tryd.prog S89 (Instr.indexAt 22 t60_92 x5_55) (@hid _ ⟨fun t62_93 =>
         TakeS Tryd.prog S89 (Instr.loadAt 2 t62_93) (@hid _ ⟨fun t63_94 =>
         TakeS Tryd.prog S89 (Instr.fieldAt 28 t3_3 3) (@hid _ ⟨fun t64_95 =>
         TakeS Tryd.prog S89 (Instr.loadAt 22 t64_95) (@hid _ ⟨fun t65_96 =>
         TakeS Tryd.prog S89 (Instr.indexAt 22 t65_96 x5_55) (@hid _ ⟨fun t67_97 =>
         TakeS Tryd.prog S89 (Instr.loadAt 2 t67_97) (@hid _ ⟨fun t68_98 =>
         (CallV Tryd.prog (.func (.func 33) #[] #[]) #[t63_94, t68_98] (@hid _ ⟨fun t69_99 w100 =>
         S89 w100 ∧
         R t69_99 w100⟩) w90) ∧
         True⟩)⟩)⟩)⟩)⟩)⟩)⟩)⟩)⟩) w79⟩) (@hid _ ⟨
         BinK Tryd.prog Go.BinOp.add 3 x5_55 (Go.Value.int Go.IntKind.i64 1) (@hid _ ⟨fun t47_101 w102 =>
         B57 t47_101 w102⟩) w79⟩)⟩)⟩)⟩)⟩)⟩)⟩)⟩)⟩)⟩)⟩) w77⟩) (@hid _ ⟨
        FieldAtK Tryd.prog 28 t2_1 3 (@hid _ ⟨fun t70_103 w104 =>
        LoadK Tryd.prog 22 t70_103 (@hid _ ⟨fun t71_105 w106 =>
        BuiltinK Tryd.prog Go.Builtin.len #[22] 3 #[false] #[t71_105] (@hid _ ⟨fun t72_107 w108 =>
        FieldAtK Tryd.prog 28 t3_3 3 (@hid _ ⟨fun t73_109 w110 =>
        LoadK Tryd.prog 22 t73_109 (@hid _ ⟨fun t74_111 w112 =>
        BuiltinK Tryd.prog Go.Builtin.len #[22] 3 #[false] #[t74_111] (@hid _ ⟨fun t75_113 w114 =>
        CallV Tryd.prog (.func (.func 33) #[] #[]) #[t72_107, t75_113] (@hid _ ⟨fun t76_115 w116 =>
        R t76_115 w116⟩) w114⟩) w112⟩) w110⟩) w108⟩) w106⟩) w104⟩) w77⟩)⟩) w75⟩) w73⟩) w71⟩) w69⟩) w67⟩) w65⟩) w63⟩) w61⟩) w59⟩) w56⟩)⟩) (@hid _ ⟨
      R (Go.Value.int Go.IntKind.i64 0) w54⟩)⟩) w42⟩)⟩) w30⟩)⟩) w28⟩) w26⟩) w14⟩)⟩) w12⟩) w10⟩) w8⟩) w6⟩) w4⟩) w2⟩) w0
def a14 : Ann := (.seq .no (.seq (.seq .no (.cond (.seq .no .no) .no)) (.seq (.seq .no (.block (.seq .no (.cond (.seq .no .no) (.seq .no (.cond (.seq .no .no) (.seq .no (.cond (.seq (.seq .no (.block (.loop [5] [(4, 4), (34, 69)] (.seq (.seq .no (.cond .no .no)) (.seq (.block (.seq (.plan (.take 0 (.take 1 (.take 2 (.take 3 (.take 4 (.take 5 (.take 6 (.take 7 (.take 8 (.take 9 (.take 10 .done)))))))))))) (.cond (.seq (.plan (.take 0 (.take 1 (.take 2 (.take 3 (.take 4 (.take 5 (.take 6 (.take 7 (.take 8 (.take 9 (.alt 10 (.take 11 .done) .nil)))))))))))) .no) .no))) .no))))) (.seq .no .no)) .no)))))))) (.seq .no .no))))
theorem F14_eq (x0 x1 : Value) (R : Value → World → Prop) (w0 : World) : F14 x0 x1 R w0 = vc Tryd.prog (bodyOf Tryd.f14) a14 (retQ Tryd.prog Tryd.f14 R) (envOf 0 [x0, x1]) w0 := by kernel_rfl
theorem F14_calls (x0 x1 : Value) (R : Value → World → Prop) (w0 : World) (h : F14 x0 x1 R w0) : CallK Tryd.prog 14 #[x0, x1] R w0 :=
  calls_vc (c := bodyOf Tryd.f14) Tryd.func14 (by kernel_rfl) (by kernel_rfl) a14 (by kernel_rfl) (by kernel_rfl) [x0, x1] (by rw [Tryd.ntmps14]; exact Nat.le_of_ble_eq_true rfl) w0 R ((F14_eq x0 x1 R w0).mp h)

/-- canton/value.Compare, its body as a formula. -/
def F15 (x0 x1 : Value) (R : Value → World → Prop) (w0 : World) : Prop :=
  BoxK Tryd.prog 24 x0 (@hid _ ⟨fun t2_1 w2 =>
  BoxK Tryd.prog 24 x1 (@hid _ ⟨fun t3_3 w4 =>
  FieldAtK Tryd.prog 24 t2_1 0 (@hid _ ⟨fun t6_5 w6 =>
  LoadK Tryd.prog 3 t6_5 (@hid _ ⟨fun t7_7 w8 =>
  FieldAtK Tryd.prog 24 t3_3 0 (@hid _ ⟨fun t8_9 w10 =>
  LoadK Tryd.prog 3 t8_9 (@hid _ ⟨fun t9_11 w12 =>
  CallV Tryd.prog (.func (.func 35) #[] #[]) #[t7_7, t9_11] (@hid _ ⟨fun t10_13 w14 =>
  BinK Tryd.prog Go.BinOp.neq 3 t10_13 (Go.Value.int Go.IntKind.i64 0) (@hid _ ⟨fun t12_15 w16 =>
  BrK t12_15 (@hid _ ⟨
   R t10_13 w16⟩) (@hid _ ⟨
   FieldAtK Tryd.prog 24 t2_1 0 (@hid _ ⟨fun t14_17 w18 =>
   LoadK Tryd.prog 3 t14_17 (@hid _ ⟨fun t15_19 w20 =>
   BinK Tryd.prog Go.BinOp.eql 3 t15_19 (Go.Value.int Go.IntKind.i64 1) (@hid _ ⟨fun t17_21 w22 =>
   BrK t17_21 (@hid _ ⟨
    FieldAtK Tryd.prog 24 t2_1 1 (@hid _ ⟨fun t18_23 w24 =>
    LoadK Tryd.prog 2 t18_23 (@hid _ ⟨fun t19_25 w26 =>
    FieldAtK Tryd.prog 24 t3_3 1 (@hid _ ⟨fun t20_27 w28 =>
    LoadK Tryd.prog 2 t20_27 (@hid _ ⟨fun t21_29 w30 =>
    CallV Tryd.prog (.func (.func 36) #[] #[]) #[t19_25, t21_29] (@hid _ ⟨fun t22_31 w32 =>
    R t22_31 w32⟩) w30⟩) w28⟩) w26⟩) w24⟩) w22⟩) (@hid _ ⟨
    BinK Tryd.prog Go.BinOp.eql 3 t15_19 (Go.Value.int Go.IntKind.i64 2) (@hid _ ⟨fun t24_33 w34 =>
    BrK t24_33 (@hid _ ⟨
     FieldAtK Tryd.prog 24 t2_1 2 (@hid _ ⟨fun t25_35 w36 =>
     LoadK Tryd.prog 9 t25_35 (@hid _ ⟨fun t26_37 w38 =>
     FieldAtK Tryd.prog 24 t3_3 2 (@hid _ ⟨fun t27_39 w40 =>
     LoadK Tryd.prog 9 t27_39 (@hid _ ⟨fun t28_41 w42 =>
     CallV Tryd.prog (.func (.func 37) #[] #[]) #[t26_37, t28_41] (@hid _ ⟨fun t29_43 w44 =>
     R t29_43 w44⟩) w42⟩) w40⟩) w38⟩) w36⟩) w34⟩) (@hid _ ⟨
     BinK Tryd.prog Go.BinOp.eql 3 t15_19 (Go.Value.int Go.IntKind.i64 3) (@hid _ ⟨fun t31_45 w46 =>
     BrK t31_45 (@hid _ ⟨
      FieldAtK Tryd.prog 24 t2_1 3 (@hid _ ⟨fun t32_47 w48 =>
      LoadK Tryd.prog 22 t32_47 (@hid _ ⟨fun t33_49 w50 =>
      FieldAtK Tryd.prog 24 t3_3 3 (@hid _ ⟨fun t34_51 w52 =>
      LoadK Tryd.prog 22 t34_51 (@hid _ ⟨fun t35_53 w54 =>
      CallV Tryd.prog (.func (.func 38) #[] #[]) #[t33_49, t35_53] (@hid _ ⟨fun t36_55 w56 =>
      R t36_55 w56⟩) w54⟩) w52⟩) w50⟩) w48⟩) w46⟩) (@hid _ ⟨
      R (Go.Value.int Go.IntKind.i64 0) w46⟩)⟩) w34⟩)⟩) w22⟩)⟩) w20⟩) w18⟩) w16⟩)⟩) w14⟩) w12⟩) w10⟩) w8⟩) w6⟩) w4⟩) w2⟩) w0
def a15 : Ann := (.seq .no (.seq (.seq .no (.seq .no (.cond (.seq .no .no) .no))) (.seq (.seq .no (.block (.seq .no (.cond (.seq .no .no) (.seq .no (.cond (.seq .no .no) (.seq .no (.cond (.seq .no .no) .no)))))))) (.seq .no .no))))
theorem F15_eq (x0 x1 : Value) (R : Value → World → Prop) (w0 : World) : F15 x0 x1 R w0 = vc Tryd.prog (bodyOf Tryd.f15) a15 (retQ Tryd.prog Tryd.f15 R) (envOf 0 [x0, x1]) w0 := by kernel_rfl
theorem F15_calls (x0 x1 : Value) (R : Value → World → Prop) (w0 : World) (h : F15 x0 x1 R w0) : CallK Tryd.prog 15 #[x0, x1] R w0 :=
  calls_vc (c := bodyOf Tryd.f15) Tryd.func15 (by kernel_rfl) (by kernel_rfl) a15 (by kernel_rfl) (by kernel_rfl) [x0, x1] (by rw [Tryd.ntmps15]; exact Nat.le_of_ble_eq_true rfl) w0 R ((F15_eq x0 x1 R w0).mp h)

/-- canton/value.Text, its body as a formula. -/
def F16 (x0 : Value) (R : Value → World → Prop) (w0 : World) : Prop :=
  BoxK Tryd.prog 24 x0 (@hid _ ⟨fun t1_1 w2 =>
  FieldAtK Tryd.prog 24 t1_1 0 (@hid _ ⟨fun t3_3 w4 =>
  LoadK Tryd.prog 3 t3_3 (@hid _ ⟨fun t4_5 w6 =>
  BinK Tryd.prog Go.BinOp.eql 3 t4_5 (Go.Value.int Go.IntKind.i64 1) (@hid _ ⟨fun t6_7 w8 =>
  BrK t6_7 (@hid _ ⟨
   FieldAtK Tryd.prog 24 t1_1 1 (@hid _ ⟨fun t7_9 w10 =>
   LoadK Tryd.prog 2 t7_9 (@hid _ ⟨fun t8_11 w12 =>
   CallV Tryd.prog (.func (.func 39) #[] #[]) #[t8_11, (Go.Value.int Go.IntKind.i64 10)] (@hid _ ⟨fun t9_13 w14 =>
   R t9_13 w14⟩) w12⟩) w10⟩) w8⟩) (@hid _ ⟨
   BinK Tryd.prog Go.BinOp.eql 3 t4_5 (Go.Value.int Go.IntKind.i64 2) (@hid _ ⟨fun t11_15 w16 =>
   BrK t11_15 (@hid _ ⟨
    FieldAtK Tryd.prog 24 t1_1 2 (@hid _ ⟨fun t12_17 w18 =>
    LoadK Tryd.prog 9 t12_17 (@hid _ ⟨fun t13_19 w20 =>
    BinK Tryd.prog Go.BinOp.add 9 (Go.Value.string { data := #[34] }) t13_19 (@hid _ ⟨fun t14_21 w22 =>
    BinK Tryd.prog Go.BinOp.add 9 t14_21 (Go.Value.string { data := #[34] }) (@hid _ ⟨fun t15_23 w24 =>
    R t15_23 w24⟩) w22⟩) w20⟩) w18⟩) w16⟩) (@hid _ ⟨
    BinK Tryd.prog Go.BinOp.eql 3 t4_5 (Go.Value.int Go.IntKind.i64 3) (@hid _ ⟨fun t17_25 w26 =>
    BrK t17_25 (@hid _ ⟨
     FieldAtK Tryd.prog 24 t1_1 3 (@hid _ ⟨fun t18_27 w28 =>
     LoadK Tryd.prog 22 t18_27 (@hid _ ⟨fun t19_29 w30 =>
     CallV Tryd.prog (.func (.func 40) #[] #[]) #[t19_29] (@hid _ ⟨fun t20_31 w32 =>
     BinK Tryd.prog Go.BinOp.add 9 (Go.Value.string { data := #[91] }) t20_31 (@hid _ ⟨fun t21_33 w34 =>
     BinK Tryd.prog Go.BinOp.add 9 t21_33 (Go.Value.string { data := #[93] }) (@hid _ ⟨fun t22_35 w36 =>
     R t22_35 w36⟩) w34⟩) w32⟩) w30⟩) w28⟩) w26⟩) (@hid _ ⟨
     R (Go.Value.string { data := #[] }) w26⟩)⟩) w16⟩)⟩) w8⟩)⟩) w6⟩) w4⟩) w2⟩) w0
def a16 : Ann := (.seq .no (.seq (.seq .no (.block (.seq .no (.cond (.seq .no .no) (.seq .no (.cond (.seq .no .no) (.seq .no (.cond (.seq .no .no) .no)))))))) (.seq .no .no)))
theorem F16_eq (x0 : Value) (R : Value → World → Prop) (w0 : World) : F16 x0 R w0 = vc Tryd.prog (bodyOf Tryd.f16) a16 (retQ Tryd.prog Tryd.f16 R) (envOf 0 [x0]) w0 := by kernel_rfl
theorem F16_calls (x0 : Value) (R : Value → World → Prop) (w0 : World) (h : F16 x0 R w0) : CallK Tryd.prog 16 #[x0] R w0 :=
  calls_vc (c := bodyOf Tryd.f16) Tryd.func16 (by kernel_rfl) (by kernel_rfl) a16 (by kernel_rfl) (by kernel_rfl) [x0] (by rw [Tryd.ntmps16]; exact Nat.le_of_ble_eq_true rfl) w0 R ((F16_eq x0 R w0).mp h)

/-- canton/cantonref7.ValueText, its body as a formula. -/
def F17 (x0 : Value) (R : Value → World → Prop) (w0 : World) : Prop :=
  BoxK Tryd.prog 28 x0 (@hid _ ⟨fun t1_1 w2 =>
  FieldAtK Tryd.prog 28 t1_1 0 (@hid _ ⟨fun t5_3 w4 =>
  LoadK Tryd.prog 3 t5_3 (@hid _ ⟨fun t6_5 w6 =>
  BinK Tryd.prog Go.BinOp.eql 3 t6_5 (Go.Value.int Go.IntKind.i64 1) (@hid _ ⟨fun t8_7 w8 =>
  BrK t8_7 (@hid _ ⟨
   FieldAtK Tryd.prog 28 t1_1 1 (@hid _ ⟨fun t9_9 w10 =>
   LoadK Tryd.prog 2 t9_9 (@hid _ ⟨fun t10_11 w12 =>
   CallV Tryd.prog (.func (.func 41) #[] #[]) #[t10_11] (@hid _ ⟨fun t11_13 w14 =>
   R t11_13 w14⟩) w12⟩) w10⟩) w8⟩) (@hid _ ⟨
   BinK Tryd.prog Go.BinOp.eql 3 t6_5 (Go.Value.int Go.IntKind.i64 2) (@hid _ ⟨fun t13_15 w16 =>
   BrK t13_15 (@hid _ ⟨
    FieldAtK Tryd.prog 28 t1_1 2 (@hid _ ⟨fun t14_17 w18 =>
    LoadK Tryd.prog 9 t14_17 (@hid _ ⟨fun t15_19 w20 =>
    BinK Tryd.prog Go.BinOp.add 9 (Go.Value.string { data := #[34] }) t15_19 (@hid _ ⟨fun t16_21 w22 =>
    BinK Tryd.prog Go.BinOp.add 9 t16_21 (Go.Value.string { data := #[34] }) (@hid _ ⟨fun t17_23 w24 =>
    R t17_23 w24⟩) w22⟩) w20⟩) w18⟩) w16⟩) (@hid _ ⟨
    BinK Tryd.prog Go.BinOp.eql 3 t6_5 (Go.Value.int Go.IntKind.i64 3) (@hid _ ⟨fun t19_25 w26 =>
    BrK t19_25 (@hid _ ⟨
     LoopK2 (Go.Value.string { data := #[91] }) (Go.Value.int Go.IntKind.i64 0) w26 (@hid _ ⟨fun _ x3_27 x4_28 w29 B30 =>
      FieldAtK Tryd.prog 28 t1_1 3 (@hid _ ⟨fun t21_31 w32 =>
      LoadK Tryd.prog 22 t21_31 (@hid _ ⟨fun t22_33 w34 =>
      BuiltinK Tryd.prog Go.Builtin.len #[22] 3 #[false] #[t22_33] (@hid _ ⟨fun t23_35 w36 =>
      BinK Tryd.prog Go.BinOp.lss 3 x4_28 t23_35 (@hid _ ⟨fun t24_37 w38 =>
      BrK t24_37 (@hid _ ⟨
       CutK1 (@hid _ ⟨fun R39 =>
        BinK Tryd.prog Go.BinOp.gtr 3 x4_28 (Go.Value.int Go.IntKind.i64 0) (@hid _ ⟨fun t28_42 w43 =>
        BrK t28_42 (@hid _ ⟨
         BinK Tryd.prog Go.BinOp.add 9 x3_27 (Go.Value.string { data := #[32] }) (@hid _ ⟨fun t30_44 w45 =>
         R39 t30_44 w45⟩) w43⟩) (@hid _ ⟨
         R39 x3_27 w43⟩)⟩) w38⟩)
       (@hid _ ⟨fun _ x3_40 w41 =>
        FieldAtK Tryd.prog 28 t1_1 3 (@hid _ ⟨fun t32_46 w47 =>
        LoadK Tryd.prog 22 t32_46 (@hid _ ⟨fun t33_48 w49 =>
        IndexAtK Tryd.prog 22 t33_48 x4_28 (@hid _ ⟨fun t35_50 w51 =>
        LoadK Tryd.prog 2 t35_50 (@hid _ ⟨fun t36_52 w53 =>
        CallV Tryd.prog (.func (.func 41) #[] #[]) #[t36_52] (@hid _ ⟨fun t37_54 w55 =>
        BinK Tryd.prog Go.BinOp.add 9 x3_40 t37_54 (@hid _ ⟨fun t38_56 w57 =>
        BinK Tryd.prog Go.BinOp.add 3 x4_28 (Go.Value.int Go.IntKind.i64 1) (@hid _ ⟨fun t26_58 w59 =>
        B30 t38_56 t26_58 w59⟩) w57⟩) w55⟩) w53⟩) w51⟩) w49⟩) w47⟩) w41⟩)⟩) (@hid _ ⟨
       BinK Tryd.prog Go.BinOp.add 9 x3_27 (Go.Value.string { data := #[93] }) (@hid _ ⟨fun t40_60 w61 =>
       R t40_60 w61⟩) w38⟩)⟩) w36⟩) w34⟩) w32⟩) w29⟩)⟩) (@hid _ ⟨
     R (Go.Value.string { data := #[] }) w26⟩)⟩) w16⟩)⟩) w8⟩)⟩) w6⟩) w4⟩) w2⟩) w0
def a17 : Ann := (.seq .no (.seq (.seq .no (.block (.seq .no (.cond (.seq .no .no) (.seq .no (.cond (.seq .no .no) (.seq .no (.cond (.seq .no (.seq (.seq .no (.block (.loop [3, 4] [(20, 38)] (.seq (.seq .no (.cond .no .no)) (.seq (.block (.cut [3] [(27, 30)] (.seq .no (.cond .no .no)) .no)) .no))))) (.seq .no .no))) .no)))))))) (.seq .no .no)))
theorem F17_eq (x0 : Value) (R : Value → World → Prop) (w0 : World) : F17 x0 R w0 = vc Tryd.prog (bodyOf Tryd.f17) a17 (retQ Tryd.prog Tryd.f17 R) (envOf 0 [x0]) w0 := by kernel_rfl
theorem F17_calls (x0 : Value) (R : Value → World → Prop) (w0 : World) (h : F17 x0 R w0) : CallK Tryd.prog 17 #[x0] R w0 :=
  calls_vc (c := bodyOf Tryd.f17) Tryd.func17 (by kernel_rfl) (by kernel_rfl) a17 (by kernel_rfl) (by kernel_rfl) [x0] (by rw [Tryd.ntmps17]; exact Nat.le_of_ble_eq_true rfl) w0 R ((F17_eq x0 R w0).mp h)

/-- canton/value.Parse, its body as a formula. -/
def F18 (x0 : Value) (R : Value → World → Prop) (w0 : World) : Prop :=
  AllocK Tryd.prog 24 (@hid _ ⟨fun t2_1 w2 =>
  CallV Tryd.prog (.func (.func 42) #[] #[]) #[x0] (@hid _ ⟨fun t9_3 w4 =>
  ExtractK Tryd.prog t9_3 0 (@hid _ ⟨fun t10_5 w6 =>
  ExtractK Tryd.prog t9_3 1 (@hid _ ⟨fun t11_7 w8 =>
  AllocK Tryd.prog 24 (@hid _ ⟨fun t4_9 w10 =>
  StoreK Tryd.prog 24 t4_9 t10_5 (@hid _ ⟨fun tu_11 w12 =>
  UnK Tryd.prog Go.UnOp.not t11_7 (@hid _ ⟨fun t13_13 w14 =>
  BrK t13_13 (@hid _ ⟨
   BuildK Tryd.prog 24 #[] (@hid _ ⟨fun t14_15 w16 =>
   StoreK Tryd.prog 24 t2_1 t14_15 (@hid _ ⟨fun tu_17 w18 =>
   LoadK Tryd.prog 24 t2_1 (@hid _ ⟨fun c19 w20 => w20 = w18 ∧ R (.tuple #[c19, (Go.Value.int Go.IntKind.i64 2)]) w18⟩) w18⟩) w16⟩) w14⟩) (@hid _ ⟨
   LoadK Tryd.prog 24 t4_9 (@hid _ ⟨fun t15_21 w22 =>
   CallV Tryd.prog (.func (.func 13) #[] #[]) #[t15_21] (@hid _ ⟨fun t16_23 w24 =>
   BinK Tryd.prog Go.BinOp.neq 30 t16_23 (Go.Value.int Go.IntKind.i64 0) (@hid _ ⟨fun t18_25 w26 =>
   BrK t18_25 (@hid _ ⟨
    BuildK Tryd.prog 24 #[] (@hid _ ⟨fun t19_27 w28 =>
    StoreK Tryd.prog 24 t2_1 t19_27 (@hid _ ⟨fun tu_29 w30 =>
    LoadK Tryd.prog 24 t2_1 (@hid _ ⟨fun c31 w32 => w32 = w30 ∧ R (.tuple #[c31, t16_23]) w30⟩) w30⟩) w28⟩) w26⟩) (@hid _ ⟨
    LoadK Tryd.prog 24 t4_9 (@hid _ ⟨fun t21_33 w34 =>
    StoreK Tryd.prog 24 t2_1 t21_33 (@hid _ ⟨fun tu_35 w36 =>
    LoadK Tryd.prog 24 t2_1 (@hid _ ⟨fun c37 w38 => w38 = w36 ∧ R (.tuple #[c37, (Go.Value.int Go.IntKind.i64 0)]) w36⟩) w36⟩) w34⟩) w26⟩)⟩) w24⟩) w22⟩) w14⟩)⟩) w12⟩) w10⟩) w8⟩) w6⟩) w4⟩) w2⟩) w0
def a18 : Ann := (.seq .no (.seq .no (.seq (.seq .no (.cond (.seq .no .no) .no)) (.seq (.seq .no (.seq .no (.cond (.seq .no .no) .no))) (.seq .no .no)))))
theorem F18_eq (x0 : Value) (R : Value → World → Prop) (w0 : World) : F18 x0 R w0 = vc Tryd.prog (bodyOf Tryd.f18) a18 (retQ Tryd.prog Tryd.f18 R) (envOf 0 [x0]) w0 := by kernel_rfl
theorem F18_calls (x0 : Value) (R : Value → World → Prop) (w0 : World) (h : F18 x0 R w0) : CallK Tryd.prog 18 #[x0] R w0 :=
  calls_vc (c := bodyOf Tryd.f18) Tryd.func18 (by kernel_rfl) (by kernel_rfl) a18 (by kernel_rfl) (by kernel_rfl) [x0] (by rw [Tryd.ntmps18]; exact Nat.le_of_ble_eq_true rfl) w0 R ((F18_eq x0 R w0).mp h)

/-- canton/value.Same, its body as a formula. -/
def F19 (x0 x1 : Value) (R : Value → World → Prop) (w0 : World) : Prop :=
  BoxK Tryd.prog 24 x0 (@hid _ ⟨fun t2_1 w2 =>
  BoxK Tryd.prog 24 x1 (@hid _ ⟨fun t3_3 w4 =>
  LoadK Tryd.prog 24 t2_1 (@hid _ ⟨fun t5_5 w6 =>
  LoadK Tryd.prog 24 t3_3 (@hid _ ⟨fun t6_7 w8 =>
  CallV Tryd.prog (.func (.func 15) #[] #[]) #[t5_5, t6_7] (@hid _ ⟨fun t7_9 w10 =>
  BinK Tryd.prog Go.BinOp.eql 3 t7_9 (Go.Value.int Go.IntKind.i64 0) (@hid _ ⟨fun t8_11 w12 =>
  R t8_11 w12⟩) w10⟩) w8⟩) w6⟩) w4⟩) w2⟩) w0
def a19 : Ann := (.seq .no (.seq .no .no))
theorem F19_eq (x0 x1 : Value) (R : Value → World → Prop) (w0 : World) : F19 x0 x1 R w0 = vc Tryd.prog (bodyOf Tryd.f19) a19 (retQ Tryd.prog Tryd.f19 R) (envOf 0 [x0, x1]) w0 := by kernel_rfl
theorem F19_calls (x0 x1 : Value) (R : Value → World → Prop) (w0 : World) (h : F19 x0 x1 R w0) : CallK Tryd.prog 19 #[x0, x1] R w0 :=
  calls_vc (c := bodyOf Tryd.f19) Tryd.func19 (by kernel_rfl) (by kernel_rfl) a19 (by kernel_rfl) (by kernel_rfl) [x0, x1] (by rw [Tryd.ntmps19]; exact Nat.le_of_ble_eq_true rfl) w0 R ((F19_eq x0 x1 R w0).mp h)

/-- canton/cantonref7.ParseValue, its body as a formula. -/
def F20 (x0 : Value) (R : Value → World → Prop) (w0 : World) : Prop :=
  AllocK Tryd.prog 28 (@hid _ ⟨fun t2_1 w2 =>
  BuiltinK Tryd.prog Go.Builtin.len #[9] 3 #[false] #[x0] (@hid _ ⟨fun t16_3 w4 =>
  BinK Tryd.prog Go.BinOp.geq 3 t16_3 (Go.Value.int Go.IntKind.i64 2) (@hid _ ⟨fun t18_5 w6 =>
  GuardK t18_5 true (fun k w => k x0 w) (@hid _ ⟨fun t20_7 w8 =>
  GuardK t18_5 true (fun k w => ValK Tryd.prog (Instr.index 9 t20_7 (Go.Value.int Go.IntKind.i64 0)) k w) (@hid _ ⟨fun t21_9 w10 =>
  GuardK t18_5 true (fun k w => BinK Tryd.prog Go.BinOp.eql 5 t21_9 (Go.Value.int Go.IntKind.u8 34) k w) (@hid _ ⟨fun t22_11 w12 =>
  PickK Tryd.prog t18_5 t22_11 (Go.Value.bool false) (@hid _ ⟨fun t23_13 w14 =>
  GuardK t23_13 true (fun k w => k x0 w) (@hid _ ⟨fun t25_15 w16 =>
  GuardK t23_13 true (fun k w => k t16_3 w) (@hid _ ⟨fun t26_17 w18 =>
  GuardK t23_13 true (fun k w => BinK Tryd.prog Go.BinOp.sub 3 t26_17 (Go.Value.int Go.IntKind.i64 1) k w) (@hid _ ⟨fun t27_19 w20 =>
  GuardK t23_13 true (fun k w => ValK Tryd.prog (Instr.index 9 t25_15 t27_19) k w) (@hid _ ⟨fun t28_21 w22 =>
  GuardK t23_13 true (fun k w => BinK Tryd.prog Go.BinOp.eql 5 t28_21 (Go.Value.int Go.IntKind.u8 34) k w) (@hid _ ⟨fun t29_23 w24 =>
  PickK Tryd.prog t23_13 t29_23 (Go.Value.bool false) (@hid _ ⟨fun t30_25 w26 =>
  BrK t30_25 (@hid _ ⟨
   BinK Tryd.prog Go.BinOp.sub 3 t16_3 (Go.Value.int Go.IntKind.i64 1) (@hid _ ⟨fun t33_27 w28 =>
   SliceK Tryd.prog 9 x0 (some (Go.Value.int Go.IntKind.i64 1)) (some t33_27) none (@hid _ ⟨fun t34_29 w30 =>
   BuildK Tryd.prog 28 #[(0, (Go.Value.int Go.IntKind.i64 2)), (2, t34_29)] (@hid _ ⟨fun t35_31 w32 =>
   AllocK Tryd.prog 28 (@hid _ ⟨fun t5_33 w34 =>
   StoreK Tryd.prog 28 t5_33 t35_31 (@hid _ ⟨fun tu_35 w36 =>
   LoadK Tryd.prog 28 t5_33 (@hid _ ⟨fun t36_37 w38 =>
   CallV Tryd.prog (.func (.func 11) #[] #[]) #[t36_37] (@hid _ ⟨fun t37_39 w40 =>
   BinK Tryd.prog Go.BinOp.neq 3 t37_39 (Go.Value.int Go.IntKind.i64 0) (@hid _ ⟨fun t39_41 w42 =>
   BrK t39_41 (@hid _ ⟨
    BuildK Tryd.prog 28 #[] (@hid _ ⟨fun t40_43 w44 =>
    StoreK Tryd.prog 28 t2_1 t40_43 (@hid _ ⟨fun tu_45 w46 =>
    LoadK Tryd.prog 28 t2_1 (@hid _ ⟨fun c47 w48 => w48 = w46 ∧ R (.tuple #[c47, t37_39]) w46⟩) w46⟩) w44⟩) w42⟩) (@hid _ ⟨
    LoadK Tryd.prog 28 t5_33 (@hid _ ⟨fun t42_49 w50 =>
    StoreK Tryd.prog 28 t2_1 t42_49 (@hid _ ⟨fun tu_51 w52 =>
    LoadK Tryd.prog 28 t2_1 (@hid _ ⟨fun c53 w54 => w54 = w52 ∧ R (.tuple #[c53, (Go.Value.int Go.IntKind.i64 0)]) w52⟩) w52⟩) w50⟩) w42⟩)⟩) w40⟩) w38⟩) w36⟩) w34⟩) w32⟩) w30⟩) w28⟩) w26⟩) (@hid _ ⟨
   BinK Tryd.prog Go.BinOp.geq 3 t16_3 (Go.Value.int Go.IntKind.i64 2) (@hid _ ⟨fun t44_55 w56 =>
   GuardK t44_55 true (fun k w => k x0 w) (@hid _ ⟨fun t46_57 w58 =>
   GuardK t44_55 true (fun k w => ValK Tryd.prog (Instr.index 9 t46_57 (Go.Value.int Go.IntKind.i64 0)) k w) (@hid _ ⟨fun t47_59 w60 =>
   GuardK t44_55 true (fun k w => BinK Tryd.prog Go.BinOp.eql 5 t47_59 (Go.Value.int Go.IntKind.u8 91) k w) (@hid _ ⟨fun t48_61 w62 =>
   PickK Tryd.prog t44_55 t48_61 (Go.Value.bool false) (@hid _ ⟨fun t49_63 w64 =>
   GuardK t49_63 true (fun k w => k x0 w) (@hid _ ⟨fun t51_65 w66 =>
   GuardK t49_63 true (fun k w => k t16_3 w) (@hid _ ⟨fun t52_67 w68 =>
   GuardK t49_63 true (fun k w => BinK Tryd.prog Go.BinOp.sub 3 t52_67 (Go.Value.int Go.IntKind.i64 1) k w) (@hid _ ⟨fun t53_69 w70 =>
   GuardK t49_63 true (fun k w => ValK Tryd.prog (Instr.index 9 t51_65 t53_69) k w) (@hid _ ⟨fun t54_71 w72 =>
   GuardK t49_63 true (fun k w => BinK Tryd.prog Go.BinOp.eql 5 t54_71 (Go.Value.int Go.IntKind.u8 93) k w) (@hid _ ⟨fun t55_73 w74 =>
   PickK Tryd.prog t49_63 t55_73 (Go.Value.bool false) (@hid _ ⟨fun t56_75 w76 =>
   BrK t56_75 (@hid _ ⟨
    BuildK Tryd.prog 28 #[(0, (Go.Value.int Go.IntKind.i64 3))] (@hid _ ⟨fun t57_77 w78 =>
    AllocK Tryd.prog 28 (@hid _ ⟨fun t7_79 w80 =>
    StoreK Tryd.prog 28 t7_79 t57_77 (@hid _ ⟨fun tu_81 w82 =>
    BinK Tryd.prog Go.BinOp.sub 3 t16_3 (Go.Value.int Go.IntKind.i64 1) (@hid _ ⟨fun t60_83 w84 =>
    SliceK Tryd.prog 9 x0 (some (Go.Value.int Go.IntKind.i64 1)) (some t60_83) none (@hid _ ⟨fun t61_85 w86 =>
    CallV Tryd.prog (.func (.func 43) #[] #[]) #[t61_85] (@hid _ ⟨fun t62_87 w88 =>
    LoopK1 (Go.Value.int Go.IntKind.i64 0) w88 (@hid _ ⟨fun _ x9_89 w90 B91 =>
     BuiltinK Tryd.prog Go.Builtin.len #[59] 3 #[false] #[t62_87] (@hid _ ⟨fun t65_92 w93 =>
     BinK Tryd.prog Go.BinOp.lss 3 x9_89 t65_92 (@hid _ ⟨fun t66_94 w95 =>
     BrK t66_94 (@hid _ ⟨
      IndexAtK Tryd.prog 59 t62_87 x9_89 (@hid _ ⟨fun t72_96 w97 =>
      LoadK Tryd.prog 9 t72_96 (@hid _ ⟨fun t73_98 w99 =>
      CallV Tryd.prog (.func (.func 44) #[] #[]) #[t73_98] (@hid _ ⟨fun t74_100 w101 =>
      ExtractK Tryd.prog t74_100 0 (@hid _ ⟨fun t75_102 w103 =>
      ExtractK Tryd.prog t74_100 1 (@hid _ ⟨fun t76_104 w105 =>
      UnK Tryd.prog Go.UnOp.not t76_104 (@hid _ ⟨fun t78_106 w107 =>
      BrK t78_106 (@hid _ ⟨
       BuildK Tryd.prog 28 #[] (@hid _ ⟨fun t79_108 w109 =>
       StoreK Tryd.prog 28 t2_1 t79_108 (@hid _ ⟨fun tu_110 w111 =>
       LoadK Tryd.prog 28 t2_1 (@hid _ ⟨fun c112 w113 => w113 = w111 ∧ R (.tuple #[c112, (Go.Value.int Go.IntKind.i64 2)]) w111⟩) w111⟩) w109⟩) w107⟩) (@hid _ ⟨
       FieldAtK Tryd.prog 28 t7_79 3 (@hid _ ⟨fun t80_114 w115 =>
       LoadK Tryd.prog 22 t80_114 (@hid _ ⟨fun t81_116 w117 =>
       BuildSliceK Tryd.prog 22 1 #[(0, t75_102)] (@hid _ ⟨fun t83_118 w119 =>
       BuiltinK Tryd.prog Go.Builtin.append #[22, 22] 22 #[false, false] #[t81_116, t83_118] (@hid _ ⟨fun t84_120 w121 =>
       FieldAtK Tryd.prog 28 t7_79 3 (@hid _ ⟨fun t85_122 w123 =>
       StoreK Tryd.prog 22 t85_122 t84_120 (@hid _ ⟨fun tu_124 w125 =>
       BinK Tryd.prog Go.BinOp.add 3 x9_89 (Go.Value.int Go.IntKind.i64 1) (@hid _ ⟨fun t68_126 w127 =>
       B91 t68_126 w127⟩) w125⟩) w123⟩) w121⟩) w119⟩) w117⟩) w115⟩) w107⟩)⟩) w105⟩) w103⟩) w101⟩) w99⟩) w97⟩) w95⟩) (@hid _ ⟨
      LoadK Tryd.prog 28 t7_79 (@hid _ ⟨fun t86_128 w129 =>
      CallV Tryd.prog (.func (.func 11) #[] #[]) #[t86_128] (@hid _ ⟨fun t87_130 w131 =>
      BinK Tryd.prog Go.BinOp.neq 3 t87_130 (Go.Value.int Go.IntKind.i64 0) (@hid _ ⟨fun t89_132 w133 =>
      BrK t89_132 (@hid _ ⟨
       BuildK Tryd.prog 28 #[] (@hid _ ⟨fun t90_134 w135 =>
       StoreK Tryd.prog 28 t2_1 t90_134 (@hid _ ⟨fun tu_136 w137 =>
       LoadK Tryd.prog 28 t2_1 (@hid _ ⟨fun c138 w139 => w139 = w137 ∧ R (.tuple #[c138, t87_130]) w137⟩) w137⟩) w135⟩) w133⟩) (@hid _ ⟨
       LoadK Tryd.prog 28 t7_79 (@hid _ ⟨fun t92_140 w141 =>
       StoreK Tryd.prog 28 t2_1 t92_140 (@hid _ ⟨fun tu_142 w143 =>
       LoadK Tryd.prog 28 t2_1 (@hid _ ⟨fun c144 w145 => w145 = w143 ∧ R (.tuple #[c144, (Go.Value.int Go.IntKind.i64 0)]) w143⟩) w143⟩) w141⟩) w133⟩)⟩) w131⟩) w129⟩) w95⟩)⟩) w93⟩) w90⟩)⟩) w86⟩) w84⟩) w82⟩) w80⟩) w78⟩) w76⟩) (@hid _ ⟨
    CallV Tryd.prog (.func (.func 44) #[] #[]) #[x0] (@hid _ ⟨fun t95_146 w147 =>
    ExtractK Tryd.prog t95_146 0 (@hid _ ⟨fun t96_148 w149 =>
    ExtractK Tryd.prog t95_146 1 (@hid _ ⟨fun t97_150 w151 =>
    UnK Tryd.prog Go.UnOp.not t97_150 (@hid _ ⟨fun t99_152 w153 =>
    BrK t99_152 (@hid _ ⟨
     BuildK Tryd.prog 28 #[] (@hid _ ⟨fun t100_154 w155 =>
     StoreK Tryd.prog 28 t2_1 t100_154 (@hid _ ⟨fun tu_156 w157 =>
     LoadK Tryd.prog 28 t2_1 (@hid _ ⟨fun c158 w159 => w159 = w157 ∧ R (.tuple #[c158, (Go.Value.int Go.IntKind.i64 2)]) w157⟩) w157⟩) w155⟩) w153⟩) (@hid _ ⟨
     BuildK Tryd.prog 28 #[(0, (Go.Value.int Go.IntKind.i64 1)), (1, t96_148)] (@hid _ ⟨fun t102_160 w161 =>
     StoreK Tryd.prog 28 t2_1 t102_160 (@hid _ ⟨fun tu_162 w163 =>
     LoadK Tryd.prog 28 t2_1 (@hid _ ⟨fun c164 w165 => w165 = w163 ∧ R (.tuple #[c164, (Go.Value.int Go.IntKind.i64 0)]) w163⟩) w163⟩) w161⟩) w153⟩)⟩) w151⟩) w149⟩) w147⟩) w76⟩)⟩) w74⟩) w72⟩) w70⟩) w68⟩) w66⟩) w64⟩) w62⟩) w60⟩) w58⟩) w56⟩) w26⟩)⟩) w24⟩) w22⟩) w20⟩) w18⟩) w16⟩) w14⟩) w12⟩) w10⟩) w8⟩) w6⟩) w4⟩) w2⟩) w0
def a20 : Ann := (.seq .no (.seq .no (.seq (.seq .no (.cond (.seq .no (.seq .no (.seq (.seq .no (.cond (.seq .no .no) .no)) (.seq .no .no)))) .no)) (.seq (.seq .no (.cond (.seq .no (.seq .no (.seq (.seq .no (.block (.loop [9] [(3, 3), (10, 11), (63, 85)] (.seq (.seq .no (.cond .no .no)) (.seq (.block (.seq .no (.seq (.seq .no (.cond (.seq .no .no) .no)) .no))) .no))))) (.seq .no (.seq (.seq .no (.cond (.seq .no .no) .no)) (.seq .no .no)))))) .no)) (.seq .no (.seq (.seq .no (.cond (.seq .no .no) .no)) (.seq .no .no)))))))
theorem F20_eq (x0 : Value) (R : Value → World → Prop) (w0 : World) : F20 x0 R w0 = vc Tryd.prog (bodyOf Tryd.f20) a20 (retQ Tryd.prog Tryd.f20 R) (envOf 0 [x0]) w0 := by kernel_rfl
theorem F20_calls (x0 : Value) (R : Value → World → Prop) (w0 : World) (h : F20 x0 R w0) : CallK Tryd.prog 20 #[x0] R w0 :=
  calls_vc (c := bodyOf Tryd.f20) Tryd.func20 (by kernel_rfl) (by kernel_rfl) a20 (by kernel_rfl) (by kernel_rfl) [x0] (by rw [Tryd.ntmps20]; exact Nat.le_of_ble_eq_true rfl) w0 R ((F20_eq x0 R w0).mp h)

/-- canton/value.Div, its body as a formula. -/
def F21 (x0 x1 : Value) (R : Value → World → Prop) (w0 : World) : Prop :=
  BinK Tryd.prog Go.BinOp.eql 2 x1 (Go.Value.int Go.IntKind.i64 0) (@hid _ ⟨fun t8_1 w2 =>
  BrK t8_1 (@hid _ ⟨
   R (.tuple #[(Go.Value.int Go.IntKind.i64 0), (Go.Value.bool false)]) w2⟩) (@hid _ ⟨
   BinK Tryd.prog Go.BinOp.eql 2 x1 (Go.Value.int Go.IntKind.i64 (-1)) (@hid _ ⟨fun t11_3 w4 =>
   BrK t11_3 (@hid _ ⟨
    CallV Tryd.prog (.func (.func 27) #[] #[]) #[(Go.Value.int Go.IntKind.i64 0), x0] (@hid _ ⟨fun t13_5 w6 =>
    R (.tuple #[t13_5, (Go.Value.bool true)]) w6⟩) w4⟩) (@hid _ ⟨
    BinK Tryd.prog Go.BinOp.quo 2 x0 x1 (@hid _ ⟨fun t16_7 w8 =>
    R (.tuple #[t16_7, (Go.Value.bool true)]) w8⟩) w4⟩)⟩) w2⟩)⟩) w0
def a21 : Ann := (.seq .no (.seq (.block (.seq .no (.cond (.seq .no .no) (.seq .no (.cond (.seq .no .no) .no))))) (.seq .no .no)))
theorem F21_eq (x0 x1 : Value) (R : Value → World → Prop) (w0 : World) : F21 x0 x1 R w0 = vc Tryd.prog (bodyOf Tryd.f21) a21 (retQ Tryd.prog Tryd.f21 R) (envOf 0 [x0, x1]) w0 := by kernel_rfl
theorem F21_calls (x0 x1 : Value) (R : Value → World → Prop) (w0 : World) (h : F21 x0 x1 R w0) : CallK Tryd.prog 21 #[x0, x1] R w0 :=
  calls_vc (c := bodyOf Tryd.f21) Tryd.func21 (by kernel_rfl) (by kernel_rfl) a21 (by kernel_rfl) (by kernel_rfl) [x0, x1] (by rw [Tryd.ntmps21]; exact Nat.le_of_ble_eq_true rfl) w0 R ((F21_eq x0 x1 R w0).mp h)

/-- canton/value.Mod, its body as a formula. -/
def F22 (x0 x1 : Value) (R : Value → World → Prop) (w0 : World) : Prop :=
  BinK Tryd.prog Go.BinOp.eql 2 x1 (Go.Value.int Go.IntKind.i64 0) (@hid _ ⟨fun t8_1 w2 =>
  BrK t8_1 (@hid _ ⟨
   R (.tuple #[(Go.Value.int Go.IntKind.i64 0), (Go.Value.bool false)]) w2⟩) (@hid _ ⟨
   BinK Tryd.prog Go.BinOp.eql 2 x1 (Go.Value.int Go.IntKind.i64 (-1)) (@hid _ ⟨fun t10_3 w4 =>
   BrK t10_3 (@hid _ ⟨
    R (.tuple #[(Go.Value.int Go.IntKind.i64 0), (Go.Value.bool true)]) w4⟩) (@hid _ ⟨
    BinK Tryd.prog Go.BinOp.rem 2 x0 x1 (@hid _ ⟨fun t13_5 w6 =>
    R (.tuple #[t13_5, (Go.Value.bool true)]) w6⟩) w4⟩)⟩) w2⟩)⟩) w0
def a22 : Ann := (.seq .no (.seq (.seq .no (.block (.seq .no (.cond (.seq .no .no) (.seq .no (.cond (.seq .no .no) .no)))))) (.seq .no .no)))
theorem F22_eq (x0 x1 : Value) (R : Value → World → Prop) (w0 : World) : F22 x0 x1 R w0 = vc Tryd.prog (bodyOf Tryd.f22) a22 (retQ Tryd.prog Tryd.f22 R) (envOf 0 [x0, x1]) w0 := by kernel_rfl
theorem F22_calls (x0 x1 : Value) (R : Value → World → Prop) (w0 : World) (h : F22 x0 x1 R w0) : CallK Tryd.prog 22 #[x0, x1] R w0 :=
  calls_vc (c := bodyOf Tryd.f22) Tryd.func22 (by kernel_rfl) (by kernel_rfl) a22 (by kernel_rfl) (by kernel_rfl) [x0, x1] (by rw [Tryd.ntmps22]; exact Nat.le_of_ble_eq_true rfl) w0 R ((F22_eq x0 x1 R w0).mp h)

/-- canton/cantonref7.Div, its body as a formula. -/
def F23 (x0 x1 : Value) (R : Value → World → Prop) (w0 : World) : Prop :=
  BinK Tryd.prog Go.BinOp.eql 2 x1 (Go.Value.int Go.IntKind.i64 0) (@hid _ ⟨fun t8_1 w2 =>
  BrK t8_1 (@hid _ ⟨
   R (.tuple #[(Go.Value.int Go.IntKind.i64 0), (Go.Value.bool false)]) w2⟩) (@hid _ ⟨
   BinK Tryd.prog Go.BinOp.eql 2 x0 (Go.Value.int Go.IntKind.i64 (-9223372036854775808)) (@hid _ ⟨fun t11_3 w4 =>
   GuardK t11_3 true (fun k w => k x1 w) (@hid _ ⟨fun t13_5 w6 =>
   GuardK t11_3 true (fun k w => BinK Tryd.prog Go.BinOp.eql 2 t13_5 (Go.Value.int Go.IntKind.i64 (-1)) k w) (@hid _ ⟨fun t14_7 w8 =>
   PickK Tryd.prog t11_3 t14_7 (Go.Value.bool false) (@hid _ ⟨fun t15_9 w10 =>
   BrK t15_9 (@hid _ ⟨
    R (.tuple #[(Go.Value.int Go.IntKind.i64 9223372036854775807), (Go.Value.bool true)]) w10⟩) (@hid _ ⟨
    BinK Tryd.prog Go.BinOp.quo 2 x0 x1 (@hid _ ⟨fun t18_11 w12 =>
    R (.tuple #[t18_11, (Go.Value.bool true)]) w12⟩) w10⟩)⟩) w8⟩) w6⟩) w4⟩) w2⟩)⟩) w0
def a23 : Ann := (.seq .no (.seq (.block (.seq .no (.cond (.seq .no .no) (.seq .no (.cond (.seq .no .no) .no))))) (.seq .no .no)))
theorem F23_eq (x0 x1 : Value) (R : Value → World → Prop) (w0 : World) : F23 x0 x1 R w0 = vc Tryd.prog (bodyOf Tryd.f23) a23 (retQ Tryd.prog Tryd.f23 R) (envOf 0 [x0, x1]) w0 := by kernel_rfl
theorem F23_calls (x0 x1 : Value) (R : Value → World → Prop) (w0 : World) (h : F23 x0 x1 R w0) : CallK Tryd.prog 23 #[x0, x1] R w0 :=
  calls_vc (c := bodyOf Tryd.f23) Tryd.func23 (by kernel_rfl) (by kernel_rfl) a23 (by kernel_rfl) (by kernel_rfl) [x0, x1] (by rw [Tryd.ntmps23]; exact Nat.le_of_ble_eq_true rfl) w0 R ((F23_eq x0 x1 R w0).mp h)

/-- canton/cantonref7.Mod, its body as a formula. -/
def F24 (x0 x1 : Value) (R : Value → World → Prop) (w0 : World) : Prop :=
  BinK Tryd.prog Go.BinOp.eql 2 x1 (Go.Value.int Go.IntKind.i64 0) (@hid _ ⟨fun t8_1 w2 =>
  BrK t8_1 (@hid _ ⟨
   R (.tuple #[(Go.Value.int Go.IntKind.i64 0), (Go.Value.bool false)]) w2⟩) (@hid _ ⟨
   BinK Tryd.prog Go.BinOp.eql 2 x1 (Go.Value.int Go.IntKind.i64 (-1)) (@hid _ ⟨fun t11_3 w4 =>
   BrK t11_3 (@hid _ ⟨
    R (.tuple #[(Go.Value.int Go.IntKind.i64 0), (Go.Value.bool true)]) w4⟩) (@hid _ ⟨
    BinK Tryd.prog Go.BinOp.rem 2 x0 x1 (@hid _ ⟨fun t14_5 w6 =>
    R (.tuple #[t14_5, (Go.Value.bool true)]) w6⟩) w4⟩)⟩) w2⟩)⟩) w0
def a24 : Ann := (.seq .no (.seq (.block (.seq .no (.cond (.seq .no .no) (.seq .no (.cond (.seq .no .no) .no))))) (.seq .no .no)))
theorem F24_eq (x0 x1 : Value) (R : Value → World → Prop) (w0 : World) : F24 x0 x1 R w0 = vc Tryd.prog (bodyOf Tryd.f24) a24 (retQ Tryd.prog Tryd.f24 R) (envOf 0 [x0, x1]) w0 := by kernel_rfl
theorem F24_calls (x0 x1 : Value) (R : Value → World → Prop) (w0 : World) (h : F24 x0 x1 R w0) : CallK Tryd.prog 24 #[x0, x1] R w0 :=
  calls_vc (c := bodyOf Tryd.f24) Tryd.func24 (by kernel_rfl) (by kernel_rfl) a24 (by kernel_rfl) (by kernel_rfl) [x0, x1] (by rw [Tryd.ntmps24]; exact Nat.le_of_ble_eq_true rfl) w0 R ((F24_eq x0 x1 R w0).mp h)

/-- canton/value.Add, its body as a formula. -/
def F25 (x0 x1 : Value) (R : Value → World → Prop) (w0 : World) : Prop :=
  BinK Tryd.prog Go.BinOp.add 2 x0 x1 (@hid _ ⟨fun t8_1 w2 =>
  BinK Tryd.prog Go.BinOp.lss 2 x0 (Go.Value.int Go.IntKind.i64 0) (@hid _ ⟨fun t10_3 w4 =>
  BinK Tryd.prog Go.BinOp.lss 2 x1 (Go.Value.int Go.IntKind.i64 0) (@hid _ ⟨fun t12_5 w6 =>
  BinK Tryd.prog Go.BinOp.eql 4 t10_3 t12_5 (@hid _ ⟨fun t13_7 w8 =>
  GuardK t13_7 true (fun k w => k t8_1 w) (@hid _ ⟨fun t15_9 w10 =>
  GuardK t13_7 true (fun k w => BinK Tryd.prog Go.BinOp.lss 2 t15_9 (Go.Value.int Go.IntKind.i64 0) k w) (@hid _ ⟨fun t16_11 w12 =>
  GuardK t13_7 true (fun k w => k x0 w) (@hid _ ⟨fun t17_13 w14 =>
  GuardK t13_7 true (fun k w => BinK Tryd.prog Go.BinOp.lss 2 t17_13 (Go.Value.int Go.IntKind.i64 0) k w) (@hid _ ⟨fun t18_15 w16 =>
  GuardK t13_7 true (fun k w => BinK Tryd.prog Go.BinOp.neq 4 t16_11 t18_15 k w) (@hid _ ⟨fun t19_17 w18 =>
  PickK Tryd.prog t13_7 t19_17 (Go.Value.bool false) (@hid _ ⟨fun t20_19 w20 =>
  BrK t20_19 (@hid _ ⟨
   BinK Tryd.prog Go.BinOp.lss 2 x0 (Go.Value.int Go.IntKind.i64 0) (@hid _ ⟨fun t22_21 w22 =>
   CallV Tryd.prog (.func (.func 45) #[] #[]) #[t22_21] (@hid _ ⟨fun t23_23 w24 =>
   R t23_23 w24⟩) w22⟩) w20⟩) (@hid _ ⟨
   R t8_1 w20⟩)⟩) w18⟩) w16⟩) w14⟩) w12⟩) w10⟩) w8⟩) w6⟩) w4⟩) w2⟩) w0
def a25 : Ann := (.seq .no (.seq .no (.seq (.seq .no (.cond (.seq .no .no) .no)) (.seq .no .no))))
theorem F25_eq (x0 x1 : Value) (R : Value → World → Prop) (w0 : World) : F25 x0 x1 R w0 = vc Tryd.prog (bodyOf Tryd.f25) a25 (retQ Tryd.prog Tryd.f25 R) (envOf 0 [x0, x1]) w0 := by kernel_rfl
theorem F25_calls (x0 x1 : Value) (R : Value → World → Prop) (w0 : World) (h : F25 x0 x1 R w0) : CallK Tryd.prog 25 #[x0, x1] R w0 :=
  calls_vc (c := bodyOf Tryd.f25) Tryd.func25 (by kernel_rfl) (by kernel_rfl) a25 (by kernel_rfl) (by kernel_rfl) [x0, x1] (by rw [Tryd.ntmps25]; exact Nat.le_of_ble_eq_true rfl) w0 R ((F25_eq x0 x1 R w0).mp h)

/-- canton/cantonref7.Add, its body as a formula. -/
def F26 (x0 x1 : Value) (R : Value → World → Prop) (w0 : World) : Prop :=
  BinK Tryd.prog Go.BinOp.gtr 2 x1 (Go.Value.int Go.IntKind.i64 0) (@hid _ ⟨fun t7_1 w2 =>
  GuardK t7_1 true (fun k w => k x0 w) (@hid _ ⟨fun t9_3 w4 =>
  GuardK t7_1 true (fun k w => k x1 w) (@hid _ ⟨fun t10_5 w6 =>
  GuardK t7_1 true (fun k w => BinK Tryd.prog Go.BinOp.sub 2 (Go.Value.int Go.IntKind.i64 9223372036854775807) t10_5 k w) (@hid _ ⟨fun t11_7 w8 =>
  GuardK t7_1 true (fun k w => BinK Tryd.prog Go.BinOp.gtr 2 t9_3 t11_7 k w) (@hid _ ⟨fun t12_9 w10 =>
  PickK Tryd.prog t7_1 t12_9 (Go.Value.bool false) (@hid _ ⟨fun t13_11 w12 =>
  BrK t13_11 (@hid _ ⟨
   R (Go.Value.int Go.IntKind.i64 9223372036854775807) w12⟩) (@hid _ ⟨
   BinK Tryd.prog Go.BinOp.lss 2 x1 (Go.Value.int Go.IntKind.i64 0) (@hid _ ⟨fun t16_13 w14 =>
   GuardK t16_13 true (fun k w => k x0 w) (@hid _ ⟨fun t18_15 w16 =>
   GuardK t16_13 true (fun k w => k x1 w) (@hid _ ⟨fun t19_17 w18 =>
   GuardK t16_13 true (fun k w => BinK Tryd.prog Go.BinOp.sub 2 (Go.Value.int Go.IntKind.i64 (-9223372036854775808)) t19_17 k w) (@hid _ ⟨fun t20_19 w20 =>
   GuardK t16_13 true (fun k w => BinK Tryd.prog Go.BinOp.lss 2 t18_15 t20_19 k w) (@hid _ ⟨fun t21_21 w22 =>
   PickK Tryd.prog t16_13 t21_21 (Go.Value.bool false) (@hid _ ⟨fun t22_23 w24 =>
   BrK t22_23 (@hid _ ⟨
    R (Go.Value.int Go.IntKind.i64 (-9223372036854775808)) w24⟩) (@hid _ ⟨
    BinK Tryd.prog Go.BinOp.add 2 x0 x1 (@hid _ ⟨fun t25_25 w26 =>
    R t25_25 w26⟩) w24⟩)⟩) w22⟩) w20⟩) w18⟩) w16⟩) w14⟩) w12⟩)⟩) w10⟩) w8⟩) w6⟩) w4⟩) w2⟩) w0
def a26 : Ann := (.seq .no (.seq (.block (.seq .no (.cond (.seq .no .no) (.seq .no (.cond (.seq .no .no) .no))))) (.seq .no .no)))
theorem F26_eq (x0 x1 : Value) (R : Value → World → Prop) (w0 : World) : F26 x0 x1 R w0 = vc Tryd.prog (bodyOf Tryd.f26) a26 (retQ Tryd.prog Tryd.f26 R) (envOf 0 [x0, x1]) w0 := by kernel_rfl
theorem F26_calls (x0 x1 : Value) (R : Value → World → Prop) (w0 : World) (h : F26 x0 x1 R w0) : CallK Tryd.prog 26 #[x0, x1] R w0 :=
  calls_vc (c := bodyOf Tryd.f26) Tryd.func26 (by kernel_rfl) (by kernel_rfl) a26 (by kernel_rfl) (by kernel_rfl) [x0, x1] (by rw [Tryd.ntmps26]; exact Nat.le_of_ble_eq_true rfl) w0 R ((F26_eq x0 x1 R w0).mp h)

/-- canton/value.Sub, its body as a formula. -/
def F27 (x0 x1 : Value) (R : Value → World → Prop) (w0 : World) : Prop :=
  BinK Tryd.prog Go.BinOp.sub 2 x0 x1 (@hid _ ⟨fun t8_1 w2 =>
  BinK Tryd.prog Go.BinOp.lss 2 x0 (Go.Value.int Go.IntKind.i64 0) (@hid _ ⟨fun t10_3 w4 =>
  BinK Tryd.prog Go.BinOp.lss 2 x1 (Go.Value.int Go.IntKind.i64 0) (@hid _ ⟨fun t12_5 w6 =>
  BinK Tryd.prog Go.BinOp.neq 4 t10_3 t12_5 (@hid _ ⟨fun t13_7 w8 =>
  GuardK t13_7 true (fun k w => k t8_1 w) (@hid _ ⟨fun t15_9 w10 =>
  GuardK t13_7 true (fun k w => BinK Tryd.prog Go.BinOp.lss 2 t15_9 (Go.Value.int Go.IntKind.i64 0) k w) (@hid _ ⟨fun t16_11 w12 =>
  GuardK t13_7 true (fun k w => k x0 w) (@hid _ ⟨fun t17_13 w14 =>
  GuardK t13_7 true (fun k w => BinK Tryd.prog Go.BinOp.lss 2 t17_13 (Go.Value.int Go.IntKind.i64 0) k w) (@hid _ ⟨fun t18_15 w16 =>
  GuardK t13_7 true (fun k w => BinK Tryd.prog Go.BinOp.neq 4 t16_11 t18_15 k w) (@hid _ ⟨fun t19_17 w18 =>
  PickK Tryd.prog t13_7 t19_17 (Go.Value.bool false) (@hid _ ⟨fun t20_19 w20 =>
  BrK t20_19 (@hid _ ⟨
   BinK Tryd.prog Go.BinOp.lss 2 x0 (Go.Value.int Go.IntKind.i64 0) (@hid _ ⟨fun t22_21 w22 =>
   CallV Tryd.prog (.func (.func 45) #[] #[]) #[t22_21] (@hid _ ⟨fun t23_23 w24 =>
   R t23_23 w24⟩) w22⟩) w20⟩) (@hid _ ⟨
   R t8_1 w20⟩)⟩) w18⟩) w16⟩) w14⟩) w12⟩) w10⟩) w8⟩) w6⟩) w4⟩) w2⟩) w0
def a27 : Ann := (.seq .no (.seq .no (.seq (.seq .no (.cond (.seq .no .no) .no)) (.seq .no .no))))
theorem F27_eq (x0 x1 : Value) (R : Value → World → Prop) (w0 : World) : F27 x0 x1 R w0 = vc Tryd.prog (bodyOf Tryd.f27) a27 (retQ Tryd.prog Tryd.f27 R) (envOf 0 [x0, x1]) w0 := by kernel_rfl
theorem F27_calls (x0 x1 : Value) (R : Value → World → Prop) (w0 : World) (h : F27 x0 x1 R w0) : CallK Tryd.prog 27 #[x0, x1] R w0 :=
  calls_vc (c := bodyOf Tryd.f27) Tryd.func27 (by kernel_rfl) (by kernel_rfl) a27 (by kernel_rfl) (by kernel_rfl) [x0, x1] (by rw [Tryd.ntmps27]; exact Nat.le_of_ble_eq_true rfl) w0 R ((F27_eq x0 x1 R w0).mp h)

/-- canton/cantonref7.Sub, its body as a formula. -/
def F28 (x0 x1 : Value) (R : Value → World → Prop) (w0 : World) : Prop :=
  BinK Tryd.prog Go.BinOp.lss 2 x1 (Go.Value.int Go.IntKind.i64 0) (@hid _ ⟨fun t7_1 w2 =>
  GuardK t7_1 true (fun k w => k x0 w) (@hid _ ⟨fun t9_3 w4 =>
  GuardK t7_1 true (fun k w => k x1 w) (@hid _ ⟨fun t10_5 w6 =>
  GuardK t7_1 true (fun k w => BinK Tryd.prog Go.BinOp.add 2 (Go.Value.int Go.IntKind.i64 9223372036854775807) t10_5 k w) (@hid _ ⟨fun t11_7 w8 =>
  GuardK t7_1 true (fun k w => BinK Tryd.prog Go.BinOp.gtr 2 t9_3 t11_7 k w) (@hid _ ⟨fun t12_9 w10 =>
  PickK Tryd.prog t7_1 t12_9 (Go.Value.bool false) (@hid _ ⟨fun t13_11 w12 =>
  BrK t13_11 (@hid _ ⟨
   R (Go.Value.int Go.IntKind.i64 9223372036854775807) w12⟩) (@hid _ ⟨
   BinK Tryd.prog Go.BinOp.gtr 2 x1 (Go.Value.int Go.IntKind.i64 0) (@hid _ ⟨fun t16_13 w14 =>
   GuardK t16_13 true (fun k w => k x0 w) (@hid _ ⟨fun t18_15 w16 =>
   GuardK t16_13 true (fun k w => k x1 w) (@hid _ ⟨fun t19_17 w18 =>
   GuardK t16_13 true (fun k w => BinK Tryd.prog Go.BinOp.add 2 (Go.Value.int Go.IntKind.i64 (-9223372036854775808)) t19_17 k w) (@hid _ ⟨fun t20_19 w20 =>
   GuardK t16_13 true (fun k w => BinK Tryd.prog Go.BinOp.lss 2 t18_15 t20_19 k w) (@hid _ ⟨fun t21_21 w22 =>
   PickK Tryd.prog t16_13 t21_21 (Go.Value.bool false) (@hid _ ⟨fun t22_23 w24 =>
   BrK t22_23 (@hid _ ⟨
    R (Go.Value.int Go.IntKind.i64 (-9223372036854775808)) w24⟩) (@hid _ ⟨
    BinK Tryd.prog Go.BinOp.sub 2 x0 x1 (@hid _ ⟨fun t25_25 w26 =>
    R t25_25 w26⟩) w24⟩)⟩) w22⟩) w20⟩) w18⟩) w16⟩) w14⟩) w12⟩)⟩) w10⟩) w8⟩) w6⟩) w4⟩) w2⟩) w0
def a28 : Ann := (.seq .no (.seq (.block (.seq .no (.cond (.seq .no .no) (.seq .no (.cond (.seq .no .no) .no))))) (.seq .no .no)))
theorem F28_eq (x0 x1 : Value) (R : Value → World → Prop) (w0 : World) : F28 x0 x1 R w0 = vc Tryd.prog (bodyOf Tryd.f28) a28 (retQ Tryd.prog Tryd.f28 R) (envOf 0 [x0, x1]) w0 := by kernel_rfl
theorem F28_calls (x0 x1 : Value) (R : Value → World → Prop) (w0 : World) (h : F28 x0 x1 R w0) : CallK Tryd.prog 28 #[x0, x1] R w0 :=
  calls_vc (c := bodyOf Tryd.f28) Tryd.func28 (by kernel_rfl) (by kernel_rfl) a28 (by kernel_rfl) (by kernel_rfl) [x0, x1] (by rw [Tryd.ntmps28]; exact Nat.le_of_ble_eq_true rfl) w0 R ((F28_eq x0 x1 R w0).mp h)

/-- canton/value.Mul, its body as a formula. -/
def F29 (x0 x1 : Value) (R : Value → World → Prop) (w0 : World) : Prop :=
  BinK Tryd.prog Go.BinOp.lss 2 x0 (Go.Value.int Go.IntKind.i64 0) (@hid _ ⟨fun t9_1 w2 =>
  BinK Tryd.prog Go.BinOp.lss 2 x1 (Go.Value.int Go.IntKind.i64 0) (@hid _ ⟨fun t11_3 w4 =>
  BinK Tryd.prog Go.BinOp.neq 4 t9_1 t11_3 (@hid _ ⟨fun t12_5 w6 =>
  CallV Tryd.prog (.func (.func 47) #[] #[]) #[x0] (@hid _ ⟨fun t15_7 w8 =>
  CallV Tryd.prog (.func (.func 47) #[] #[]) #[x1] (@hid _ ⟨fun t17_9 w10 =>
  CallV Tryd.prog (.func (.func 46) #[] #[]) #[t15_7, t17_9] (@hid _ ⟨fun t18_11 w12 =>
  ExtractK Tryd.prog t18_11 0 (@hid _ ⟨fun t19_13 w14 =>
  ExtractK Tryd.prog t18_11 1 (@hid _ ⟨fun t20_15 w16 =>
  BinK Tryd.prog Go.BinOp.eql 63 t20_15 (Go.Value.int Go.IntKind.u64 0) (@hid _ ⟨fun t23_17 w18 =>
  GuardK t23_17 true (fun k w => k t19_13 w) (@hid _ ⟨fun t25_19 w20 =>
  GuardK t23_17 true (fun k w => BinK Tryd.prog Go.BinOp.eql 63 t25_19 (Go.Value.int Go.IntKind.u64 0) k w) (@hid _ ⟨fun t26_21 w22 =>
  PickK Tryd.prog t23_17 t26_21 (Go.Value.bool false) (@hid _ ⟨fun t27_23 w24 =>
  BrK t27_23 (@hid _ ⟨
   R (Go.Value.int Go.IntKind.i64 0) w24⟩) (@hid _ ⟨
   GuardK t12_5 true (fun k w => k t19_13 w) (@hid _ ⟨fun t31_25 w26 =>
   GuardK t12_5 true (fun k w => BinK Tryd.prog Go.BinOp.eql 63 t31_25 (Go.Value.int Go.IntKind.u64 0) k w) (@hid _ ⟨fun t32_27 w28 =>
   PickK Tryd.prog t12_5 t32_27 (Go.Value.bool false) (@hid _ ⟨fun t33_29 w30 =>
   GuardK t33_29 true (fun k w => k t20_15 w) (@hid _ ⟨fun t35_31 w32 =>
   GuardK t33_29 true (fun k w => BinK Tryd.prog Go.BinOp.leq 63 t35_31 (Go.Value.int Go.IntKind.u64 9223372036854775808) k w) (@hid _ ⟨fun t36_33 w34 =>
   PickK Tryd.prog t33_29 t36_33 (Go.Value.bool false) (@hid _ ⟨fun t37_35 w36 =>
   BrK t37_35 (@hid _ ⟨
    ConvK Tryd.prog 63 2 t20_15 (@hid _ ⟨fun t39_37 w38 =>
    UnK Tryd.prog Go.UnOp.neg t39_37 (@hid _ ⟨fun t40_39 w40 =>
    R t40_39 w40⟩) w38⟩) w36⟩) (@hid _ ⟨
    UnK Tryd.prog Go.UnOp.not t12_5 (@hid _ ⟨fun t43_41 w42 =>
    GuardK t43_41 true (fun k w => k t19_13 w) (@hid _ ⟨fun t45_43 w44 =>
    GuardK t43_41 true (fun k w => BinK Tryd.prog Go.BinOp.eql 63 t45_43 (Go.Value.int Go.IntKind.u64 0) k w) (@hid _ ⟨fun t46_45 w46 =>
    PickK Tryd.prog t43_41 t46_45 (Go.Value.bool false) (@hid _ ⟨fun t47_47 w48 =>
    GuardK t47_47 true (fun k w => k t20_15 w) (@hid _ ⟨fun t49_49 w50 =>
    GuardK t47_47 true (fun k w => BinK Tryd.prog Go.BinOp.leq 63 t49_49 (Go.Value.int Go.IntKind.u64 9223372036854775807) k w) (@hid _ ⟨fun t50_51 w52 =>
    PickK Tryd.prog t47_47 t50_51 (Go.Value.bool false) (@hid _ ⟨fun t51_53 w54 =>
    BrK t51_53 (@hid _ ⟨
     ConvK Tryd.prog 63 2 t20_15 (@hid _ ⟨fun t53_55 w56 =>
     R t53_55 w56⟩) w54⟩) (@hid _ ⟨
     CallV Tryd.prog (.func (.func 45) #[] #[]) #[t12_5] (@hid _ ⟨fun t55_57 w58 =>
     R t55_57 w58⟩) w54⟩)⟩) w52⟩) w50⟩) w48⟩) w46⟩) w44⟩) w42⟩) w36⟩)⟩) w34⟩) w32⟩) w30⟩) w28⟩) w26⟩) w24⟩)⟩) w22⟩) w20⟩) w18⟩) w16⟩) w14⟩) w12⟩) w10⟩) w8⟩) w6⟩) w4⟩) w2⟩) w0
def a29 : Ann := (.seq .no (.seq .no (.seq .no (.seq (.block (.seq .no (.cond (.seq .no .no) (.seq .no (.cond (.seq .no .no) (.seq .no (.cond (.seq .no .no) .no))))))) (.seq .no .no)))))
theorem F29_eq (x0 x1 : Value) (R : Value → World → Prop) (w0 : World) : F29 x0 x1 R w0 = vc Tryd.prog (bodyOf Tryd.f29) a29 (retQ Tryd.prog Tryd.f29 R) (envOf 0 [x0, x1]) w0 := by kernel_rfl
theorem F29_calls (x0 x1 : Value) (R : Value → World → Prop) (w0 : World) (h : F29 x0 x1 R w0) : CallK Tryd.prog 29 #[x0, x1] R w0 :=
  calls_vc (c := bodyOf Tryd.f29) Tryd.func29 (by kernel_rfl) (by kernel_rfl) a29 (by kernel_rfl) (by kernel_rfl) [x0, x1] (by rw [Tryd.ntmps29]; exact Nat.le_of_ble_eq_true rfl) w0 R ((F29_eq x0 x1 R w0).mp h)

/-- canton/cantonref7.Mul, its body as a formula. -/
def F30 (x0 x1 : Value) (R : Value → World → Prop) (w0 : World) : Prop :=
  BinK Tryd.prog Go.BinOp.eql 2 x0 (Go.Value.int Go.IntKind.i64 0) (@hid _ ⟨fun t7_1 w2 =>
  GuardK t7_1 false (fun k w => k x1 w) (@hid _ ⟨fun t9_3 w4 =>
  GuardK t7_1 false (fun k w => BinK Tryd.prog Go.BinOp.eql 2 t9_3 (Go.Value.int Go.IntKind.i64 0) k w) (@hid _ ⟨fun t10_5 w6 =>
  PickK Tryd.prog t7_1 (Go.Value.bool true) t10_5 (@hid _ ⟨fun t11_7 w8 =>
  BrK t11_7 (@hid _ ⟨
   R (Go.Value.int Go.IntKind.i64 0) w8⟩) (@hid _ ⟨
   BinK Tryd.prog Go.BinOp.mul 2 x0 x1 (@hid _ ⟨fun t14_9 w10 =>
   BinK Tryd.prog Go.BinOp.quo 2 t14_9 x1 (@hid _ ⟨fun t17_11 w12 =>
   BinK Tryd.prog Go.BinOp.eql 2 t17_11 x0 (@hid _ ⟨fun t19_13 w14 =>
   GuardK t19_13 true (fun k w => k x0 w) (@hid _ ⟨fun t21_15 w16 =>
   GuardK t19_13 true (fun k w => BinK Tryd.prog Go.BinOp.eql 2 t21_15 (Go.Value.int Go.IntKind.i64 (-9223372036854775808)) k w) (@hid _ ⟨fun t22_17 w18 =>
   GuardK t19_13 true (fun k w => k t22_17 w) (@hid _ ⟨fun t23_19 w20 =>
   GuardK t23_19 true (fun k w => k x1 w) (@hid _ ⟨fun t24_21 w22 =>
   GuardK t23_19 true (fun k w => BinK Tryd.prog Go.BinOp.eql 2 t24_21 (Go.Value.int Go.IntKind.i64 (-1)) k w) (@hid _ ⟨fun t25_23 w24 =>
   GuardK t19_13 true (fun k w => PickK Tryd.prog t23_19 t25_23 (Go.Value.bool false) k w) (@hid _ ⟨fun t26_25 w26 =>
   GuardK t19_13 true (fun k w => UnK Tryd.prog Go.UnOp.not t26_25 k w) (@hid _ ⟨fun t27_27 w28 =>
   PickK Tryd.prog t19_13 t27_27 (Go.Value.bool false) (@hid _ ⟨fun t28_29 w30 =>
   GuardK t28_29 true (fun k w => k x1 w) (@hid _ ⟨fun t30_31 w32 =>
   GuardK t28_29 true (fun k w => BinK Tryd.prog Go.BinOp.eql 2 t30_31 (Go.Value.int Go.IntKind.i64 (-9223372036854775808)) k w) (@hid _ ⟨fun t31_33 w34 =>
   GuardK t28_29 true (fun k w => k t31_33 w) (@hid _ ⟨fun t32_35 w36 =>
   GuardK t32_35 true (fun k w => k x0 w) (@hid _ ⟨fun t33_37 w38 =>
   GuardK t32_35 true (fun k w => BinK Tryd.prog Go.BinOp.eql 2 t33_37 (Go.Value.int Go.IntKind.i64 (-1)) k w) (@hid _ ⟨fun t34_39 w40 =>
   GuardK t28_29 true (fun k w => PickK Tryd.prog t32_35 t34_39 (Go.Value.bool false) k w) (@hid _ ⟨fun t35_41 w42 =>
   GuardK t28_29 true (fun k w => UnK Tryd.prog Go.UnOp.not t35_41 k w) (@hid _ ⟨fun t36_43 w44 =>
   PickK Tryd.prog t28_29 t36_43 (Go.Value.bool false) (@hid _ ⟨fun t37_45 w46 =>
   BrK t37_45 (@hid _ ⟨
    R t14_9 w46⟩) (@hid _ ⟨
    BinK Tryd.prog Go.BinOp.lss 2 x0 (Go.Value.int Go.IntKind.i64 0) (@hid _ ⟨fun t40_47 w48 =>
    BinK Tryd.prog Go.BinOp.lss 2 x1 (Go.Value.int Go.IntKind.i64 0) (@hid _ ⟨fun t42_49 w50 =>
    BinK Tryd.prog Go.BinOp.eql 4 t40_47 t42_49 (@hid _ ⟨fun t43_51 w52 =>
    BrK t43_51 (@hid _ ⟨
     R (Go.Value.int Go.IntKind.i64 9223372036854775807) w52⟩) (@hid _ ⟨
     R (Go.Value.int Go.IntKind.i64 (-9223372036854775808)) w52⟩)⟩) w50⟩) w48⟩) w46⟩)⟩) w44⟩) w42⟩) w40⟩) w38⟩) w36⟩) w34⟩) w32⟩) w30⟩) w28⟩) w26⟩) w24⟩) w22⟩) w20⟩) w18⟩) w16⟩) w14⟩) w12⟩) w10⟩) w8⟩)⟩) w6⟩) w4⟩) w2⟩) w0
def a30 : Ann := (.seq .no (.seq (.seq .no (.cond (.seq .no .no) .no)) (.seq .no (.seq (.seq .no (.cond (.seq .no .no) .no)) (.seq (.seq .no (.cond (.seq .no .no) .no)) (.seq .no .no))))))
theorem F30_eq (x0 x1 : Value) (R : Value → World → Prop) (w0 : World) : F30 x0 x1 R w0 = vc Tryd.prog (bodyOf Tryd.f30) a30 (retQ Tryd.prog Tryd.f30 R) (envOf 0 [x0, x1]) w0 := by kernel_rfl
theorem F30_calls (x0 x1 : Value) (R : Value → World → Prop) (w0 : World) (h : F30 x0 x1 R w0) : CallK Tryd.prog 30 #[x0, x1] R w0 :=
  calls_vc (c := bodyOf Tryd.f30) Tryd.func30 (by kernel_rfl) (by kernel_rfl) a30 (by kernel_rfl) (by kernel_rfl) [x0, x1] (by rw [Tryd.ntmps30]; exact Nat.le_of_ble_eq_true rfl) w0 R ((F30_eq x0 x1 R w0).mp h)

/-- canton/value.text, its body as a formula. -/
def F31 (x0 : Value) (R : Value → World → Prop) (w0 : World) : Prop :=
  BuiltinK Tryd.prog Go.Builtin.len #[9] 3 #[false] #[x0] (@hid _ ⟨fun t5_1 w2 =>
  BinK Tryd.prog Go.BinOp.gtr 3 t5_1 (Go.Value.int Go.IntKind.i64 64) (@hid _ ⟨fun t6_3 w4 =>
  BrK t6_3 (@hid _ ⟨
   R (Go.Value.int Go.IntKind.i64 4) w4⟩) (@hid _ ⟨
   BuiltinK Tryd.prog Go.Builtin.len #[9] 3 #[false] #[x0] (@hid _ ⟨fun t8_5 w6 =>
   LoopK1 (Go.Value.int Go.IntKind.i64 0) w6 (@hid _ ⟨fun _ x9_7 w8 B9 =>
    BinK Tryd.prog Go.BinOp.lss 3 x9_7 t8_5 (@hid _ ⟨fun t10_10 w11 =>
    BrK t10_10 (@hid _ ⟨
     ValK Tryd.prog (Instr.index 9 x0 x9_7) (@hid _ ⟨fun t14_12 w13 =>
     CallV Tryd.prog (.func (.func 48) #[] #[]) #[t14_12] (@hid _ ⟨fun t15_14 w15 =>
     UnK Tryd.prog Go.UnOp.not t15_14 (@hid _ ⟨fun t16_16 w17 =>
     BrK t16_16 (@hid _ ⟨
      R (Go.Value.int Go.IntKind.i64 2) w17⟩) (@hid _ ⟨
      BinK Tryd.prog Go.BinOp.add 3 x9_7 (Go.Value.int Go.IntKind.i64 1) (@hid _ ⟨fun t17_18 w19 =>
      B9 t17_18 w19⟩) w17⟩)⟩) w15⟩) w13⟩) w11⟩) (@hid _ ⟨
     R (Go.Value.int Go.IntKind.i64 0) w11⟩)⟩) w8⟩)⟩) w4⟩)⟩) w2⟩) w0
def a31 : Ann := (.seq .no (.seq (.seq .no (.cond (.seq .no .no) .no)) (.seq (.seq .no (.block (.loop [9] [(2, 3), (10, 17)] (.seq .no (.seq (.cond .no .no) (.seq (.block (.seq .no (.seq .no (.cond (.seq .no .no) .no)))) .no)))))) (.seq .no .no))))
theorem F31_eq (x0 : Value) (R : Value → World → Prop) (w0 : World) : F31 x0 R w0 = vc Tryd.prog (bodyOf Tryd.f31) a31 (retQ Tryd.prog Tryd.f31 R) (envOf 0 [x0]) w0 := by kernel_rfl
theorem F31_calls (x0 : Value) (R : Value → World → Prop) (w0 : World) (h : F31 x0 R w0) : CallK Tryd.prog 31 #[x0] R w0 :=
  calls_vc (c := bodyOf Tryd.f31) Tryd.func31 (by kernel_rfl) (by kernel_rfl) a31 (by kernel_rfl) (by kernel_rfl) [x0] (by rw [Tryd.ntmps31]; exact Nat.le_of_ble_eq_true rfl) w0 R ((F31_eq x0 R w0).mp h)

/-- canton/value.list, its body as a formula. -/
def F32 (x0 : Value) (R : Value → World → Prop) (w0 : World) : Prop :=
  BuiltinK Tryd.prog Go.Builtin.len #[22] 3 #[false] #[x0] (@hid _ ⟨fun t5_1 w2 =>
  BinK Tryd.prog Go.BinOp.gtr 3 t5_1 (Go.Value.int Go.IntKind.i64 16) (@hid _ ⟨fun t6_3 w4 =>
  BrK t6_3 (@hid _ ⟨
   R (Go.Value.int Go.IntKind.i64 4) w4⟩) (@hid _ ⟨
   LoopK1 (Go.Value.int Go.IntKind.i64 1) w4 (@hid _ ⟨fun _ x3_5 w6 B7 =>
    BuiltinK Tryd.prog Go.Builtin.len #[22] 3 #[false] #[x0] (@hid _ ⟨fun t9_8 w9 =>
    BinK Tryd.prog Go.BinOp.lss 3 x3_5 t9_8 (@hid _ ⟨fun t10_10 w11 =>
    BrK t10_10 (@hid _ ⟨
     DrawK (@hid _ ⟨fun S12 w13 =>
     BinT Tryd.prog S12 Go.BinOp.sub 3 x3_5 (Go.Value.int Go.IntKind.i64 1) (@hid _ ⟨fun t15_14 =>
     TakeS Tryd.prog S12 (Instr.indexAt 22 x0 t15_14) (@hid _ ⟨fun t16_15 =>
     TakeS Tryd.prog S12 (Instr.loadAt 2 t16_15) (@hid _ ⟨fun t17_16 =>
     TakeS Tryd.prog S12 (Instr.indexAt 22 x0 x3_5) (@hid _ ⟨fun t20_17 =>
     TakeS Tryd.prog S12 (Instr.loadAt 2 t20_17) (@hid _ ⟨fun t21_18 =>
     BinT Tryd.prog S12 Go.BinOp.geq 2 t17_16 t21_18 (@hid _ ⟨fun t22_19 =>
     BrK t22_19 (@hid _ ⟨
      R (Go.Value.int Go.IntKind.i64 2) w13⟩) (@hid _ ⟨
      BinK Tryd.prog Go.BinOp.add 3 x3_5 (Go.Value.int Go.IntKind.i64 1) (@hid _ ⟨fun t12_20 w21 =>
      B7 t12_20 w21⟩) w13⟩)⟩)⟩)⟩)⟩)⟩)⟩)⟩) w11⟩) (@hid _ ⟨
     R (Go.Value.int Go.IntKind.i64 0) w11⟩)⟩) w9⟩) w6⟩)⟩)⟩) w2⟩) w0
def a32 : Ann := (.seq .no (.seq (.seq .no (.cond (.seq .no .no) .no)) (.seq (.seq .no (.block (.loop [3] [(2, 2), (7, 22)] (.seq (.seq .no (.cond .no .no)) (.seq (.block (.seq (.plan (.take 0 (.take 1 (.take 2 (.take 3 (.take 4 (.take 5 (.take 6 (.take 7 (.take 8 (.take 9 .done))))))))))) (.cond (.seq .no .no) .no))) .no))))) (.seq .no .no))))
theorem F32_eq (x0 : Value) (R : Value → World → Prop) (w0 : World) : F32 x0 R w0 = vc Tryd.prog (bodyOf Tryd.f32) a32 (retQ Tryd.prog Tryd.f32 R) (envOf 0 [x0]) w0 := by kernel_rfl
theorem F32_calls (x0 : Value) (R : Value → World → Prop) (w0 : World) (h : F32 x0 R w0) : CallK Tryd.prog 32 #[x0] R w0 :=
  calls_vc (c := bodyOf Tryd.f32) Tryd.func32 (by kernel_rfl) (by kernel_rfl) a32 (by kernel_rfl) (by kernel_rfl) [x0] (by rw [Tryd.ntmps32]; exact Nat.le_of_ble_eq_true rfl) w0 R ((F32_eq x0 R w0).mp h)

/-- canton/cantonref7.Order, its body as a formula. -/
def F33 (x0 x1 : Value) (R : Value → World → Prop) (w0 : World) : Prop :=
  BinK Tryd.prog Go.BinOp.lss 2 x0 x1 (@hid _ ⟨fun t8_1 w2 =>
  BrK t8_1 (@hid _ ⟨
   R (Go.Value.int Go.IntKind.i64 (-1)) w2⟩) (@hid _ ⟨
   BinK Tryd.prog Go.BinOp.gtr 2 x0 x1 (@hid _ ⟨fun t12_3 w4 =>
   BrK t12_3 (@hid _ ⟨
    R (Go.Value.int Go.IntKind.i64 1) w4⟩) (@hid _ ⟨
    R (Go.Value.int Go.IntKind.i64 0) w4⟩)⟩) w2⟩)⟩) w0
def a33 : Ann := (.seq .no (.seq (.block (.seq .no (.cond (.seq .no .no) (.seq .no (.cond (.seq .no .no) .no))))) (.seq .no .no)))
theorem F33_eq (x0 x1 : Value) (R : Value → World → Prop) (w0 : World) : F33 x0 x1 R w0 = vc Tryd.prog (bodyOf Tryd.f33) a33 (retQ Tryd.prog Tryd.f33 R) (envOf 0 [x0, x1]) w0 := by kernel_rfl
theorem F33_calls (x0 x1 : Value) (R : Value → World → Prop) (w0 : World) (h : F33 x0 x1 R w0) : CallK Tryd.prog 33 #[x0, x1] R w0 :=
  calls_vc (c := bodyOf Tryd.f33) Tryd.func33 (by kernel_rfl) (by kernel_rfl) a33 (by kernel_rfl) (by kernel_rfl) [x0, x1] (by rw [Tryd.ntmps33]; exact Nat.le_of_ble_eq_true rfl) w0 R ((F33_eq x0 x1 R w0).mp h)

/-- canton/cantonref7.OrderText, its body as a formula. -/
def F34 (x0 x1 : Value) (R : Value → World → Prop) (w0 : World) : Prop :=
  BinK Tryd.prog Go.BinOp.lss 9 x0 x1 (@hid _ ⟨fun t8_1 w2 =>
  BrK t8_1 (@hid _ ⟨
   R (Go.Value.int Go.IntKind.i64 (-1)) w2⟩) (@hid _ ⟨
   BinK Tryd.prog Go.BinOp.gtr 9 x0 x1 (@hid _ ⟨fun t12_3 w4 =>
   BrK t12_3 (@hid _ ⟨
    R (Go.Value.int Go.IntKind.i64 1) w4⟩) (@hid _ ⟨
    R (Go.Value.int Go.IntKind.i64 0) w4⟩)⟩) w2⟩)⟩) w0
def a34 : Ann := (.seq .no (.seq (.block (.seq .no (.cond (.seq .no .no) (.seq .no (.cond (.seq .no .no) .no))))) (.seq .no .no)))
theorem F34_eq (x0 x1 : Value) (R : Value → World → Prop) (w0 : World) : F34 x0 x1 R w0 = vc Tryd.prog (bodyOf Tryd.f34) a34 (retQ Tryd.prog Tryd.f34 R) (envOf 0 [x0, x1]) w0 := by kernel_rfl
theorem F34_calls (x0 x1 : Value) (R : Value → World → Prop) (w0 : World) (h : F34 x0 x1 R w0) : CallK Tryd.prog 34 #[x0, x1] R w0 :=
  calls_vc (c := bodyOf Tryd.f34) Tryd.func34 (by kernel_rfl) (by kernel_rfl) a34 (by kernel_rfl) (by kernel_rfl) [x0, x1] (by rw [Tryd.ntmps34]; exact Nat.le_of_ble_eq_true rfl) w0 R ((F34_eq x0 x1 R w0).mp h)

/-- cmp.Compare[int], its body as a formula. -/
def F35 (x0 x1 : Value) (R : Value → World → Prop) (w0 : World) : Prop :=
  CallV Tryd.prog (.func (.func 49) #[] #[]) #[x0] (@hid _ ⟨fun t8_1 w2 =>
  CallV Tryd.prog (.func (.func 49) #[] #[]) #[x1] (@hid _ ⟨fun t10_3 w4 =>
  BrK t8_1 (@hid _ ⟨
   BrK t10_3 (@hid _ ⟨
    R (Go.Value.int Go.IntKind.i64 0) w4⟩) (@hid _ ⟨
    R (Go.Value.int Go.IntKind.i64 (-1)) w4⟩)⟩) (@hid _ ⟨
   BrK t10_3 (@hid _ ⟨
    R (Go.Value.int Go.IntKind.i64 1) w4⟩) (@hid _ ⟨
    BinK Tryd.prog Go.BinOp.lss 3 x0 x1 (@hid _ ⟨fun t16_5 w6 =>
    BrK t16_5 (@hid _ ⟨
     R (Go.Value.int Go.IntKind.i64 (-1)) w6⟩) (@hid _ ⟨
     BinK Tryd.prog Go.BinOp.gtr 3 x0 x1 (@hid _ ⟨fun t19_7 w8 =>
     BrK t19_7 (@hid _ ⟨
      R (Go.Value.int Go.IntKind.i64 1) w8⟩) (@hid _ ⟨
      R (Go.Value.int Go.IntKind.i64 0) w8⟩)⟩) w6⟩)⟩) w4⟩)⟩)⟩) w2⟩) w0
def a35 : Ann := (.seq .no (.seq .no (.seq .no (.seq (.seq .no (.cond (.seq (.seq .no (.cond (.seq .no .no) .no)) (.seq .no .no)) .no)) (.seq (.seq .no (.cond (.seq .no .no) .no)) (.seq (.seq .no (.cond (.seq .no .no) .no)) (.seq (.seq .no (.cond (.seq .no .no) .no)) (.seq .no .no))))))))
theorem F35_eq (x0 x1 : Value) (R : Value → World → Prop) (w0 : World) : F35 x0 x1 R w0 = vc Tryd.prog (bodyOf Tryd.f35) a35 (retQ Tryd.prog Tryd.f35 R) (envOf 0 [x0, x1]) w0 := by kernel_rfl
theorem F35_calls (x0 x1 : Value) (R : Value → World → Prop) (w0 : World) (h : F35 x0 x1 R w0) : CallK Tryd.prog 35 #[x0, x1] R w0 :=
  calls_vc (c := bodyOf Tryd.f35) Tryd.func35 (by kernel_rfl) (by kernel_rfl) a35 (by kernel_rfl) (by kernel_rfl) [x0, x1] (by rw [Tryd.ntmps35]; exact Nat.le_of_ble_eq_true rfl) w0 R ((F35_eq x0 x1 R w0).mp h)

/-- cmp.Compare[int64], its body as a formula. -/
def F36 (x0 x1 : Value) (R : Value → World → Prop) (w0 : World) : Prop :=
  CallV Tryd.prog (.func (.func 50) #[] #[]) #[x0] (@hid _ ⟨fun t8_1 w2 =>
  CallV Tryd.prog (.func (.func 50) #[] #[]) #[x1] (@hid _ ⟨fun t10_3 w4 =>
  BrK t8_1 (@hid _ ⟨
   BrK t10_3 (@hid _ ⟨
    R (Go.Value.int Go.IntKind.i64 0) w4⟩) (@hid _ ⟨
    R (Go.Value.int Go.IntKind.i64 (-1)) w4⟩)⟩) (@hid _ ⟨
   BrK t10_3 (@hid _ ⟨
    R (Go.Value.int Go.IntKind.i64 1) w4⟩) (@hid _ ⟨
    BinK Tryd.prog Go.BinOp.lss 2 x0 x1 (@hid _ ⟨fun t16_5 w6 =>
    BrK t16_5 (@hid _ ⟨
     R (Go.Value.int Go.IntKind.i64 (-1)) w6⟩) (@hid _ ⟨
     BinK Tryd.prog Go.BinOp.gtr 2 x0 x1 (@hid _ ⟨fun t19_7 w8 =>
     BrK t19_7 (@hid _ ⟨
      R (Go.Value.int Go.IntKind.i64 1) w8⟩) (@hid _ ⟨
      R (Go.Value.int Go.IntKind.i64 0) w8⟩)⟩) w6⟩)⟩) w4⟩)⟩)⟩) w2⟩) w0
def a36 : Ann := (.seq .no (.seq .no (.seq .no (.seq (.seq .no (.cond (.seq (.seq .no (.cond (.seq .no .no) .no)) (.seq .no .no)) .no)) (.seq (.seq .no (.cond (.seq .no .no) .no)) (.seq (.seq .no (.cond (.seq .no .no) .no)) (.seq (.seq .no (.cond (.seq .no .no) .no)) (.seq .no .no))))))))
theorem F36_eq (x0 x1 : Value) (R : Value → World → Prop) (w0 : World) : F36 x0 x1 R w0 = vc Tryd.prog (bodyOf Tryd.f36) a36 (retQ Tryd.prog Tryd.f36 R) (envOf 0 [x0, x1]) w0 := by kernel_rfl
theorem F36_calls (x0 x1 : Value) (R : Value → World → Prop) (w0 : World) (h : F36 x0 x1 R w0) : CallK Tryd.prog 36 #[x0, x1] R w0 :=
  calls_vc (c := bodyOf Tryd.f36) Tryd.func36 (by kernel_rfl) (by kernel_rfl) a36 (by kernel_rfl) (by kernel_rfl) [x0, x1] (by rw [Tryd.ntmps36]; exact Nat.le_of_ble_eq_true rfl) w0 R ((F36_eq x0 x1 R w0).mp h)

/-- cmp.Compare[string], its body as a formula. -/
def F37 (x0 x1 : Value) (R : Value → World → Prop) (w0 : World) : Prop :=
  CallV Tryd.prog (.func (.func 51) #[] #[]) #[x0] (@hid _ ⟨fun t8_1 w2 =>
  CallV Tryd.prog (.func (.func 51) #[] #[]) #[x1] (@hid _ ⟨fun t10_3 w4 =>
  BrK t8_1 (@hid _ ⟨
   BrK t10_3 (@hid _ ⟨
    R (Go.Value.int Go.IntKind.i64 0) w4⟩) (@hid _ ⟨
    R (Go.Value.int Go.IntKind.i64 (-1)) w4⟩)⟩) (@hid _ ⟨
   BrK t10_3 (@hid _ ⟨
    R (Go.Value.int Go.IntKind.i64 1) w4⟩) (@hid _ ⟨
    BinK Tryd.prog Go.BinOp.lss 9 x0 x1 (@hid _ ⟨fun t16_5 w6 =>
    BrK t16_5 (@hid _ ⟨
     R (Go.Value.int Go.IntKind.i64 (-1)) w6⟩) (@hid _ ⟨
     BinK Tryd.prog Go.BinOp.gtr 9 x0 x1 (@hid _ ⟨fun t19_7 w8 =>
     BrK t19_7 (@hid _ ⟨
      R (Go.Value.int Go.IntKind.i64 1) w8⟩) (@hid _ ⟨
      R (Go.Value.int Go.IntKind.i64 0) w8⟩)⟩) w6⟩)⟩) w4⟩)⟩)⟩) w2⟩) w0
def a37 : Ann := (.seq .no (.seq .no (.seq .no (.seq (.seq .no (.cond (.seq (.seq .no (.cond (.seq .no .no) .no)) (.seq .no .no)) .no)) (.seq (.seq .no (.cond (.seq .no .no) .no)) (.seq (.seq .no (.cond (.seq .no .no) .no)) (.seq (.seq .no (.cond (.seq .no .no) .no)) (.seq .no .no))))))))
theorem F37_eq (x0 x1 : Value) (R : Value → World → Prop) (w0 : World) : F37 x0 x1 R w0 = vc Tryd.prog (bodyOf Tryd.f37) a37 (retQ Tryd.prog Tryd.f37 R) (envOf 0 [x0, x1]) w0 := by kernel_rfl
theorem F37_calls (x0 x1 : Value) (R : Value → World → Prop) (w0 : World) (h : F37 x0 x1 R w0) : CallK Tryd.prog 37 #[x0, x1] R w0 :=
  calls_vc (c := bodyOf Tryd.f37) Tryd.func37 (by kernel_rfl) (by kernel_rfl) a37 (by kernel_rfl) (by kernel_rfl) [x0, x1] (by rw [Tryd.ntmps37]; exact Nat.le_of_ble_eq_true rfl) w0 R ((F37_eq x0 x1 R w0).mp h)

/-- slices.Compare[[]int64,int64], its body as a formula. -/
def F38 (x0 x1 : Value) (R : Value → World → Prop) (w0 : World) : Prop :=
  BuiltinK Tryd.prog Go.Builtin.len #[22] 3 #[false] #[x0] (@hid _ ⟨fun t10_1 w2 =>
  LoopK1 (Go.Value.int Go.IntKind.i64 0) w2 (@hid _ ⟨fun _ x11_3 w4 B5 =>
   BinK Tryd.prog Go.BinOp.lss 3 x11_3 t10_1 (@hid _ ⟨fun t12_6 w7 =>
   BrK t12_6 (@hid _ ⟨
    IndexAtK Tryd.prog 22 x0 x11_3 (@hid _ ⟨fun t14_8 w9 =>
    LoadK Tryd.prog 2 t14_8 (@hid _ ⟨fun t15_10 w11 =>
    BuiltinK Tryd.prog Go.Builtin.len #[22] 3 #[false] #[x1] (@hid _ ⟨fun t18_12 w13 =>
    BinK Tryd.prog Go.BinOp.geq 3 x11_3 t18_12 (@hid _ ⟨fun t19_14 w15 =>
    BrK t19_14 (@hid _ ⟨
     R (Go.Value.int Go.IntKind.i64 1) w15⟩) (@hid _ ⟨
     IndexAtK Tryd.prog 22 x1 x11_3 (@hid _ ⟨fun t22_16 w17 =>
     LoadK Tryd.prog 2 t22_16 (@hid _ ⟨fun t23_18 w19 =>
     CallV Tryd.prog (.func (.func 36) #[] #[]) #[t15_10, t23_18] (@hid _ ⟨fun t26_20 w21 =>
     BinK Tryd.prog Go.BinOp.neq 3 t26_20 (Go.Value.int Go.IntKind.i64 0) (@hid _ ⟨fun t28_22 w23 =>
     BrK t28_22 (@hid _ ⟨
      R t26_20 w23⟩) (@hid _ ⟨
      BinK Tryd.prog Go.BinOp.add 3 x11_3 (Go.Value.int Go.IntKind.i64 1) (@hid _ ⟨fun t30_24 w25 =>
      B5 t30_24 w25⟩) w23⟩)⟩) w21⟩) w19⟩) w17⟩) w15⟩)⟩) w13⟩) w11⟩) w9⟩) w7⟩) (@hid _ ⟨
    BuiltinK Tryd.prog Go.Builtin.len #[22] 3 #[false] #[x0] (@hid _ ⟨fun t32_26 w27 =>
    BuiltinK Tryd.prog Go.Builtin.len #[22] 3 #[false] #[x1] (@hid _ ⟨fun t34_28 w29 =>
    BinK Tryd.prog Go.BinOp.lss 3 t32_26 t34_28 (@hid _ ⟨fun t35_30 w31 =>
    BrK t35_30 (@hid _ ⟨
     R (Go.Value.int Go.IntKind.i64 (-1)) w31⟩) (@hid _ ⟨
     R (Go.Value.int Go.IntKind.i64 0) w31⟩)⟩) w29⟩) w27⟩) w7⟩)⟩) w4⟩)⟩) w0
def a38 : Ann := (.seq .no (.seq (.seq .no (.block (.loop [11] [(4, 8), (12, 30)] (.seq .no (.seq (.cond .no .no) (.seq (.block (.seq .no (.seq (.seq .no (.cond (.seq .no .no) .no)) (.seq .no (.seq .no (.seq .no (.cond (.seq .no .no) .no))))))) .no)))))) (.seq (.seq .no (.cond (.seq .no .no) .no)) (.seq .no .no))))
theorem F38_eq (x0 x1 : Value) (R : Value → World → Prop) (w0 : World) : F38 x0 x1 R w0 = vc Tryd.prog (bodyOf Tryd.f38) a38 (retQ Tryd.prog Tryd.f38 R) (envOf 0 [x0, x1]) w0 := by kernel_rfl
theorem F38_calls (x0 x1 : Value) (R : Value → World → Prop) (w0 : World) (h : F38 x0 x1 R w0) : CallK Tryd.prog 38 #[x0, x1] R w0 :=
  calls_vc (c := bodyOf Tryd.f38) Tryd.func38 (by kernel_rfl) (by kernel_rfl) a38 (by kernel_rfl) (by kernel_rfl) [x0, x1] (by rw [Tryd.ntmps38]; exact Nat.le_of_ble_eq_true rfl) w0 R ((F38_eq x0 x1 R w0).mp h)

/-- canton/value.numbers, its body as a formula. -/
def F40 (x0 : Value) (R : Value → World → Prop) (w0 : World) : Prop :=
  BuiltinK Tryd.prog Go.Builtin.len #[22] 3 #[false] #[x0] (@hid _ ⟨fun t7_1 w2 =>
  LoopK2 (Go.Value.slice none 0 0) (Go.Value.int Go.IntKind.i64 0) w2 (@hid _ ⟨fun _ x3_3 x8_4 w5 B6 =>
   BinK Tryd.prog Go.BinOp.lss 3 x8_4 t7_1 (@hid _ ⟨fun t9_7 w8 =>
   BrK t9_7 (@hid _ ⟨
    IndexAtK Tryd.prog 22 x0 x8_4 (@hid _ ⟨fun t10_9 w10 =>
    LoadK Tryd.prog 2 t10_9 (@hid _ ⟨fun t11_11 w12 =>
    CallV Tryd.prog (.func (.func 39) #[] #[]) #[t11_11, (Go.Value.int Go.IntKind.i64 10)] (@hid _ ⟨fun t14_13 w14 =>
    BuildSliceK Tryd.prog 59 1 #[(0, t14_13)] (@hid _ ⟨fun t15_15 w16 =>
    BuiltinK Tryd.prog Go.Builtin.append #[59, 59] 59 #[false, false] #[x3_3, t15_15] (@hid _ ⟨fun t16_17 w18 =>
    BinK Tryd.prog Go.BinOp.add 3 x8_4 (Go.Value.int Go.IntKind.i64 1) (@hid _ ⟨fun t17_19 w20 =>
    B6 t16_17 t17_19 w20⟩) w18⟩) w16⟩) w14⟩) w12⟩) w10⟩) w8⟩) (@hid _ ⟨
    CallV Tryd.prog (.func (.func 53) #[] #[]) #[x3_3, (Go.Value.string { data := #[32] })] (@hid _ ⟨fun t19_21 w22 =>
    R t19_21 w22⟩) w8⟩)⟩) w5⟩)⟩) w0
def a40 : Ann := (.seq .no (.seq .no (.seq (.seq .no (.block (.loop [3, 8] [(5, 5), (9, 17)] (.seq .no (.seq (.cond .no .no) (.seq (.block (.seq .no .no)) .no)))))) (.seq .no .no))))
theorem F40_eq (x0 : Value) (R : Value → World → Prop) (w0 : World) : F40 x0 R w0 = vc Tryd.prog (bodyOf Tryd.f40) a40 (retQ Tryd.prog Tryd.f40 R) (envOf 0 [x0]) w0 := by kernel_rfl
theorem F40_calls (x0 : Value) (R : Value → World → Prop) (w0 : World) (h : F40 x0 R w0) : CallK Tryd.prog 40 #[x0] R w0 :=
  calls_vc (c := bodyOf Tryd.f40) Tryd.func40 (by kernel_rfl) (by kernel_rfl) a40 (by kernel_rfl) (by kernel_rfl) [x0] (by rw [Tryd.ntmps40]; exact Nat.le_of_ble_eq_true rfl) w0 R ((F40_eq x0 R w0).mp h)

/-- canton/cantonref7.Decimal, its body as a formula. -/
def F41 (x0 : Value) (R : Value → World → Prop) (w0 : World) : Prop :=
  BinK Tryd.prog Go.BinOp.eql 2 x0 (Go.Value.int Go.IntKind.i64 (-9223372036854775808)) (@hid _ ⟨fun t5_1 w2 =>
  BrK t5_1 (@hid _ ⟨
   R (Go.Value.string { data := #[45, 57, 50, 50, 51, 51, 55, 50, 48, 51, 54, 56, 53, 52, 55, 55, 53, 56, 48, 56] }) w2⟩) (@hid _ ⟨
   BinK Tryd.prog Go.BinOp.lss 2 x0 (Go.Value.int Go.IntKind.i64 0) (@hid _ ⟨fun t7_3 w4 =>
   BrK t7_3 (@hid _ ⟨
    BinK Tryd.prog Go.BinOp.sub 2 (Go.Value.int Go.IntKind.i64 0) x0 (@hid _ ⟨fun t9_5 w6 =>
    CallV Tryd.prog (.func (.func 41) #[] #[]) #[t9_5] (@hid _ ⟨fun t10_7 w8 =>
    BinK Tryd.prog Go.BinOp.add 9 (Go.Value.string { data := #[45] }) t10_7 (@hid _ ⟨fun t11_9 w10 =>
    R t11_9 w10⟩) w8⟩) w6⟩) w4⟩) (@hid _ ⟨
    BinK Tryd.prog Go.BinOp.rem 2 x0 (Go.Value.int Go.IntKind.i64 10) (@hid _ ⟨fun t13_11 w12 =>
    BinK Tryd.prog Go.BinOp.add 2 (Go.Value.int Go.IntKind.i64 48) t13_11 (@hid _ ⟨fun t14_13 w14 =>
    ConvK Tryd.prog 2 5 t14_13 (@hid _ ⟨fun t15_15 w16 =>
    BuildSliceK Tryd.prog 71 1 #[(0, t15_15)] (@hid _ ⟨fun t16_17 w18 =>
    ConvK Tryd.prog 71 9 t16_17 (@hid _ ⟨fun t17_19 w20 =>
    LoopK2 x0 t17_19 w20 (@hid _ ⟨fun _ x0_21 x3_22 w23 B24 =>
     BinK Tryd.prog Go.BinOp.geq 2 x0_21 (Go.Value.int Go.IntKind.i64 10) (@hid _ ⟨fun t19_25 w26 =>
     BrK t19_25 (@hid _ ⟨
      BinK Tryd.prog Go.BinOp.quo 2 x0_21 (Go.Value.int Go.IntKind.i64 10) (@hid _ ⟨fun t21_27 w28 =>
      BinK Tryd.prog Go.BinOp.rem 2 t21_27 (Go.Value.int Go.IntKind.i64 10) (@hid _ ⟨fun t23_29 w30 =>
      BinK Tryd.prog Go.BinOp.add 2 (Go.Value.int Go.IntKind.i64 48) t23_29 (@hid _ ⟨fun t24_31 w32 =>
      ConvK Tryd.prog 2 5 t24_31 (@hid _ ⟨fun t25_33 w34 =>
      BuildSliceK Tryd.prog 71 1 #[(0, t25_33)] (@hid _ ⟨fun t26_35 w36 =>
      ConvK Tryd.prog 71 9 t26_35 (@hid _ ⟨fun t27_37 w38 =>
      BinK Tryd.prog Go.BinOp.add 9 t27_37 x3_22 (@hid _ ⟨fun t29_39 w40 =>
      B24 t21_27 t29_39 w40⟩) w38⟩) w36⟩) w34⟩) w32⟩) w30⟩) w28⟩) w26⟩) (@hid _ ⟨
      R x3_22 w26⟩)⟩) w23⟩)⟩) w18⟩) w16⟩) w14⟩) w12⟩) w4⟩)⟩) w2⟩)⟩) w0
def a41 : Ann := (.seq .no (.seq (.seq .no (.cond (.seq .no .no) .no)) (.seq (.seq .no (.cond (.seq .no .no) .no)) (.seq .no (.seq (.block (.loop [0, 3] [(18, 29)] (.seq (.seq .no (.cond .no .no)) (.block (.seq .no .no))))) (.seq .no .no))))))
theorem F41_eq (x0 : Value) (R : Value → World → Prop) (w0 : World) : F41 x0 R w0 = vc Tryd.prog (bodyOf Tryd.f41) a41 (retQ Tryd.prog Tryd.f41 R) (envOf 0 [x0]) w0 := by kernel_rfl
theorem F41_calls (x0 : Value) (R : Value → World → Prop) (w0 : World) (h : F41 x0 R w0) : CallK Tryd.prog 41 #[x0] R w0 :=
  calls_vc (c := bodyOf Tryd.f41) Tryd.func41 (by kernel_rfl) (by kernel_rfl) a41 (by kernel_rfl) (by kernel_rfl) [x0] (by rw [Tryd.ntmps41]; exact Nat.le_of_ble_eq_true rfl) w0 R ((F41_eq x0 R w0).mp h)

/-- canton/value.read, its body as a formula. -/
def F42 (x0 : Value) (R : Value → World → Prop) (w0 : World) : Prop :=
  AllocK Tryd.prog 24 (@hid _ ⟨fun t2_1 w2 =>
  CallV Tryd.prog (.func (.func 54) #[] #[]) #[x0, (Go.Value.string { data := #[34] }), (Go.Value.string { data := #[34] })] (@hid _ ⟨fun t17_3 w4 =>
  ExtractK Tryd.prog t17_3 0 (@hid _ ⟨fun t18_5 w6 =>
  ExtractK Tryd.prog t17_3 1 (@hid _ ⟨fun t19_7 w8 =>
  BrK t19_7 (@hid _ ⟨
   BuildK Tryd.prog 24 #[(0, (Go.Value.int Go.IntKind.i64 2)), (2, t18_5)] (@hid _ ⟨fun t22_9 w10 =>
   StoreK Tryd.prog 24 t2_1 t22_9 (@hid _ ⟨fun tu_11 w12 =>
   LoadK Tryd.prog 24 t2_1 (@hid _ ⟨fun c13 w14 => w14 = w12 ∧ R (.tuple #[c13, (Go.Value.bool true)]) w12⟩) w12⟩) w10⟩) w8⟩) (@hid _ ⟨
   CallV Tryd.prog (.func (.func 54) #[] #[]) #[x0, (Go.Value.string { data := #[91] }), (Go.Value.string { data := #[93] })] (@hid _ ⟨fun t25_15 w16 =>
   ExtractK Tryd.prog t25_15 0 (@hid _ ⟨fun t26_17 w18 =>
   ExtractK Tryd.prog t25_15 1 (@hid _ ⟨fun t27_19 w20 =>
   BrK t27_19 (@hid _ ⟨
    BuildK Tryd.prog 24 #[(0, (Go.Value.int Go.IntKind.i64 3))] (@hid _ ⟨fun t29_21 w22 =>
    AllocK Tryd.prog 24 (@hid _ ⟨fun t8_23 w24 =>
    StoreK Tryd.prog 24 t8_23 t29_21 (@hid _ ⟨fun tu_25 w26 =>
    CallV Tryd.prog (.func (.func 55) #[] #[]) #[t26_17, (Go.Value.string { data := #[32] })] (@hid _ ⟨fun t31_27 w28 =>
    BuiltinK Tryd.prog Go.Builtin.len #[59] 3 #[false] #[t31_27] (@hid _ ⟨fun t32_29 w30 =>
    LoopK1 (Go.Value.int Go.IntKind.i64 0) w30 (@hid _ ⟨fun _ x33_31 w32 B33 =>
     BinK Tryd.prog Go.BinOp.lss 3 x33_31 t32_29 (@hid _ ⟨fun t34_34 w35 =>
     BrK t34_34 (@hid _ ⟨
      IndexAtK Tryd.prog 59 t31_27 x33_31 (@hid _ ⟨fun t35_36 w37 =>
      LoadK Tryd.prog 9 t35_36 (@hid _ ⟨fun t36_38 w39 =>
      CallV Tryd.prog (.func (.func 56) #[] #[]) #[t36_38] (@hid _ ⟨fun t39_40 w41 =>
      ExtractK Tryd.prog t39_40 0 (@hid _ ⟨fun t40_42 w43 =>
      ExtractK Tryd.prog t39_40 1 (@hid _ ⟨fun t41_44 w45 =>
      UnK Tryd.prog Go.UnOp.not t41_44 (@hid _ ⟨fun t43_46 w47 =>
      BrK t43_46 (@hid _ ⟨
       BuildK Tryd.prog 24 #[(0, (Go.Value.int Go.IntKind.i64 3))] (@hid _ ⟨fun t44_48 w49 =>
       BinK Tryd.prog Go.BinOp.eql 9 t26_17 (Go.Value.string { data := #[] }) (@hid _ ⟨fun t46_50 w51 =>
       StoreK Tryd.prog 24 t2_1 t44_48 (@hid _ ⟨fun tu_52 w53 =>
       LoadK Tryd.prog 24 t2_1 (@hid _ ⟨fun c54 w55 => w55 = w53 ∧ R (.tuple #[c54, t46_50]) w53⟩) w53⟩) w51⟩) w49⟩) w47⟩) (@hid _ ⟨
       FieldAtK Tryd.prog 24 t8_23 3 (@hid _ ⟨fun t47_56 w57 =>
       LoadK Tryd.prog 22 t47_56 (@hid _ ⟨fun t48_58 w59 =>
       BuildSliceK Tryd.prog 22 1 #[(0, t40_42)] (@hid _ ⟨fun t50_60 w61 =>
       BuiltinK Tryd.prog Go.Builtin.append #[22, 22] 22 #[false, false] #[t48_58, t50_60] (@hid _ ⟨fun t51_62 w63 =>
       FieldAtK Tryd.prog 24 t8_23 3 (@hid _ ⟨fun t52_64 w65 =>
       StoreK Tryd.prog 22 t52_64 t51_62 (@hid _ ⟨fun tu_66 w67 =>
       BinK Tryd.prog Go.BinOp.add 3 x33_31 (Go.Value.int Go.IntKind.i64 1) (@hid _ ⟨fun t53_68 w69 =>
       B33 t53_68 w69⟩) w67⟩) w65⟩) w63⟩) w61⟩) w59⟩) w57⟩) w47⟩)⟩) w45⟩) w43⟩) w41⟩) w39⟩) w37⟩) w35⟩) (@hid _ ⟨
      FieldAtK Tryd.prog 24 t8_23 3 (@hid _ ⟨fun t54_70 w71 =>
      LoadK Tryd.prog 22 t54_70 (@hid _ ⟨fun t55_72 w73 =>
      CallV Tryd.prog (.func (.func 57) #[] #[]) #[t55_72] (@hid _ ⟨fun t56_74 w75 =>
      FieldAtK Tryd.prog 24 t8_23 3 (@hid _ ⟨fun t57_76 w77 =>
      StoreK Tryd.prog 22 t57_76 t56_74 (@hid _ ⟨fun tu_78 w79 =>
      LoadK Tryd.prog 24 t8_23 (@hid _ ⟨fun t58_80 w81 =>
      StoreK Tryd.prog 24 t2_1 t58_80 (@hid _ ⟨fun tu_82 w83 =>
      LoadK Tryd.prog 24 t2_1 (@hid _ ⟨fun c84 w85 => w85 = w83 ∧ R (.tuple #[c84, (Go.Value.bool true)]) w83⟩) w83⟩) w81⟩) w79⟩) w77⟩) w75⟩) w73⟩) w71⟩) w35⟩)⟩) w32⟩)⟩) w28⟩) w26⟩) w24⟩) w22⟩) w20⟩) (@hid _ ⟨
    CallV Tryd.prog (.func (.func 56) #[] #[]) #[x0] (@hid _ ⟨fun t61_86 w87 =>
    ExtractK Tryd.prog t61_86 0 (@hid _ ⟨fun t62_88 w89 =>
    ExtractK Tryd.prog t61_86 1 (@hid _ ⟨fun t63_90 w91 =>
    BuildK Tryd.prog 24 #[(0, (Go.Value.int Go.IntKind.i64 1)), (1, t62_88)] (@hid _ ⟨fun t65_92 w93 =>
    StoreK Tryd.prog 24 t2_1 t65_92 (@hid _ ⟨fun tu_94 w95 =>
    LoadK Tryd.prog 24 t2_1 (@hid _ ⟨fun c96 w97 => w97 = w95 ∧ R (.tuple #[c96, t63_90]) w95⟩) w95⟩) w93⟩) w91⟩) w89⟩) w87⟩) w20⟩)⟩) w18⟩) w16⟩) w8⟩)⟩) w6⟩) w4⟩) w2⟩) w0
def a42 : Ann := (.seq .no (.seq (.seq .no (.seq .no (.cond (.seq .no .no) .no))) (.seq (.seq .no (.seq .no (.cond (.seq .no (.seq (.seq .no (.block (.loop [33] [(3, 3), (10, 12), (34, 53)] (.seq .no (.seq (.cond .no .no) (.seq (.block (.seq .no (.seq .no (.seq (.seq .no (.cond (.seq .no .no) .no)) .no)))) .no)))))) (.seq .no (.seq .no .no)))) .no))) (.seq .no (.seq .no .no)))))
theorem F42_eq (x0 : Value) (R : Value → World → Prop) (w0 : World) : F42 x0 R w0 = vc Tryd.prog (bodyOf Tryd.f42) a42 (retQ Tryd.prog Tryd.f42 R) (envOf 0 [x0]) w0 := by kernel_rfl
theorem F42_calls (x0 : Value) (R : Value → World → Prop) (w0 : World) (h : F42 x0 R w0) : CallK Tryd.prog 42 #[x0] R w0 :=
  calls_vc (c := bodyOf Tryd.f42) Tryd.func42 (by kernel_rfl) (by kernel_rfl) a42 (by kernel_rfl) (by kernel_rfl) [x0] (by rw [Tryd.ntmps42]; exact Nat.le_of_ble_eq_true rfl) w0 R ((F42_eq x0 R w0).mp h)

/-- canton/cantonref7.Fields, its body as a formula. -/
def F43 (x0 : Value) (R : Value → World → Prop) (w0 : World) : Prop :=
  BinK Tryd.prog Go.BinOp.eql 9 x0 (Go.Value.string { data := #[] }) (@hid _ ⟨fun t6_1 w2 =>
  BrK t6_1 (@hid _ ⟨
   R (Go.Value.slice none 0 0) w2⟩) (@hid _ ⟨
   BuildSliceK Tryd.prog 59 1 #[(0, (Go.Value.string { data := #[] }))] (@hid _ ⟨fun t7_3 w4 =>
   LoopK2 t7_3 (Go.Value.int Go.IntKind.i64 0) w4 (@hid _ ⟨fun _ x3_5 x4_6 w7 B8 =>
    BuiltinK Tryd.prog Go.Builtin.len #[9] 3 #[false] #[x0] (@hid _ ⟨fun t10_9 w10 =>
    BinK Tryd.prog Go.BinOp.lss 3 x4_6 t10_9 (@hid _ ⟨fun t11_11 w12 =>
    BrK t11_11 (@hid _ ⟨
     ValK Tryd.prog (Instr.index 9 x0 x4_6) (@hid _ ⟨fun t16_13 w14 =>
     BinK Tryd.prog Go.BinOp.eql 5 t16_13 (Go.Value.int Go.IntKind.u8 32) (@hid _ ⟨fun t17_15 w16 =>
     BrK t17_15 (@hid _ ⟨
      BuildSliceK Tryd.prog 59 1 #[(0, (Go.Value.string { data := #[] }))] (@hid _ ⟨fun t19_17 w18 =>
      BuiltinK Tryd.prog Go.Builtin.append #[59, 59] 59 #[false, false] #[x3_5, t19_17] (@hid _ ⟨fun t20_19 w20 =>
      BinK Tryd.prog Go.BinOp.add 3 x4_6 (Go.Value.int Go.IntKind.i64 1) (@hid _ ⟨fun t13_21 w22 =>
      B8 t20_19 t13_21 w22⟩) w20⟩) w18⟩) w16⟩) (@hid _ ⟨
      DrawK (@hid _ ⟨fun S23 w24 =>
      TakeO Tryd.prog S23 (builtin Go.Builtin.len #[59] 3 #[false] #[x3_5]) (@hid _ ⟨fun t23_25 =>
      BinT Tryd.prog S23 Go.BinOp.sub 3 t23_25 (Go.Value.int Go.IntKind.i64 1) (@hid _ ⟨fun t24_26 =>
      TakeO Tryd.prog S23 (builtin Go.Builtin.len #[59] 3 #[false] #[x3_5]) (@hid _ ⟨fun t27_27 =>
      BinT Tryd.prog S23 Go.BinOp.sub 3 t27_27 (Go.Value.int Go.IntKind.i64 1) (@hid _ ⟨fun t28_28 =>
      TakeS Tryd.prog S23 (Instr.indexAt 59 x3_5 t28_28) (@hid _ ⟨fun t29_29 =>
      BinT Tryd.prog S23 Go.BinOp.add 3 x4_6 (Go.Value.int Go.IntKind.i64 1) (@hid _ ⟨fun t34_30 =>
      TakeS Tryd.prog S23 (Instr.sliceAt 9 x0 (some x4_6) (some t34_30) none) (@hid _ ⟨fun t35_31 =>
      (LoadK Tryd.prog 9 t29_29 (@hid _ ⟨fun t30_32 w33 =>
      S23 w33 ∧
      BinT Tryd.prog S23 Go.BinOp.add 9 t30_32 t35_31 (@hid _ ⟨fun t36_34 =>
      TakeS Tryd.prog S23 (Instr.indexAt 59 x3_5 t24_26) (@hid _ ⟨fun t37_35 =>
      (StoreK Tryd.prog 9 t37_35 t36_34 (@hid _ ⟨fun tu_36 w37 =>
      S23 w37 ∧
      BinK Tryd.prog Go.BinOp.add 3 x4_6 (Go.Value.int Go.IntKind.i64 1) (@hid _ ⟨fun t13_38 w39 =>
      B8 x3_5 t13_38 w39⟩) w37⟩) w33) ∧
      True⟩)⟩)⟩) w24) ∧
      True⟩)⟩)⟩)⟩)⟩)⟩)⟩)⟩) w16⟩)⟩) w14⟩) w12⟩) (@hid _ ⟨
     R x3_5 w12⟩)⟩) w10⟩) w7⟩)⟩) w2⟩)⟩) w0
def a43 : Ann := (.seq .no (.seq (.seq .no (.cond (.seq .no .no) .no)) (.seq .no (.seq (.seq .no (.block (.loop [3, 4] [(8, 37)] (.seq (.seq .no (.cond .no .no)) (.seq (.block (.seq (.seq .no (.cond (.seq .no .no) .no)) (.plan (.take 0 (.take 1 (.take 2 (.take 3 (.take 4 (.take 5 (.take 6 (.take 7 (.take 8 (.take 10 (.take 11 (.take 12 (.take 13 (.take 14 (.alt 9 (.take 15 (.take 16 (.alt 17 .done .nil))) .nil)))))))))))))))))) .no))))) (.seq .no .no)))))
theorem F43_eq (x0 : Value) (R : Value → World → Prop) (w0 : World) : F43 x0 R w0 = vc Tryd.prog (bodyOf Tryd.f43) a43 (retQ Tryd.prog Tryd.f43 R) (envOf 0 [x0]) w0 := by kernel_rfl
theorem F43_calls (x0 : Value) (R : Value → World → Prop) (w0 : World) (h : F43 x0 R w0) : CallK Tryd.prog 43 #[x0] R w0 :=
  calls_vc (c := bodyOf Tryd.f43) Tryd.func43 (by kernel_rfl) (by kernel_rfl) a43 (by kernel_rfl) (by kernel_rfl) [x0] (by rw [Tryd.ntmps43]; exact Nat.le_of_ble_eq_true rfl) w0 R ((F43_eq x0 R w0).mp h)

/-- canton/cantonref7.Number, its body as a formula. -/
def F44 (x0 : Value) (R : Value → World → Prop) (w0 : World) : Prop :=
  BuiltinK Tryd.prog Go.Builtin.len #[9] 3 #[false] #[x0] (@hid _ ⟨fun t9_1 w2 =>
  BinK Tryd.prog Go.BinOp.gtr 3 t9_1 (Go.Value.int Go.IntKind.i64 0) (@hid _ ⟨fun t10_3 w4 =>
  GuardK t10_3 true (fun k w => k x0 w) (@hid _ ⟨fun t12_5 w6 =>
  GuardK t10_3 true (fun k w => ValK Tryd.prog (Instr.index 9 t12_5 (Go.Value.int Go.IntKind.i64 0)) k w) (@hid _ ⟨fun t13_7 w8 =>
  GuardK t10_3 true (fun k w => BinK Tryd.prog Go.BinOp.eql 5 t13_7 (Go.Value.int Go.IntKind.u8 45) k w) (@hid _ ⟨fun t14_9 w10 =>
  PickK Tryd.prog t10_3 t14_9 (Go.Value.bool false) (@hid _ ⟨fun t15_11 w12 =>
  CutK1 (@hid _ ⟨fun R13 =>
   BrK t15_11 (@hid _ ⟨
    SliceK Tryd.prog 9 x0 (some (Go.Value.int Go.IntKind.i64 1)) none none (@hid _ ⟨fun t19_16 w17 =>
    R13 t19_16 w17⟩) w12⟩) (@hid _ ⟨
    R13 x0 w12⟩)⟩)
  (@hid _ ⟨fun _ x5_14 w15 =>
   BuiltinK Tryd.prog Go.Builtin.len #[9] 3 #[false] #[x5_14] (@hid _ ⟨fun t21_18 w19 =>
   BinK Tryd.prog Go.BinOp.eql 3 t21_18 (Go.Value.int Go.IntKind.i64 0) (@hid _ ⟨fun t22_20 w21 =>
   GuardK t22_20 false (fun k w => k x5_14 w) (@hid _ ⟨fun t24_22 w23 =>
   GuardK t22_20 false (fun k w => BuiltinK Tryd.prog Go.Builtin.len #[9] 3 #[false] #[t24_22] k w) (@hid _ ⟨fun t25_24 w25 =>
   GuardK t22_20 false (fun k w => BinK Tryd.prog Go.BinOp.gtr 3 t25_24 (Go.Value.int Go.IntKind.i64 19) k w) (@hid _ ⟨fun t26_26 w27 =>
   PickK Tryd.prog t22_20 (Go.Value.bool true) t26_26 (@hid _ ⟨fun t27_28 w29 =>
   GuardK t27_28 false (fun k w => k x5_14 w) (@hid _ ⟨fun t29_30 w31 =>
   GuardK t27_28 false (fun k w => ValK Tryd.prog (Instr.index 9 t29_30 (Go.Value.int Go.IntKind.i64 0)) k w) (@hid _ ⟨fun t30_32 w33 =>
   GuardK t27_28 false (fun k w => BinK Tryd.prog Go.BinOp.eql 5 t30_32 (Go.Value.int Go.IntKind.u8 48) k w) (@hid _ ⟨fun t31_34 w35 =>
   GuardK t27_28 false (fun k w => k t31_34 w) (@hid _ ⟨fun t32_36 w37 =>
   GuardK t32_36 true (fun k w => k x5_14 w) (@hid _ ⟨fun t33_38 w39 =>
   GuardK t32_36 true (fun k w => BuiltinK Tryd.prog Go.Builtin.len #[9] 3 #[false] #[t33_38] k w) (@hid _ ⟨fun t34_40 w41 =>
   GuardK t32_36 true (fun k w => BinK Tryd.prog Go.BinOp.gtr 3 t34_40 (Go.Value.int Go.IntKind.i64 1) k w) (@hid _ ⟨fun t35_42 w43 =>
   GuardK t32_36 true (fun k w => k t35_42 w) (@hid _ ⟨fun t36_44 w45 =>
   GuardK t36_44 false (fun k w => k t15_11 w) (@hid _ ⟨fun t37_46 w47 =>
   GuardK t32_36 true (fun k w => PickK Tryd.prog t36_44 (Go.Value.bool true) t37_46 k w) (@hid _ ⟨fun t38_48 w49 =>
   GuardK t27_28 false (fun k w => PickK Tryd.prog t32_36 t38_48 (Go.Value.bool false) k w) (@hid _ ⟨fun t39_50 w51 =>
   PickK Tryd.prog t27_28 (Go.Value.bool true) t39_50 (@hid _ ⟨fun t40_52 w53 =>
   BrK t40_52 (@hid _ ⟨
    R (.tuple #[(Go.Value.int Go.IntKind.i64 0), (Go.Value.bool false)]) w53⟩) (@hid _ ⟨
    LoopK2 (Go.Value.int Go.IntKind.u64 0) (Go.Value.int Go.IntKind.i64 0) w53 (@hid _ ⟨fun _ x6_54 x7_55 w56 B57 =>
     BuiltinK Tryd.prog Go.Builtin.len #[9] 3 #[false] #[x5_14] (@hid _ ⟨fun t43_58 w59 =>
     BinK Tryd.prog Go.BinOp.lss 3 x7_55 t43_58 (@hid _ ⟨fun t44_60 w61 =>
     BrK t44_60 (@hid _ ⟨
      ValK Tryd.prog (Instr.index 9 x5_14 x7_55) (@hid _ ⟨fun t49_62 w63 =>
      BinK Tryd.prog Go.BinOp.lss 5 t49_62 (Go.Value.int Go.IntKind.u8 48) (@hid _ ⟨fun t50_64 w65 =>
      GuardK t50_64 false (fun k w => k x5_14 w) (@hid _ ⟨fun t52_66 w67 =>
      GuardK t50_64 false (fun k w => k x7_55 w) (@hid _ ⟨fun t53_68 w69 =>
      GuardK t50_64 false (fun k w => ValK Tryd.prog (Instr.index 9 t52_66 t53_68) k w) (@hid _ ⟨fun t54_70 w71 =>
      GuardK t50_64 false (fun k w => BinK Tryd.prog Go.BinOp.gtr 5 t54_70 (Go.Value.int Go.IntKind.u8 57) k w) (@hid _ ⟨fun t55_72 w73 =>
      PickK Tryd.prog t50_64 (Go.Value.bool true) t55_72 (@hid _ ⟨fun t56_74 w75 =>
      BrK t56_74 (@hid _ ⟨
       R (.tuple #[(Go.Value.int Go.IntKind.i64 0), (Go.Value.bool false)]) w75⟩) (@hid _ ⟨
       BinK Tryd.prog Go.BinOp.mul 63 (Go.Value.int Go.IntKind.u64 10) x6_54 (@hid _ ⟨fun t58_76 w77 =>
       ValK Tryd.prog (Instr.index 9 x5_14 x7_55) (@hid _ ⟨fun t61_78 w79 =>
       BinK Tryd.prog Go.BinOp.sub 5 t61_78 (Go.Value.int Go.IntKind.u8 48) (@hid _ ⟨fun t62_80 w81 =>
       ConvK Tryd.prog 5 63 t62_80 (@hid _ ⟨fun t63_82 w83 =>
       BinK Tryd.prog Go.BinOp.add 63 t58_76 t63_82 (@hid _ ⟨fun t64_84 w85 =>
       BinK Tryd.prog Go.BinOp.add 3 x7_55 (Go.Value.int Go.IntKind.i64 1) (@hid _ ⟨fun t46_86 w87 =>
       B57 t64_84 t46_86 w87⟩) w85⟩) w83⟩) w81⟩) w79⟩) w77⟩) w75⟩)⟩) w73⟩) w71⟩) w69⟩) w67⟩) w65⟩) w63⟩) w61⟩) (@hid _ ⟨
      GuardK t15_11 true (fun k w => k x6_54 w) (@hid _ ⟨fun t68_88 w89 =>
      GuardK t15_11 true (fun k w => BinK Tryd.prog Go.BinOp.eql 63 t68_88 (Go.Value.int Go.IntKind.u64 9223372036854775808) k w) (@hid _ ⟨fun t69_90 w91 =>
      PickK Tryd.prog t15_11 t69_90 (Go.Value.bool false) (@hid _ ⟨fun t70_92 w93 =>
      BrK t70_92 (@hid _ ⟨
       R (.tuple #[(Go.Value.int Go.IntKind.i64 (-9223372036854775808)), (Go.Value.bool true)]) w93⟩) (@hid _ ⟨
       BinK Tryd.prog Go.BinOp.geq 63 x6_54 (Go.Value.int Go.IntKind.u64 9223372036854775808) (@hid _ ⟨fun t73_94 w95 =>
       BrK t73_94 (@hid _ ⟨
        R (.tuple #[(Go.Value.int Go.IntKind.i64 0), (Go.Value.bool false)]) w95⟩) (@hid _ ⟨
        BrK t15_11 (@hid _ ⟨
         ConvK Tryd.prog 63 2 x6_54 (@hid _ ⟨fun t77_96 w97 =>
         BinK Tryd.prog Go.BinOp.sub 2 (Go.Value.int Go.IntKind.i64 0) t77_96 (@hid _ ⟨fun t78_98 w99 =>
         R (.tuple #[t78_98, (Go.Value.bool true)]) w99⟩) w97⟩) w95⟩) (@hid _ ⟨
         ConvK Tryd.prog 63 2 x6_54 (@hid _ ⟨fun t80_100 w101 =>
         R (.tuple #[t80_100, (Go.Value.bool true)]) w101⟩) w95⟩)⟩)⟩) w93⟩)⟩) w91⟩) w89⟩) w61⟩)⟩) w59⟩) w56⟩)⟩)⟩) w51⟩) w49⟩) w47⟩) w45⟩) w43⟩) w41⟩) w39⟩) w37⟩) w35⟩) w33⟩) w31⟩) w29⟩) w27⟩) w25⟩) w23⟩) w21⟩) w19⟩) w15⟩)⟩) w10⟩) w8⟩) w6⟩) w4⟩) w2⟩) w0
def a44 : Ann := (.seq .no (.seq .no (.seq .no (.cut [5] [(17, 19)] (.seq .no (.cond .no .no)) (.seq (.seq .no (.cond (.seq .no .no) .no)) (.seq .no (.seq (.seq .no (.block (.loop [6, 7] [(2, 3), (41, 64)] (.seq (.seq .no (.cond .no .no)) (.seq (.block (.seq (.seq .no (.cond (.seq .no .no) .no)) .no)) .no))))) (.seq (.block (.seq .no (.cond (.seq .no .no) (.seq .no (.cond (.seq .no .no) (.seq .no (.cond (.seq .no .no) .no))))))) (.seq .no .no)))))))))
theorem F44_eq (x0 : Value) (R : Value → World → Prop) (w0 : World) : F44 x0 R w0 = vc Tryd.prog (bodyOf Tryd.f44) a44 (retQ Tryd.prog Tryd.f44 R) (envOf 0 [x0]) w0 := by kernel_rfl
theorem F44_calls (x0 : Value) (R : Value → World → Prop) (w0 : World) (h : F44 x0 R w0) : CallK Tryd.prog 44 #[x0] R w0 :=
  calls_vc (c := bodyOf Tryd.f44) Tryd.func44 (by kernel_rfl) (by kernel_rfl) a44 (by kernel_rfl) (by kernel_rfl) [x0] (by rw [Tryd.ntmps44]; exact Nat.le_of_ble_eq_true rfl) w0 R ((F44_eq x0 R w0).mp h)

/-- canton/value.cut, its body as a formula. -/
def F45 (x0 : Value) (R : Value → World → Prop) (w0 : World) : Prop :=
  BrK x0 (@hid _ ⟨
   R (Go.Value.int Go.IntKind.i64 (-9223372036854775808)) w0⟩) (@hid _ ⟨
   R (Go.Value.int Go.IntKind.i64 9223372036854775807) w0⟩)
def a45 : Ann := (.seq .no (.seq (.seq .no (.cond (.seq .no .no) .no)) (.seq .no .no)))
theorem F45_eq (x0 : Value) (R : Value → World → Prop) (w0 : World) : F45 x0 R w0 = vc Tryd.prog (bodyOf Tryd.f45) a45 (retQ Tryd.prog Tryd.f45 R) (envOf 0 [x0]) w0 := by kernel_rfl
theorem F45_calls (x0 : Value) (R : Value → World → Prop) (w0 : World) (h : F45 x0 R w0) : CallK Tryd.prog 45 #[x0] R w0 :=
  calls_vc (c := bodyOf Tryd.f45) Tryd.func45 (by kernel_rfl) (by kernel_rfl) a45 (by kernel_rfl) (by kernel_rfl) [x0] (by rw [Tryd.ntmps45]; exact Nat.le_of_ble_eq_true rfl) w0 R ((F45_eq x0 R w0).mp h)

/-- canton/value.size, its body as a formula. -/
def F47 (x0 : Value) (R : Value → World → Prop) (w0 : World) : Prop :=
  BinK Tryd.prog Go.BinOp.lss 2 x0 (Go.Value.int Go.IntKind.i64 0) (@hid _ ⟨fun t4_1 w2 =>
  BrK t4_1 (@hid _ ⟨
   ConvK Tryd.prog 2 63 x0 (@hid _ ⟨fun t6_3 w4 =>
   UnK Tryd.prog Go.UnOp.neg t6_3 (@hid _ ⟨fun t7_5 w6 =>
   R t7_5 w6⟩) w4⟩) w2⟩) (@hid _ ⟨
   ConvK Tryd.prog 2 63 x0 (@hid _ ⟨fun t9_7 w8 =>
   R t9_7 w8⟩) w2⟩)⟩) w0
def a47 : Ann := (.seq .no (.seq (.seq .no (.cond (.seq .no .no) .no)) (.seq .no .no)))
theorem F47_eq (x0 : Value) (R : Value → World → Prop) (w0 : World) : F47 x0 R w0 = vc Tryd.prog (bodyOf Tryd.f47) a47 (retQ Tryd.prog Tryd.f47 R) (envOf 0 [x0]) w0 := by kernel_rfl
theorem F47_calls (x0 : Value) (R : Value → World → Prop) (w0 : World) (h : F47 x0 R w0) : CallK Tryd.prog 47 #[x0] R w0 :=
  calls_vc (c := bodyOf Tryd.f47) Tryd.func47 (by kernel_rfl) (by kernel_rfl) a47 (by kernel_rfl) (by kernel_rfl) [x0] (by rw [Tryd.ntmps47]; exact Nat.le_of_ble_eq_true rfl) w0 R ((F47_eq x0 R w0).mp h)

/-- canton/value.printable, its body as a formula. -/
def F48 (x0 : Value) (R : Value → World → Prop) (w0 : World) : Prop :=
  BinK Tryd.prog Go.BinOp.geq 5 x0 (Go.Value.int Go.IntKind.u8 32) (@hid _ ⟨fun t4_1 w2 =>
  GuardK t4_1 true (fun k w => k x0 w) (@hid _ ⟨fun t6_3 w4 =>
  GuardK t4_1 true (fun k w => BinK Tryd.prog Go.BinOp.leq 5 t6_3 (Go.Value.int Go.IntKind.u8 126) k w) (@hid _ ⟨fun t7_5 w6 =>
  PickK Tryd.prog t4_1 t7_5 (Go.Value.bool false) (@hid _ ⟨fun t8_7 w8 =>
  GuardK t8_7 true (fun k w => k x0 w) (@hid _ ⟨fun t10_9 w10 =>
  GuardK t8_7 true (fun k w => BinK Tryd.prog Go.BinOp.neq 5 t10_9 (Go.Value.int Go.IntKind.u8 34) k w) (@hid _ ⟨fun t11_11 w12 =>
  PickK Tryd.prog t8_7 t11_11 (Go.Value.bool false) (@hid _ ⟨fun t12_13 w14 =>
  R t12_13 w14⟩) w12⟩) w10⟩) w8⟩) w6⟩) w4⟩) w2⟩) w0
def a48 : Ann := (.seq .no (.seq .no .no))
theorem F48_eq (x0 : Value) (R : Value → World → Prop) (w0 : World) : F48 x0 R w0 = vc Tryd.prog (bodyOf Tryd.f48) a48 (retQ Tryd.prog Tryd.f48 R) (envOf 0 [x0]) w0 := by kernel_rfl
theorem F48_calls (x0 : Value) (R : Value → World → Prop) (w0 : World) (h : F48 x0 R w0) : CallK Tryd.prog 48 #[x0] R w0 :=
  calls_vc (c := bodyOf Tryd.f48) Tryd.func48 (by kernel_rfl) (by kernel_rfl) a48 (by kernel_rfl) (by kernel_rfl) [x0] (by rw [Tryd.ntmps48]; exact Nat.le_of_ble_eq_true rfl) w0 R ((F48_eq x0 R w0).mp h)

/-- cmp.isNaN[int], its body as a formula. -/
def F49 (x0 : Value) (R : Value → World → Prop) (w0 : World) : Prop :=
  BinK Tryd.prog Go.BinOp.neq 3 x0 x0 (@hid _ ⟨fun t5_1 w2 =>
  R t5_1 w2⟩) w0
def a49 : Ann := (.seq .no (.seq .no .no))
theorem F49_eq (x0 : Value) (R : Value → World → Prop) (w0 : World) : F49 x0 R w0 = vc Tryd.prog (bodyOf Tryd.f49) a49 (retQ Tryd.prog Tryd.f49 R) (envOf 0 [x0]) w0 := by kernel_rfl
theorem F49_calls (x0 : Value) (R : Value → World → Prop) (w0 : World) (h : F49 x0 R w0) : CallK Tryd.prog 49 #[x0] R w0 :=
  calls_vc (c := bodyOf Tryd.f49) Tryd.func49 (by kernel_rfl) (by kernel_rfl) a49 (by kernel_rfl) (by kernel_rfl) [x0] (by rw [Tryd.ntmps49]; exact Nat.le_of_ble_eq_true rfl) w0 R ((F49_eq x0 R w0).mp h)

/-- cmp.isNaN[int64], its body as a formula. -/
def F50 (x0 : Value) (R : Value → World → Prop) (w0 : World) : Prop :=
  BinK Tryd.prog Go.BinOp.neq 2 x0 x0 (@hid _ ⟨fun t5_1 w2 =>
  R t5_1 w2⟩) w0
def a50 : Ann := (.seq .no (.seq .no .no))
theorem F50_eq (x0 : Value) (R : Value → World → Prop) (w0 : World) : F50 x0 R w0 = vc Tryd.prog (bodyOf Tryd.f50) a50 (retQ Tryd.prog Tryd.f50 R) (envOf 0 [x0]) w0 := by kernel_rfl
theorem F50_calls (x0 : Value) (R : Value → World → Prop) (w0 : World) (h : F50 x0 R w0) : CallK Tryd.prog 50 #[x0] R w0 :=
  calls_vc (c := bodyOf Tryd.f50) Tryd.func50 (by kernel_rfl) (by kernel_rfl) a50 (by kernel_rfl) (by kernel_rfl) [x0] (by rw [Tryd.ntmps50]; exact Nat.le_of_ble_eq_true rfl) w0 R ((F50_eq x0 R w0).mp h)

/-- cmp.isNaN[string], its body as a formula. -/
def F51 (x0 : Value) (R : Value → World → Prop) (w0 : World) : Prop :=
  BinK Tryd.prog Go.BinOp.neq 9 x0 x0 (@hid _ ⟨fun t5_1 w2 =>
  R t5_1 w2⟩) w0
def a51 : Ann := (.seq .no (.seq .no .no))
theorem F51_eq (x0 : Value) (R : Value → World → Prop) (w0 : World) : F51 x0 R w0 = vc Tryd.prog (bodyOf Tryd.f51) a51 (retQ Tryd.prog Tryd.f51 R) (envOf 0 [x0]) w0 := by kernel_rfl
theorem F51_calls (x0 : Value) (R : Value → World → Prop) (w0 : World) (h : F51 x0 R w0) : CallK Tryd.prog 51 #[x0] R w0 :=
  calls_vc (c := bodyOf Tryd.f51) Tryd.func51 (by kernel_rfl) (by kernel_rfl) a51 (by kernel_rfl) (by kernel_rfl) [x0] (by rw [Tryd.ntmps51]; exact Nat.le_of_ble_eq_true rfl) w0 R ((F51_eq x0 R w0).mp h)

/-- strings.Join, its body as a formula. -/
def F53 (x0 x1 : Value) (R : Value → World → Prop) (w0 : World) : Prop :=
  BuiltinK Tryd.prog Go.Builtin.len #[59] 3 #[false] #[x0] (@hid _ ⟨fun t12_1 w2 =>
  BinK Tryd.prog Go.BinOp.eql 3 t12_1 (Go.Value.int Go.IntKind.i64 0) (@hid _ ⟨fun t14_3 w4 =>
  BrK t14_3 (@hid _ ⟨
   R (Go.Value.string { data := #[] }) w4⟩) (@hid _ ⟨
   BinK Tryd.prog Go.BinOp.eql 3 t12_1 (Go.Value.int Go.IntKind.i64 1) (@hid _ ⟨fun t16_5 w6 =>
   BrK t16_5 (@hid _ ⟨
    IndexAtK Tryd.prog 59 x0 (Go.Value.int Go.IntKind.i64 0) (@hid _ ⟨fun t18_7 w8 =>
    LoadK Tryd.prog 9 t18_7 (@hid _ ⟨fun t19_9 w10 =>
    R t19_9 w10⟩) w8⟩) w6⟩) (@hid _ ⟨
    CutK1 (@hid _ ⟨fun R11 =>
     BuiltinK Tryd.prog Go.Builtin.len #[9] 3 #[false] #[x1] (@hid _ ⟨fun t21_14 w15 =>
     BinK Tryd.prog Go.BinOp.gtr 3 t21_14 (Go.Value.int Go.IntKind.i64 0) (@hid _ ⟨fun t22_16 w17 =>
     BrK t22_16 (@hid _ ⟨
      CutK0 (@hid _ ⟨fun R18 =>
       BuiltinK Tryd.prog Go.Builtin.len #[9] 3 #[false] #[x1] (@hid _ ⟨fun t24_20 w21 =>
       BuiltinK Tryd.prog Go.Builtin.len #[59] 3 #[false] #[x0] (@hid _ ⟨fun t26_22 w23 =>
       BinK Tryd.prog Go.BinOp.sub 3 t26_22 (Go.Value.int Go.IntKind.i64 1) (@hid _ ⟨fun t27_24 w25 =>
       BinK Tryd.prog Go.BinOp.quo 3 (Go.Value.int Go.IntKind.i64 9223372036854775807) t27_24 (@hid _ ⟨fun t28_26 w27 =>
       BinK Tryd.prog Go.BinOp.geq 3 t24_20 t28_26 (@hid _ ⟨fun t29_28 w29 =>
       BrK t29_28 (@hid _ ⟨
        ValK Tryd.prog (Instr.makeInterface 9 (Go.Value.string { data := #[115, 116, 114, 105, 110, 103, 115, 58, 32, 74, 111, 105, 110, 32, 111, 117, 116, 112, 117, 116, 32, 108, 101, 110, 103, 116, 104, 32, 111, 118, 101, 114, 102, 108, 111, 119] })) (@hid _ ⟨fun t30_30 w31 =>
        OpK Tryd.prog (execOp (fun _ => t30_30) { dst := none, op := .panic (.tmp 0), type := 0, pos := "strings.go:479", after := #[], guard := none }) (@hid _ ⟨fun tu_32 w33 =>
        R18 w33⟩) w31⟩) w29⟩) (@hid _ ⟨
        R18 w29⟩)⟩) w27⟩) w25⟩) w23⟩) w21⟩) w17⟩)
      (@hid _ ⟨fun _ w19 =>
       BuiltinK Tryd.prog Go.Builtin.len #[9] 3 #[false] #[x1] (@hid _ ⟨fun t33_34 w35 =>
       BuiltinK Tryd.prog Go.Builtin.len #[59] 3 #[false] #[x0] (@hid _ ⟨fun t35_36 w37 =>
       BinK Tryd.prog Go.BinOp.sub 3 t35_36 (Go.Value.int Go.IntKind.i64 1) (@hid _ ⟨fun t36_38 w39 =>
       BinK Tryd.prog Go.BinOp.mul 3 t33_34 t36_38 (@hid _ ⟨fun t37_40 w41 =>
       BinK Tryd.prog Go.BinOp.add 3 (Go.Value.int Go.IntKind.i64 0) t37_40 (@hid _ ⟨fun t38_42 w43 =>
       R11 t38_42 w43⟩) w41⟩) w39⟩) w37⟩) w35⟩) w19⟩)⟩) (@hid _ ⟨
      R11 (Go.Value.int Go.IntKind.i64 0) w17⟩)⟩) w15⟩) w6⟩)
    (@hid _ ⟨fun _ x5_12 w13 =>
     BuiltinK Tryd.prog Go.Builtin.len #[59] 3 #[false] #[x0] (@hid _ ⟨fun t40_44 w45 =>
     LoopK2 x5_12 (Go.Value.int Go.IntKind.i64 0) w45 (@hid _ ⟨fun _ x5_46 x41_47 w48 B49 =>
      BinK Tryd.prog Go.BinOp.lss 3 x41_47 t40_44 (@hid _ ⟨fun t42_50 w51 =>
      BrK t42_50 (@hid _ ⟨
       IndexAtK Tryd.prog 59 x0 x41_47 (@hid _ ⟨fun t43_52 w53 =>
       LoadK Tryd.prog 9 t43_52 (@hid _ ⟨fun t44_54 w55 =>
       CutK0 (@hid _ ⟨fun R56 =>
        BuiltinK Tryd.prog Go.Builtin.len #[9] 3 #[false] #[t44_54] (@hid _ ⟨fun t46_58 w59 =>
        BinK Tryd.prog Go.BinOp.sub 3 (Go.Value.int Go.IntKind.i64 9223372036854775807) x5_46 (@hid _ ⟨fun t48_60 w61 =>
        BinK Tryd.prog Go.BinOp.gtr 3 t46_58 t48_60 (@hid _ ⟨fun t49_62 w63 =>
        BrK t49_62 (@hid _ ⟨
         ValK Tryd.prog (Instr.makeInterface 9 (Go.Value.string { data := #[115, 116, 114, 105, 110, 103, 115, 58, 32, 74, 111, 105, 110, 32, 111, 117, 116, 112, 117, 116, 32, 108, 101, 110, 103, 116, 104, 32, 111, 118, 101, 114, 102, 108, 111, 119] })) (@hid _ ⟨fun t50_64 w65 =>
         OpK Tryd.prog (execOp (fun _ => t50_64) { dst := none, op := .panic (.tmp 0), type := 0, pos := "strings.go:485", after := #[], guard := none }) (@hid _ ⟨fun tu_66 w67 =>
         R56 w67⟩) w65⟩) w63⟩) (@hid _ ⟨
         R56 w63⟩)⟩) w61⟩) w59⟩) w55⟩)
       (@hid _ ⟨fun _ w57 =>
        BuiltinK Tryd.prog Go.Builtin.len #[9] 3 #[false] #[t44_54] (@hid _ ⟨fun t53_68 w69 =>
        BinK Tryd.prog Go.BinOp.add 3 x5_46 t53_68 (@hid _ ⟨fun t54_70 w71 =>
        BinK Tryd.prog Go.BinOp.add 3 x41_47 (Go.Value.int Go.IntKind.i64 1) (@hid _ ⟨fun t55_72 w73 =>
        B49 t54_70 t55_72 w73⟩) w71⟩) w69⟩) w57⟩)⟩) w53⟩) w51⟩) (@hid _ ⟨
       AllocK Tryd.prog 85 (@hid _ ⟨fun t8_74 w75 =>
       CallV Tryd.prog (.func (.func 62) #[] #[]) #[t8_74, x5_46] (@hid _ ⟨fun t57_76 w77 =>
       IndexAtK Tryd.prog 59 x0 (Go.Value.int Go.IntKind.i64 0) (@hid _ ⟨fun t59_78 w79 =>
       LoadK Tryd.prog 9 t59_78 (@hid _ ⟨fun t60_80 w81 =>
       CallV Tryd.prog (.func (.func 63) #[] #[]) #[t8_74, t60_80] (@hid _ ⟨fun t61_82 w83 =>
       SliceK Tryd.prog 59 x0 (some (Go.Value.int Go.IntKind.i64 1)) none none (@hid _ ⟨fun t63_84 w85 =>
       BuiltinK Tryd.prog Go.Builtin.len #[59] 3 #[false] #[t63_84] (@hid _ ⟨fun t64_86 w87 =>
       LoopK1 (Go.Value.int Go.IntKind.i64 0) w87 (@hid _ ⟨fun _ x65_88 w89 B90 =>
        BinK Tryd.prog Go.BinOp.lss 3 x65_88 t64_86 (@hid _ ⟨fun t66_91 w92 =>
        BrK t66_91 (@hid _ ⟨
         IndexAtK Tryd.prog 59 t63_84 x65_88 (@hid _ ⟨fun t67_93 w94 =>
         LoadK Tryd.prog 9 t67_93 (@hid _ ⟨fun t68_95 w96 =>
         CallV Tryd.prog (.func (.func 63) #[] #[]) #[t8_74, x1] (@hid _ ⟨fun t70_97 w98 =>
         CallV Tryd.prog (.func (.func 63) #[] #[]) #[t8_74, t68_95] (@hid _ ⟨fun t72_99 w100 =>
         BinK Tryd.prog Go.BinOp.add 3 x65_88 (Go.Value.int Go.IntKind.i64 1) (@hid _ ⟨fun t73_101 w102 =>
         B90 t73_101 w102⟩) w100⟩) w98⟩) w96⟩) w94⟩) w92⟩) (@hid _ ⟨
         CallV Tryd.prog (.func (.func 64) #[] #[]) #[t8_74] (@hid _ ⟨fun t74_103 w104 =>
         R t74_103 w104⟩) w92⟩)⟩) w89⟩)⟩) w85⟩) w83⟩) w81⟩) w79⟩) w77⟩) w75⟩) w51⟩)⟩) w48⟩)⟩) w13⟩)⟩)⟩) w4⟩)⟩) w2⟩) w0
def a53 : Ann := (.seq .no (.seq (.seq .no (.block (.seq .no (.cond (.seq .no .no) (.seq .no (.cond (.seq .no .no) .no)))))) (.seq .no (.cut [5] [(20, 38)] (.seq .no (.cond (.cut [] [(23, 30)] (.seq .no (.cond .no .no)) .no) .no)) (.seq (.seq .no (.block (.loop [5, 41] [(7, 7), (42, 55)] (.seq .no (.seq (.cond .no .no) (.seq (.block (.seq .no (.cut [] [(45, 50)] (.seq .no (.cond .no .no)) .no))) .no)))))) (.seq .no (.seq .no (.seq .no (.seq (.seq .no (.block (.loop [65] [(10, 10), (66, 73)] (.seq .no (.seq (.cond .no .no) (.seq (.block (.seq .no (.seq .no .no))) .no)))))) (.seq .no .no))))))))))
theorem F53_eq (x0 x1 : Value) (R : Value → World → Prop) (w0 : World) : F53 x0 x1 R w0 = vc Tryd.prog (bodyOf Tryd.f53) a53 (retQ Tryd.prog Tryd.f53 R) (envOf 0 [x0, x1]) w0 := by kernel_rfl
theorem F53_calls (x0 x1 : Value) (R : Value → World → Prop) (w0 : World) (h : F53 x0 x1 R w0) : CallK Tryd.prog 53 #[x0, x1] R w0 :=
  calls_vc (c := bodyOf Tryd.f53) Tryd.func53 (by kernel_rfl) (by kernel_rfl) a53 (by kernel_rfl) (by kernel_rfl) [x0, x1] (by rw [Tryd.ntmps53]; exact Nat.le_of_ble_eq_true rfl) w0 R ((F53_eq x0 x1 R w0).mp h)

/-- canton/value.within, its body as a formula. -/
def F54 (x0 x1 x2 : Value) (R : Value → World → Prop) (w0 : World) : Prop :=
  BuiltinK Tryd.prog Go.Builtin.len #[9] 3 #[false] #[x0] (@hid _ ⟨fun t9_1 w2 =>
  BuiltinK Tryd.prog Go.Builtin.len #[9] 3 #[false] #[x1] (@hid _ ⟨fun t11_3 w4 =>
  BuiltinK Tryd.prog Go.Builtin.len #[9] 3 #[false] #[x2] (@hid _ ⟨fun t13_5 w6 =>
  BinK Tryd.prog Go.BinOp.add 3 t11_3 t13_5 (@hid _ ⟨fun t14_7 w8 =>
  BinK Tryd.prog Go.BinOp.lss 3 t9_1 t14_7 (@hid _ ⟨fun t15_9 w10 =>
  GuardK t15_9 false (fun k w => k x0 w) (@hid _ ⟨fun t17_11 w12 =>
  GuardK t15_9 false (fun k w => k x1 w) (@hid _ ⟨fun t18_13 w14 =>
  GuardK t15_9 false (fun k w => CallV Tryd.prog (.func (.func 65) #[] #[]) #[t17_11, t18_13] k w) (@hid _ ⟨fun t19_15 w16 =>
  GuardK t15_9 false (fun k w => UnK Tryd.prog Go.UnOp.not t19_15 k w) (@hid _ ⟨fun t20_17 w18 =>
  PickK Tryd.prog t15_9 (Go.Value.bool true) t20_17 (@hid _ ⟨fun t21_19 w20 =>
  GuardK t21_19 false (fun k w => k x0 w) (@hid _ ⟨fun t23_21 w22 =>
  GuardK t21_19 false (fun k w => k x2 w) (@hid _ ⟨fun t24_23 w24 =>
  GuardK t21_19 false (fun k w => CallV Tryd.prog (.func (.func 66) #[] #[]) #[t23_21, t24_23] k w) (@hid _ ⟨fun t25_25 w26 =>
  GuardK t21_19 false (fun k w => UnK Tryd.prog Go.UnOp.not t25_25 k w) (@hid _ ⟨fun t26_27 w28 =>
  PickK Tryd.prog t21_19 (Go.Value.bool true) t26_27 (@hid _ ⟨fun t27_29 w30 =>
  BrK t27_29 (@hid _ ⟨
   R (.tuple #[(Go.Value.string { data := #[] }), (Go.Value.bool false)]) w30⟩) (@hid _ ⟨
   BuiltinK Tryd.prog Go.Builtin.len #[9] 3 #[false] #[x1] (@hid _ ⟨fun t30_31 w32 =>
   BuiltinK Tryd.prog Go.Builtin.len #[9] 3 #[false] #[x0] (@hid _ ⟨fun t32_33 w34 =>
   BuiltinK Tryd.prog Go.Builtin.len #[9] 3 #[false] #[x2] (@hid _ ⟨fun t34_35 w36 =>
   BinK Tryd.prog Go.BinOp.sub 3 t32_33 t34_35 (@hid _ ⟨fun t35_37 w38 =>
   SliceK Tryd.prog 9 x0 (some t30_31) (some t35_37) none (@hid _ ⟨fun t36_39 w40 =>
   R (.tuple #[t36_39, (Go.Value.bool true)]) w40⟩) w38⟩) w36⟩) w34⟩) w32⟩) w30⟩)⟩) w28⟩) w26⟩) w24⟩) w22⟩) w20⟩) w18⟩) w16⟩) w14⟩) w12⟩) w10⟩) w8⟩) w6⟩) w4⟩) w2⟩) w0
def a54 : Ann := (.seq .no (.seq (.seq .no (.cond (.seq .no .no) .no)) (.seq .no .no)))
theorem F54_eq (x0 x1 x2 : Value) (R : Value → World → Prop) (w0 : World) : F54 x0 x1 x2 R w0 = vc Tryd.prog (bodyOf Tryd.f54) a54 (retQ Tryd.prog Tryd.f54 R) (envOf 0 [x0, x1, x2]) w0 := by kernel_rfl
theorem F54_calls (x0 x1 x2 : Value) (R : Value → World → Prop) (w0 : World) (h : F54 x0 x1 x2 R w0) : CallK Tryd.prog 54 #[x0, x1, x2] R w0 :=
  calls_vc (c := bodyOf Tryd.f54) Tryd.func54 (by kernel_rfl) (by kernel_rfl) a54 (by kernel_rfl) (by kernel_rfl) [x0, x1, x2] (by rw [Tryd.ntmps54]; exact Nat.le_of_ble_eq_true rfl) w0 R ((F54_eq x0 x1 x2 R w0).mp h)

/-- canton/value.number, its body as a formula. -/
def F56 (x0 : Value) (R : Value → World → Prop) (w0 : World) : Prop :=
  CallV Tryd.prog (.func (.func 68) #[] #[]) #[x0, (Go.Value.int Go.IntKind.i64 10), (Go.Value.int Go.IntKind.i64 64)] (@hid _ ⟨fun t8_1 w2 =>
  ExtractK Tryd.prog t8_1 0 (@hid _ ⟨fun t9_3 w4 =>
  ExtractK Tryd.prog t8_1 1 (@hid _ ⟨fun t10_5 w6 =>
  BinNK Tryd.prog Go.BinOp.eql 88 t10_5 (@hid _ ⟨fun t13_7 w8 =>
  GuardK t13_7 true (fun k w => k t9_3 w) (@hid _ ⟨fun t15_9 w10 =>
  GuardK t13_7 true (fun k w => CallV Tryd.prog (.func (.func 39) #[] #[]) #[t15_9, (Go.Value.int Go.IntKind.i64 10)] k w) (@hid _ ⟨fun t16_11 w12 =>
  GuardK t13_7 true (fun k w => k x0 w) (@hid _ ⟨fun t17_13 w14 =>
  GuardK t13_7 true (fun k w => BinK Tryd.prog Go.BinOp.eql 9 t16_11 t17_13 k w) (@hid _ ⟨fun t18_15 w16 =>
  PickK Tryd.prog t13_7 t18_15 (Go.Value.bool false) (@hid _ ⟨fun t19_17 w18 =>
  R (.tuple #[t9_3, t19_17]) w18⟩) w16⟩) w14⟩) w12⟩) w10⟩) w8⟩) w6⟩) w4⟩) w2⟩) w0
def a56 : Ann := (.seq .no (.seq .no (.seq .no .no)))
theorem F56_eq (x0 : Value) (R : Value → World → Prop) (w0 : World) : F56 x0 R w0 = vc Tryd.prog (bodyOf Tryd.f56) a56 (retQ Tryd.prog Tryd.f56 R) (envOf 0 [x0]) w0 := by kernel_rfl
theorem F56_calls (x0 : Value) (R : Value → World → Prop) (w0 : World) (h : F56 x0 R w0) : CallK Tryd.prog 56 #[x0] R w0 :=
  calls_vc (c := bodyOf Tryd.f56) Tryd.func56 (by kernel_rfl) (by kernel_rfl) a56 (by kernel_rfl) (by kernel_rfl) [x0] (by rw [Tryd.ntmps56]; exact Nat.le_of_ble_eq_true rfl) w0 R ((F56_eq x0 R w0).mp h)

/-- slices.Clip[[]int64,int64], its body as a formula. -/
def F57 (x0 : Value) (R : Value → World → Prop) (w0 : World) : Prop :=
  BuiltinK Tryd.prog Go.Builtin.len #[22] 3 #[false] #[x0] (@hid _ ⟨fun t5_1 w2 =>
  BuiltinK Tryd.prog Go.Builtin.len #[22] 3 #[false] #[x0] (@hid _ ⟨fun t7_3 w4 =>
  SliceK Tryd.prog 22 x0 none (some t5_1) (some t7_3) (@hid _ ⟨fun t8_5 w6 =>
  R t8_5 w6⟩) w4⟩) w2⟩) w0
def a57 : Ann := (.seq .no (.seq .no .no))
theorem F57_eq (x0 : Value) (R : Value → World → Prop) (w0 : World) : F57 x0 R w0 = vc Tryd.prog (bodyOf Tryd.f57) a57 (retQ Tryd.prog Tryd.f57 R) (envOf 0 [x0]) w0 := by kernel_rfl
theorem F57_calls (x0 : Value) (R : Value → World → Prop) (w0 : World) (h : F57 x0 R w0) : CallK Tryd.prog 57 #[x0] R w0 :=
  calls_vc (c := bodyOf Tryd.f57) Tryd.func57 (by kernel_rfl) (by kernel_rfl) a57 (by kernel_rfl) (by kernel_rfl) [x0] (by rw [Tryd.ntmps57]; exact Nat.le_of_ble_eq_true rfl) w0 R ((F57_eq x0 R w0).mp h)

/-- (*strings.Builder).WriteString, its body as a formula. -/
def F63 (x0 x1 : Value) (R : Value → World → Prop) (w0 : World) : Prop :=
  CallV Tryd.prog (.func (.func 74) #[] #[]) #[x0] (@hid _ ⟨fun t7_1 w2 =>
  NilK Tryd.prog x0 (@hid _ ⟨fun t10_3 w4 =>
  FieldAtK Tryd.prog 85 t10_3 1 (@hid _ ⟨fun t11_5 w6 =>
  LoadK Tryd.prog 71 t11_5 (@hid _ ⟨fun t12_7 w8 =>
  BuiltinK Tryd.prog Go.Builtin.append #[71, 9] 71 #[false, false] #[t12_7, x1] (@hid _ ⟨fun t14_9 w10 =>
  NilK Tryd.prog x0 (@hid _ ⟨fun t15_11 w12 =>
  FieldAtK Tryd.prog 85 t15_11 1 (@hid _ ⟨fun t16_13 w14 =>
  StoreK Tryd.prog 71 t16_13 t14_9 (@hid _ ⟨fun tu_15 w16 =>
  BuiltinK Tryd.prog Go.Builtin.len #[9] 3 #[false] #[x1] (@hid _ ⟨fun t18_17 w18 =>
  R (.tuple #[t18_17, Go.Value.nilIface]) w18⟩) w16⟩) w14⟩) w12⟩) w10⟩) w8⟩) w6⟩) w4⟩) w2⟩) w0
def a63 : Ann := (.seq .no (.seq .no (.seq .no (.seq .no .no))))
theorem F63_eq (x0 x1 : Value) (R : Value → World → Prop) (w0 : World) : F63 x0 x1 R w0 = vc Tryd.prog (bodyOf Tryd.f63) a63 (retQ Tryd.prog Tryd.f63 R) (envOf 0 [x0, x1]) w0 := by kernel_rfl
theorem F63_calls (x0 x1 : Value) (R : Value → World → Prop) (w0 : World) (h : F63 x0 x1 R w0) : CallK Tryd.prog 63 #[x0, x1] R w0 :=
  calls_vc (c := bodyOf Tryd.f63) Tryd.func63 (by kernel_rfl) (by kernel_rfl) a63 (by kernel_rfl) (by kernel_rfl) [x0, x1] (by rw [Tryd.ntmps63]; exact Nat.le_of_ble_eq_true rfl) w0 R ((F63_eq x0 x1 R w0).mp h)

end Go.Proofs.YtdnlenngbaaeaaaDoor