import Derived.Test.YtbkficgmjgbbeaaDoorRows
import Derived.Test.YtbkficgmjgbbeaaDoorV3
set_option linter.unusedVariables false
set_option linter.unusedSimpArgs false
set_option maxRecDepth 100000
namespace Go.Proofs.YtbkficgmjgbbeaaDoor
open Go.RowKit Go.Cn
theorem klen22 (A : Option Addr) (n c : Nat) (K : Value → World → Prop) (w : World) : BuiltinK Tryd.prog .len #[22] 3 #[false] #[(.slice A n c)] K w = K (.int .i64 (n : Int)) w := by
  unfold BuiltinK; (first | (go_simp; rfl) | (go_simp; done))

theorem hlen22 (A : Option Addr) (n c : Nat) {K : Value → Prop} {w1 : World} : TakeO Tryd.prog (fun w' => w' = w1) (builtin .len #[22] 3 #[false] #[(.slice A n c)]) K = K (.int .i64 (n : Int)) := by
  exact here_o (fun w => by (first | (go_simp; rfl) | (go_simp; done)))

theorem kbgtr3 (x y : Int) (K : Value → World → Prop) (w : World) : BinK Tryd.prog .gtr 3 (.int .i64 x) (.int .i64 y) K w = K (.bool (decide (y < x))) w := by
  unfold BinK; (first | (go_simp; rfl) | (go_simp; done))

theorem klen9 (s : ByteArray) (K : Value → World → Prop) (w : World) : BuiltinK Tryd.prog .len #[9] 3 #[false] #[(.string s)] K w = K (.int .i64 (s.size : Int)) w := by
  unfold BuiltinK; (first | (go_simp; rfl) | (go_simp; done))

theorem hlen9 (s : ByteArray) {K : Value → Prop} {w1 : World} : TakeO Tryd.prog (fun w' => w' = w1) (builtin .len #[9] 3 #[false] #[(.string s)]) K = K (.int .i64 (s.size : Int)) := by
  exact here_o (fun w => by (first | (go_simp; rfl) | (go_simp; done)))

theorem kblss3 (x y : Int) (K : Value → World → Prop) (w : World) : BinK Tryd.prog .lss 3 (.int .i64 x) (.int .i64 y) K w = K (.bool (decide (x < y))) w := by
  unfold BinK; (first | (go_simp; rfl) | (go_simp; done))

theorem kia22 (g o n c : Nat) (i : Int) (h : 0 ≤ i ∧ i < (n : Int)) (K : Value → World → Prop) (w : World) : IndexAtK Tryd.prog 22 (.slice (some ⟨g, o, none⟩) n c) (.int .i64 i) K w = K (.pointer (some ⟨g, o + i.toNat * 6, none⟩)) w := by
  obtain ⟨h0, h1⟩ := h
  unfold IndexAtK; (first | (go_simp; rfl) | (go_simp; done))

theorem kld30 (g o : Nat) (K : Value → World → Prop) (w : World) : LoadK Tryd.prog 30 (.pointer (some ⟨g, o, none⟩)) K w = OptK (w.cell? ⟨g, o, none⟩) (@hid _ ⟨fun v0 => OptK (w.cell? ⟨g, o + 1, none⟩) (@hid _ ⟨fun v1 => OptK (w.cell? ⟨g, o + 2, none⟩) (@hid _ ⟨fun v2 => OptK (w.cell? ⟨g, o + 3, none⟩) (@hid _ ⟨fun v3 => OptK (w.cell? ⟨g, o + 4, none⟩) (@hid _ ⟨fun v4 => OptK (w.cell? ⟨g, o + 5, none⟩) (@hid _ ⟨fun v5 => K (.agg #[v0, v1, v2, v3, v4, v5]) w⟩) (LoadRaw Tryd.prog 30 ⟨g, o, none⟩ K w)⟩) (LoadRaw Tryd.prog 30 ⟨g, o, none⟩ K w)⟩) (LoadRaw Tryd.prog 30 ⟨g, o, none⟩ K w)⟩) (LoadRaw Tryd.prog 30 ⟨g, o, none⟩ K w)⟩) (LoadRaw Tryd.prog 30 ⟨g, o, none⟩ K w)⟩) (LoadRaw Tryd.prog 30 ⟨g, o, none⟩ K w) := by
  cases h0 : w.cell? ⟨g, o, none⟩ with
  | none => rfl
  | some v0 =>
  cases h1 : w.cell? ⟨g, o + 1, none⟩ with
  | none => rfl
  | some v1 =>
  cases h2 : w.cell? ⟨g, o + 2, none⟩ with
  | none => rfl
  | some v2 =>
  cases h3 : w.cell? ⟨g, o + 3, none⟩ with
  | none => rfl
  | some v3 =>
  cases h4 : w.cell? ⟨g, o + 4, none⟩ with
  | none => rfl
  | some v4 =>
  cases h5 : w.cell? ⟨g, o + 5, none⟩ with
  | none => rfl
  | some v5 =>
  simp only [optK_some]
  unfold LoadK; (first | (go_simp; rfl) | (go_simp; done))

theorem kal30 (K : Value → World → Prop) (w : World) : AllocK Tryd.prog 30 K w = K (.pointer (some ⟨w.heap.size, 0, none⟩)) (w.alloc (.cells #[.int .i64 0, .string ByteArray.empty, .int .i64 0, .int .i64 0, .int .i64 0, .int .i64 0] 30)) := by
  unfold AllocK; (first | (go_simp; rfl) | (go_simp; done))

theorem kst30f (v_0 : Int) (v_1_0 : ByteArray) (v_1_1 : Int) (v_1_2 : Int) (v_2 : Int) (v_3 : Int) (z0 z1 z2 z3 z4 z5 : Value) (K : Value → World → Prop) (w : World) : StoreK Tryd.prog 30 (.pointer (some ⟨w.heap.size, 0, none⟩)) (.agg #[(.int .i64 v_0), (.string v_1_0), (.int .i64 v_1_1), (.int .i64 v_1_2), (.int .i64 v_2), (.int .i64 v_3)]) K (w.alloc (.cells #[z0, z1, z2, z3, z4, z5] 30)) = K undef (w.alloc (.cells #[(.int .i64 v_0), (.string v_1_0), (.int .i64 v_1_1), (.int .i64 v_1_2), (.int .i64 v_2), (.int .i64 v_3)] 30)) := by
  unfold StoreK; (first | (go_simp; rfl) | (go_simp; done))

theorem kfa30_1 (g o : Nat) (K : Value → World → Prop) (w : World) : FieldAtK Tryd.prog 30 (.pointer (some ⟨g, o, none⟩)) 1 K w = K (.pointer (some ⟨g, o + 1, none⟩)) w := by
  unfold FieldAtK; (first | (go_simp; rfl) | (go_simp; done))

theorem kfa28_0 (g o : Nat) (K : Value → World → Prop) (w : World) : FieldAtK Tryd.prog 28 (.pointer (some ⟨g, o, none⟩)) 0 K w = K (.pointer (some ⟨g, o, none⟩)) w := by
  unfold FieldAtK; (first | (go_simp; rfl) | (go_simp; done))

theorem kld9 (a : Addr) (K : Value → World → Prop) (w : World) : LoadK Tryd.prog 9 (.pointer (some a)) K w = OptK (w.cell? a) (@hid _ ⟨fun v => K v w⟩) (LoadRaw Tryd.prog 9 a K w) := by
  exact loadK_eq Tryd.underlying9 rfl a K w

theorem kfa30_2 (g o : Nat) (K : Value → World → Prop) (w : World) : FieldAtK Tryd.prog 30 (.pointer (some ⟨g, o, none⟩)) 2 K w = K (.pointer (some ⟨g, o + 4, none⟩)) w := by
  unfold FieldAtK; (first | (go_simp; rfl) | (go_simp; done))

theorem kld2 (a : Addr) (K : Value → World → Prop) (w : World) : LoadK Tryd.prog 2 (.pointer (some a)) K w = OptK (w.cell? a) (@hid _ ⟨fun v => K v w⟩) (LoadRaw Tryd.prog 2 a K w) := by
  exact loadK_eq Tryd.underlying2 rfl a K w

theorem kbgtr2 (x y : Int) (K : Value → World → Prop) (w : World) : BinK Tryd.prog .gtr 2 (.int .i64 x) (.int .i64 y) K w = K (.bool (decide (y < x))) w := by
  unfold BinK; (first | (go_simp; rfl) | (go_simp; done))

theorem kfa30_3 (g o : Nat) (K : Value → World → Prop) (w : World) : FieldAtK Tryd.prog 30 (.pointer (some ⟨g, o, none⟩)) 3 K w = K (.pointer (some ⟨g, o + 5, none⟩)) w := by
  unfold FieldAtK; (first | (go_simp; rfl) | (go_simp; done))

theorem kfa30_0 (g o : Nat) (K : Value → World → Prop) (w : World) : FieldAtK Tryd.prog 30 (.pointer (some ⟨g, o, none⟩)) 0 K w = K (.pointer (some ⟨g, o, none⟩)) w := by
  unfold FieldAtK; (first | (go_simp; rfl) | (go_simp; done))

theorem kld3 (a : Addr) (K : Value → World → Prop) (w : World) : LoadK Tryd.prog 3 (.pointer (some a)) K w = OptK (w.cell? a) (@hid _ ⟨fun v => K v w⟩) (LoadRaw Tryd.prog 3 a K w) := by
  exact loadK_eq Tryd.underlying3 rfl a K w

theorem kbeql3 (x y : Int) (K : Value → World → Prop) (w : World) : BinK Tryd.prog .eql 3 (.int .i64 x) (.int .i64 y) K w = K (.bool (x == y)) w := by
  unfold BinK; (first | (go_simp; rfl) | (go_simp; done))

theorem kld28 (g o : Nat) (K : Value → World → Prop) (w : World) : LoadK Tryd.prog 28 (.pointer (some ⟨g, o, none⟩)) K w = OptK (w.cell? ⟨g, o, none⟩) (@hid _ ⟨fun v0 => OptK (w.cell? ⟨g, o + 1, none⟩) (@hid _ ⟨fun v1 => OptK (w.cell? ⟨g, o + 2, none⟩) (@hid _ ⟨fun v2 => K (.agg #[v0, v1, v2]) w⟩) (LoadRaw Tryd.prog 28 ⟨g, o, none⟩ K w)⟩) (LoadRaw Tryd.prog 28 ⟨g, o, none⟩ K w)⟩) (LoadRaw Tryd.prog 28 ⟨g, o, none⟩ K w) := by
  cases h0 : w.cell? ⟨g, o, none⟩ with
  | none => rfl
  | some v0 =>
  cases h1 : w.cell? ⟨g, o + 1, none⟩ with
  | none => rfl
  | some v1 =>
  cases h2 : w.cell? ⟨g, o + 2, none⟩ with
  | none => rfl
  | some v2 =>
  simp only [optK_some]
  unfold LoadK; (first | (go_simp; rfl) | (go_simp; done))

theorem kbs35_1_0 (v0_0 : ByteArray) (v0_1 : Int) (v0_2 : Int) (K : Value → World → Prop) (w : World) : BuildSliceK Tryd.prog 35 1 #[(0, .agg #[(.string v0_0), (.int .i64 v0_1), (.int .i64 v0_2)])] K w = K (.slice (some ⟨w.heap.size, 0, none⟩) 1 1) (w.alloc (.cells #[(.string v0_0), (.int .i64 v0_1), (.int .i64 v0_2)] 28)) := by
  unfold BuildSliceK; (first | (go_simp; rfl) | (go_simp; done))

theorem kia26 (g o n c : Nat) (i : Int) (h : 0 ≤ i ∧ i < (n : Int)) (K : Value → World → Prop) (w : World) : IndexAtK Tryd.prog 26 (.slice (some ⟨g, o, none⟩) n c) (.int .i64 i) K w = K (.pointer (some ⟨g, o + i.toNat * 3, none⟩)) w := by
  obtain ⟨h0, h1⟩ := h
  unfold IndexAtK; (first | (go_simp; rfl) | (go_simp; done))

theorem kld33 (g o : Nat) (K : Value → World → Prop) (w : World) : LoadK Tryd.prog 33 (.pointer (some ⟨g, o, none⟩)) K w = OptK (w.cell? ⟨g, o, none⟩) (@hid _ ⟨fun v0 => OptK (w.cell? ⟨g, o + 1, none⟩) (@hid _ ⟨fun v1 => OptK (w.cell? ⟨g, o + 2, none⟩) (@hid _ ⟨fun v2 => K (.agg #[v0, v1, v2]) w⟩) (LoadRaw Tryd.prog 33 ⟨g, o, none⟩ K w)⟩) (LoadRaw Tryd.prog 33 ⟨g, o, none⟩ K w)⟩) (LoadRaw Tryd.prog 33 ⟨g, o, none⟩ K w) := by
  cases h0 : w.cell? ⟨g, o, none⟩ with
  | none => rfl
  | some v0 =>
  cases h1 : w.cell? ⟨g, o + 1, none⟩ with
  | none => rfl
  | some v1 =>
  cases h2 : w.cell? ⟨g, o + 2, none⟩ with
  | none => rfl
  | some v2 =>
  simp only [optK_some]
  unfold LoadK; (first | (go_simp; rfl) | (go_simp; done))

theorem kbneq3 (x y : Int) (K : Value → World → Prop) (w : World) : BinK Tryd.prog .neq 3 (.int .i64 x) (.int .i64 y) K w = K (.bool (x != y)) w := by
  unfold BinK; (first | (go_simp; rfl) | (go_simp; done))

theorem kal28 (K : Value → World → Prop) (w : World) : AllocK Tryd.prog 28 K w = K (.pointer (some ⟨w.heap.size, 0, none⟩)) (w.alloc (.cells #[.string ByteArray.empty, .int .i64 0, .int .i64 0] 28)) := by
  unfold AllocK; (first | (go_simp; rfl) | (go_simp; done))

theorem kst28f (v_0 : ByteArray) (v_1 : Int) (v_2 : Int) (z0 z1 z2 : Value) (K : Value → World → Prop) (w : World) : StoreK Tryd.prog 28 (.pointer (some ⟨w.heap.size, 0, none⟩)) (.agg #[(.string v_0), (.int .i64 v_1), (.int .i64 v_2)]) K (w.alloc (.cells #[z0, z1, z2] 28)) = K undef (w.alloc (.cells #[(.string v_0), (.int .i64 v_1), (.int .i64 v_2)] 28)) := by
  unfold StoreK; (first | (go_simp; rfl) | (go_simp; done))

theorem klen26 (A : Option Addr) (n c : Nat) (K : Value → World → Prop) (w : World) : BuiltinK Tryd.prog .len #[26] 3 #[false] #[(.slice A n c)] K w = K (.int .i64 (n : Int)) w := by
  unfold BuiltinK; (first | (go_simp; rfl) | (go_simp; done))

theorem hlen26 (A : Option Addr) (n c : Nat) {K : Value → Prop} {w1 : World} : TakeO Tryd.prog (fun w' => w' = w1) (builtin .len #[26] 3 #[false] #[(.slice A n c)]) K = K (.int .i64 (n : Int)) := by
  exact here_o (fun w => by (first | (go_simp; rfl) | (go_simp; done)))

theorem kfa33_0 (g o : Nat) (K : Value → World → Prop) (w : World) : FieldAtK Tryd.prog 33 (.pointer (some ⟨g, o, none⟩)) 0 K w = K (.pointer (some ⟨g, o, none⟩)) w := by
  unfold FieldAtK; (first | (go_simp; rfl) | (go_simp; done))

theorem kbneq9 (x y : ByteArray) (K : Value → World → Prop) (w : World) : BinK Tryd.prog .neq 9 (.string x) (.string y) K w = K (.bool (!(x.toList == y.toList))) w := by
  unfold BinK; (first | (go_simp; rfl) | (go_simp; done))

theorem kbs26_1_0 (v0_0 : ByteArray) (v0_1 : Int) (v0_2 : Int) (K : Value → World → Prop) (w : World) : BuildSliceK Tryd.prog 26 1 #[(0, .agg #[(.string v0_0), (.int .i64 v0_1), (.int .i64 v0_2)])] K w = K (.slice (some ⟨w.heap.size, 0, none⟩) 1 1) (w.alloc (.cells #[(.string v0_0), (.int .i64 v0_1), (.int .i64 v0_2)] 33)) := by
  unfold BuildSliceK; (first | (go_simp; rfl) | (go_simp; done))

theorem kbadd3 (x y : Int) (K : Value → World → Prop) (w : World) : BinK Tryd.prog .add 3 (.int .i64 x) (.int .i64 y) K w = K (.int .i64 (IntKind.i64.wrap (x + y))) w := by
  unfold BinK; (first | (go_simp; rfl) | (go_simp; done))

theorem kbneq4 (x y : Bool) (K : Value → World → Prop) (w : World) : BinK Tryd.prog .neq 4 (.bool x) (.bool y) K w = K (.bool (x != y)) w := by
  cases x <;> cases y <;> (unfold BinK; (first | (go_simp; rfl) | (go_simp; done)))

theorem kbeql24n (a : Addr) (K : Value → World → Prop) (w : World) : BinK Tryd.prog .eql 24 (.pointer (some a)) (.pointer none) K w = K (.bool false) w := by
  unfold BinK; (first | (go_simp; rfl) | (go_simp; done))

theorem kbx28 (v_0 : ByteArray) (v_1 : Int) (v_2 : Int) (K : Value → World → Prop) (w : World) : BoxK Tryd.prog 28 (.agg #[(.string v_0), (.int .i64 v_1), (.int .i64 v_2)]) K w = K (.pointer (some ⟨w.heap.size, 0, none⟩)) (w.alloc (.cells #[(.string v_0), (.int .i64 v_1), (.int .i64 v_2)] 28)) := by
  unfold BoxK; (first | (go_simp; rfl) | (go_simp; done))

theorem kbs35_2_0_1 (v0_0 : ByteArray) (v0_1 : Int) (v0_2 : Int) (v1_0 : ByteArray) (v1_1 : Int) (v1_2 : Int) (K : Value → World → Prop) (w : World) : BuildSliceK Tryd.prog 35 2 #[(0, .agg #[(.string v0_0), (.int .i64 v0_1), (.int .i64 v0_2)]), (1, .agg #[(.string v1_0), (.int .i64 v1_1), (.int .i64 v1_2)])] K w = K (.slice (some ⟨w.heap.size, 0, none⟩) 2 2) (w.alloc (.cells #[(.string v0_0), (.int .i64 v0_1), (.int .i64 v0_2), (.string v1_0), (.int .i64 v1_1), (.int .i64 v1_2)] 28)) := by
  unfold BuildSliceK; (first | (go_simp; rfl) | (go_simp; done))

theorem kbeql4 (x y : Bool) (K : Value → World → Prop) (w : World) : BinK Tryd.prog .eql 4 (.bool x) (.bool y) K w = K (.bool (x == y)) w := by
  cases x <;> cases y <;> (unfold BinK; (first | (go_simp; rfl) | (go_simp; done)))

theorem kbrem5 (x y : Int) (h : 0 ≤ x ∧ 1 ≤ y ∧ x ≤ 255) (K : Value → World → Prop) (w : World) : BinK Tryd.prog .rem 5 (.int .u8 x) (.int .u8 y) K w = K (.int .u8 (x % y)) w := by
  obtain ⟨h0, h1, h2⟩ := h
  have h3 : ¬ y = 0 := by omega
  have h4 : x.tmod y = x % y := Int.tmod_eq_emod_of_nonneg h0
  have h5 : x.tdiv y = x / y := Int.tdiv_eq_ediv_of_nonneg h0
  have h6 : 0 ≤ x / y := Int.ediv_nonneg h0 (by omega)
  have h7 : x / y ≤ x := Int.ediv_le_self y h0
  unfold BinK; (first | (go_simp; rw [wrap_in (by omega)]; exact Iff.rfl) | (go_simp; rfl) | (go_simp; done))

theorem kcv5_3 (x : Int) (K : Value → World → Prop) (w : World) : ConvK Tryd.prog 5 3 (.int .u8 x) K w = K (.int .i64 (IntKind.i64.wrap x)) w := by
  unfold ConvK; (first | (go_simp; rfl) | (go_simp; done))

theorem kbd28_0_2 (v0 : ByteArray) (v2 : Int) (K : Value → World → Prop) (w : World) : BuildK Tryd.prog 28 #[(0, (.string v0)), (2, (.int .i64 v2))] K w = K (.agg #[(.string v0), .int .i64 0, (.int .i64 v2)]) w := by
  unfold BuildK; (first | (go_simp; rfl) | (go_simp; done))

theorem kbgeq3 (x y : Int) (K : Value → World → Prop) (w : World) : BinK Tryd.prog .geq 3 (.int .i64 x) (.int .i64 y) K w = K (.bool (decide (y ≤ x))) w := by
  unfold BinK; (first | (go_simp; rfl) | (go_simp; done))

theorem kbd28_0 (v0 : ByteArray) (K : Value → World → Prop) (w : World) : BuildK Tryd.prog 28 #[(0, (.string v0))] K w = K (.agg #[(.string v0), .int .i64 0, .int .i64 0]) w := by
  unfold BuildK; (first | (go_simp; rfl) | (go_simp; done))

theorem klen35 (A : Option Addr) (n c : Nat) (K : Value → World → Prop) (w : World) : BuiltinK Tryd.prog .len #[35] 3 #[false] #[(.slice A n c)] K w = K (.int .i64 (n : Int)) w := by
  unfold BuiltinK; (first | (go_simp; rfl) | (go_simp; done))

theorem hlen35 (A : Option Addr) (n c : Nat) {K : Value → Prop} {w1 : World} : TakeO Tryd.prog (fun w' => w' = w1) (builtin .len #[35] 3 #[false] #[(.slice A n c)]) K = K (.int .i64 (n : Int)) := by
  exact here_o (fun w => by (first | (go_simp; rfl) | (go_simp; done)))

theorem klen41 (A : Option Addr) (n c : Nat) (K : Value → World → Prop) (w : World) : BuiltinK Tryd.prog .len #[41] 3 #[false] #[(.slice A n c)] K w = K (.int .i64 (n : Int)) w := by
  unfold BuiltinK; (first | (go_simp; rfl) | (go_simp; done))

theorem hlen41 (A : Option Addr) (n c : Nat) {K : Value → Prop} {w1 : World} : TakeO Tryd.prog (fun w' => w' = w1) (builtin .len #[41] 3 #[false] #[(.slice A n c)]) K = K (.int .i64 (n : Int)) := by
  exact here_o (fun w => by (first | (go_simp; rfl) | (go_simp; done)))

theorem kbd28_  (K : Value → World → Prop) (w : World) : BuildK Tryd.prog 28 #[] K w = K (.agg #[.string ByteArray.empty, .int .i64 0, .int .i64 0]) w := by
  unfold BuildK; (first | (go_simp; rfl) | (go_simp; done))

theorem kia35 (g o n c : Nat) (i : Int) (h : 0 ≤ i ∧ i < (n : Int)) (K : Value → World → Prop) (w : World) : IndexAtK Tryd.prog 35 (.slice (some ⟨g, o, none⟩) n c) (.int .i64 i) K w = K (.pointer (some ⟨g, o + i.toNat * 3, none⟩)) w := by
  obtain ⟨h0, h1⟩ := h
  unfold IndexAtK; (first | (go_simp; rfl) | (go_simp; done))

theorem kst9 (g o : Nat) (v : ByteArray) (K : Value → World → Prop) (w : World) : StoreK Tryd.prog 9 (.pointer (some ⟨g, o, none⟩)) (.string v) K w = OptK (w.cell? ⟨g, o, none⟩) (@hid _ ⟨fun _ => FzK (w.frozen? ⟨g, o, none⟩) (@hid _ ⟨K undef (w.setCell ⟨g, o, none⟩ (.string v))⟩) (StoreRaw Tryd.prog 9 ⟨g, o, none⟩ (.string v) K w)⟩) (StoreRaw Tryd.prog 9 ⟨g, o, none⟩ (.string v) K w) := by
  cases h0 : w.cell? ⟨g, o, none⟩ with
  | none => rfl
  | some x =>
  cases f0 : w.frozen? ⟨g, o, none⟩ with
  | true => rfl
  | false =>
  simp only [optK_some, fzK_false]
  unfold StoreK; (first | (go_simp; rfl) | (go_simp; done))

theorem kfa28_1 (g o : Nat) (K : Value → World → Prop) (w : World) : FieldAtK Tryd.prog 28 (.pointer (some ⟨g, o, none⟩)) 1 K w = K (.pointer (some ⟨g, o + 1, none⟩)) w := by
  unfold FieldAtK; (first | (go_simp; rfl) | (go_simp; done))

theorem kblss2 (x y : Int) (K : Value → World → Prop) (w : World) : BinK Tryd.prog .lss 2 (.int .i64 x) (.int .i64 y) K w = K (.bool (decide (x < y))) w := by
  unfold BinK; (first | (go_simp; rfl) | (go_simp; done))

theorem kfa28_2 (g o : Nat) (K : Value → World → Prop) (w : World) : FieldAtK Tryd.prog 28 (.pointer (some ⟨g, o, none⟩)) 2 K w = K (.pointer (some ⟨g, o + 2, none⟩)) w := by
  unfold FieldAtK; (first | (go_simp; rfl) | (go_simp; done))

theorem kbrem3 (x y : Int) (h : 0 ≤ x ∧ 1 ≤ y ∧ x ≤ 9223372036854775807) (K : Value → World → Prop) (w : World) : BinK Tryd.prog .rem 3 (.int .i64 x) (.int .i64 y) K w = K (.int .i64 (x % y)) w := by
  obtain ⟨h0, h1, h2⟩ := h
  have h3 : ¬ y = 0 := by omega
  have h4 : x.tmod y = x % y := Int.tmod_eq_emod_of_nonneg h0
  have h5 : x.tdiv y = x / y := Int.tdiv_eq_ediv_of_nonneg h0
  have h6 : 0 ≤ x / y := Int.ediv_nonneg h0 (by omega)
  have h7 : x / y ≤ x := Int.ediv_le_self y h0
  unfold BinK; (first | (go_simp; rw [wrap_in (by omega)]; exact Iff.rfl) | (go_simp; rfl) | (go_simp; done))

theorem kbd28_0_1_2 (v0 : ByteArray) (v1 : Int) (v2 : Int) (K : Value → World → Prop) (w : World) : BuildK Tryd.prog 28 #[(0, (.string v0)), (1, (.int .i64 v1)), (2, (.int .i64 v2))] K w = K (.agg #[(.string v0), (.int .i64 v1), (.int .i64 v2)]) w := by
  unfold BuildK; (first | (go_simp; rfl) | (go_simp; done))

theorem kbeql2 (x y : Int) (K : Value → World → Prop) (w : World) : BinK Tryd.prog .eql 2 (.int .i64 x) (.int .i64 y) K w = K (.bool (x == y)) w := by
  unfold BinK; (first | (go_simp; rfl) | (go_simp; done))

theorem kia41 (g o n c : Nat) (i : Int) (h : 0 ≤ i ∧ i < (n : Int)) (K : Value → World → Prop) (w : World) : IndexAtK Tryd.prog 41 (.slice (some ⟨g, o, none⟩) n c) (.int .i64 i) K w = K (.pointer (some ⟨g, o + i.toNat, none⟩)) w := by
  obtain ⟨h0, h1⟩ := h
  unfold IndexAtK; (first | (go_simp; rfl) | (go_simp; done))

theorem kbeql9 (x y : ByteArray) (K : Value → World → Prop) (w : World) : BinK Tryd.prog .eql 9 (.string x) (.string y) K w = K (.bool (x.toList == y.toList)) w := by
  unfold BinK; (first | (go_simp; rfl) | (go_simp; done))

theorem kbneq24n (a : Addr) (K : Value → World → Prop) (w : World) : BinK Tryd.prog .neq 24 (.pointer (some a)) (.pointer none) K w = K (.bool true) w := by
  unfold BinK; (first | (go_simp; rfl) | (go_simp; done))

theorem kbd28_1_2 (v1 : Int) (v2 : Int) (K : Value → World → Prop) (w : World) : BuildK Tryd.prog 28 #[(1, (.int .i64 v1)), (2, (.int .i64 v2))] K w = K (.agg #[.string ByteArray.empty, (.int .i64 v1), (.int .i64 v2)]) w := by
  unfold BuildK; (first | (go_simp; rfl) | (go_simp; done))

theorem kbd63_0 (v0 : Option Addr) (K : Value → World → Prop) (w : World) : BuildK Tryd.prog 63 #[(0, (.pointer v0))] K w = K (.agg #[(.pointer v0)]) w := by
  unfold BuildK; (first | (go_simp; rfl) | (go_simp; done))

theorem kbx63 (v_0 : Option Addr) (K : Value → World → Prop) (w : World) : BoxK Tryd.prog 63 (.agg #[(.pointer v_0)]) K w = K (.pointer (some ⟨w.heap.size, 0, none⟩)) (w.alloc (.cells #[(.pointer v_0)] 63)) := by
  unfold BoxK; (first | (go_simp; rfl) | (go_simp; done))

theorem kbx33 (v_0 : ByteArray) (v_1 : Int) (v_2 : Int) (K : Value → World → Prop) (w : World) : BoxK Tryd.prog 33 (.agg #[(.string v_0), (.int .i64 v_1), (.int .i64 v_2)]) K w = K (.pointer (some ⟨w.heap.size, 0, none⟩)) (w.alloc (.cells #[(.string v_0), (.int .i64 v_1), (.int .i64 v_2)] 33)) := by
  unfold BoxK; (first | (go_simp; rfl) | (go_simp; done))

theorem kblss9 (x y : ByteArray) (K : Value → World → Prop) (w : World) : BinK Tryd.prog .lss 9 (.string x) (.string y) K w = K (.bool (Op.bytesLess x.toList y.toList)) w := by
  unfold BinK; (first | (go_simp; rfl) | (go_simp; done))

theorem kbs26_0  (K : Value → World → Prop) (w : World) : BuildSliceK Tryd.prog 26 0 #[] K w = K (.slice (some ⟨w.heap.size, 0, none⟩) 0 0) (w.alloc (.cells #[] 33)) := by
  unfold BuildSliceK; (first | (go_simp; rfl) | (go_simp; done))

theorem ksl26_010z (K : Value → World → Prop) (w : World) : SliceK Tryd.prog 26 (.slice none 0 0) none (some (.int .i64 0)) none K w = K (.slice none 0 0) w := by
  unfold SliceK; (first | (go_simp; rfl) | (go_simp; done) | (go_simp; split <;> simp_all))

theorem ksl26_010 (g o n c : Nat) (h : Int) (hb : 0 ≤ h ∧ h ≤ (c : Int)) (K : Value → World → Prop) (w : World) : SliceK Tryd.prog 26 (.slice (some ⟨g, o, none⟩) n c) none (some (.int .i64 h)) none K w = K (.slice (some ⟨g, o, none⟩) h.toNat c) w := by
  obtain ⟨q0, q1⟩ := hb
  unfold SliceK; (first | (go_simp; rfl) | (go_simp; done) | (go_simp; split <;> simp_all))

theorem ksl26_100z (K : Value → World → Prop) (w : World) : SliceK Tryd.prog 26 (.slice none 0 0) (some (.int .i64 0)) none none K w = K (.slice none 0 0) w := by
  unfold SliceK; (first | (go_simp; rfl) | (go_simp; done) | (go_simp; split <;> simp_all))

theorem ksl26_100 (g o n c : Nat) (l : Int) (hb : 0 ≤ l ∧ l ≤ (n : Int)) (K : Value → World → Prop) (w : World) : SliceK Tryd.prog 26 (.slice (some ⟨g, o, none⟩) n c) (some (.int .i64 l)) none none K w = K (.slice (if c = l.toNat then some ⟨g, o, none⟩ else some ⟨g, o + l.toNat * 3, none⟩) (n - l.toNat) (c - l.toNat)) w := by
  obtain ⟨q0, q1⟩ := hb
  unfold SliceK; (first | (go_simp; rfl) | (go_simp; done) | (go_simp; split <;> simp_all))

theorem kbd33_0_1_2 (v0 : ByteArray) (v1 : Int) (v2 : Int) (K : Value → World → Prop) (w : World) : BuildK Tryd.prog 33 #[(0, (.string v0)), (1, (.int .i64 v1)), (2, (.int .i64 v2))] K w = K (.agg #[(.string v0), (.int .i64 v1), (.int .i64 v2)]) w := by
  unfold BuildK; (first | (go_simp; rfl) | (go_simp; done))

theorem kbneq36 (x y : Int) (K : Value → World → Prop) (w : World) : BinK Tryd.prog .neq 36 (.int .i64 x) (.int .i64 y) K w = K (.bool (x != y)) w := by
  unfold BinK; (first | (go_simp; rfl) | (go_simp; done))

theorem kfa63_0 (g o : Nat) (K : Value → World → Prop) (w : World) : FieldAtK Tryd.prog 63 (.pointer (some ⟨g, o, none⟩)) 0 K w = K (.pointer (some ⟨g, o, none⟩)) w := by
  unfold FieldAtK; (first | (go_simp; rfl) | (go_simp; done))

theorem kld60 (a : Addr) (K : Value → World → Prop) (w : World) : LoadK Tryd.prog 60 (.pointer (some a)) K w = OptK (w.cell? a) (@hid _ ⟨fun v => K v w⟩) (LoadRaw Tryd.prog 60 a K w) := by
  exact loadK_eq Tryd.underlying60 rfl a K w

theorem kfa33_2 (g o : Nat) (K : Value → World → Prop) (w : World) : FieldAtK Tryd.prog 33 (.pointer (some ⟨g, o, none⟩)) 2 K w = K (.pointer (some ⟨g, o + 2, none⟩)) w := by
  unfold FieldAtK; (first | (go_simp; rfl) | (go_simp; done))

theorem kbsub2 (x y : Int) (K : Value → World → Prop) (w : World) : BinK Tryd.prog .sub 2 (.int .i64 x) (.int .i64 y) K w = K (.int .i64 (IntKind.i64.wrap (x - y))) w := by
  unfold BinK; (first | (go_simp; rfl) | (go_simp; done))

theorem kbs41_1_0 (v0 : ByteArray) (K : Value → World → Prop) (w : World) : BuildSliceK Tryd.prog 41 1 #[(0, (.string v0))] K w = K (.slice (some ⟨w.heap.size, 0, none⟩) 1 1) (w.alloc (.cells #[(.string v0)] 9)) := by
  unfold BuildSliceK; (first | (go_simp; rfl) | (go_simp; done))

theorem kbs93_2_0_1 (v0 : Int) (v1 : Int) (K : Value → World → Prop) (w : World) : BuildSliceK Tryd.prog 93 2 #[(0, (.int .i64 v0)), (1, (.int .i64 v1))] K w = K (.slice (some ⟨w.heap.size, 0, none⟩) 2 2) (w.alloc (.cells #[(.int .i64 v0), (.int .i64 v1)] 3)) := by
  unfold BuildSliceK; (first | (go_simp; rfl) | (go_simp; done))

theorem kfa33_1 (g o : Nat) (K : Value → World → Prop) (w : World) : FieldAtK Tryd.prog 33 (.pointer (some ⟨g, o, none⟩)) 1 K w = K (.pointer (some ⟨g, o + 1, none⟩)) w := by
  unfold FieldAtK; (first | (go_simp; rfl) | (go_simp; done))

theorem kbneq2 (x y : Int) (K : Value → World → Prop) (w : World) : BinK Tryd.prog .neq 2 (.int .i64 x) (.int .i64 y) K w = K (.bool (x != y)) w := by
  unfold BinK; (first | (go_simp; rfl) | (go_simp; done))

theorem kbsub3 (x y : Int) (K : Value → World → Prop) (w : World) : BinK Tryd.prog .sub 3 (.int .i64 x) (.int .i64 y) K w = K (.int .i64 (IntKind.i64.wrap (x - y))) w := by
  unfold BinK; (first | (go_simp; rfl) | (go_simp; done))

theorem kbgeq9 (x y : ByteArray) (K : Value → World → Prop) (w : World) : BinK Tryd.prog .geq 9 (.string x) (.string y) K w = K (.bool (!(Op.bytesLess x.toList y.toList))) w := by
  unfold BinK; (first | (go_simp; rfl) | (go_simp; done))

theorem kbquo3 (x y : Int) (h : 0 ≤ x ∧ 1 ≤ y ∧ x ≤ 9223372036854775807) (K : Value → World → Prop) (w : World) : BinK Tryd.prog .quo 3 (.int .i64 x) (.int .i64 y) K w = K (.int .i64 (x / y)) w := by
  obtain ⟨h0, h1, h2⟩ := h
  have h3 : ¬ y = 0 := by omega
  have h4 : x.tmod y = x % y := Int.tmod_eq_emod_of_nonneg h0
  have h5 : x.tdiv y = x / y := Int.tdiv_eq_ediv_of_nonneg h0
  have h6 : 0 ≤ x / y := Int.ediv_nonneg h0 (by omega)
  have h7 : x / y ≤ x := Int.ediv_le_self y h0
  unfold BinK; (first | (go_simp; rw [wrap_in (by omega)]; exact Iff.rfl) | (go_simp; rfl) | (go_simp; done))

theorem kcv3_5 (x : Int) (K : Value → World → Prop) (w : World) : ConvK Tryd.prog 3 5 (.int .i64 x) K w = K (.int .u8 (IntKind.u8.wrap x)) w := by
  unfold ConvK; (first | (go_simp; rfl) | (go_simp; done))

theorem kbs75_2_0_1 (v0 : Int) (v1 : Int) (K : Value → World → Prop) (w : World) : BuildSliceK Tryd.prog 75 2 #[(0, (.int .u8 v0)), (1, (.int .u8 v1))] K w = K (.slice (some ⟨w.heap.size, 0, none⟩) 2 2) (w.alloc (.cells #[(.int .u8 v0), (.int .u8 v1)] 5)) := by
  unfold BuildSliceK; (first | (go_simp; rfl) | (go_simp; done))

theorem kbd78_  (K : Value → World → Prop) (w : World) : BuildK Tryd.prog 78 #[] K w = K (.agg #[.slice none 0 0]) w := by
  unfold BuildK; (first | (go_simp; rfl) | (go_simp; done))

theorem kbx78 (v_0A : Option Addr) (v_0n v_0c : Nat) (K : Value → World → Prop) (w : World) : BoxK Tryd.prog 78 (.agg #[(.slice v_0A v_0n v_0c)]) K w = K (.pointer (some ⟨w.heap.size, 0, none⟩)) (w.alloc (.cells #[(.slice v_0A v_0n v_0c)] 78)) := by
  unfold BoxK; (first | (go_simp; rfl) | (go_simp; done))

theorem kfa78_0 (g o : Nat) (K : Value → World → Prop) (w : World) : FieldAtK Tryd.prog 78 (.pointer (some ⟨g, o, none⟩)) 0 K w = K (.pointer (some ⟨g, o, none⟩)) w := by
  unfold FieldAtK; (first | (go_simp; rfl) | (go_simp; done))

theorem kld76 (a : Addr) (K : Value → World → Prop) (w : World) : LoadK Tryd.prog 76 (.pointer (some a)) K w = OptK (w.cell? a) (@hid _ ⟨fun v => K v w⟩) (LoadRaw Tryd.prog 76 a K w) := by
  exact loadK_eq Tryd.underlying76 rfl a K w

theorem kia76 (g o n c : Nat) (i : Int) (h : 0 ≤ i ∧ i < (n : Int)) (K : Value → World → Prop) (w : World) : IndexAtK Tryd.prog 76 (.slice (some ⟨g, o, none⟩) n c) (.int .i64 i) K w = K (.pointer (some ⟨g, o + i.toNat * 4, none⟩)) w := by
  obtain ⟨h0, h1⟩ := h
  unfold IndexAtK; (first | (go_simp; rfl) | (go_simp; done))

theorem kfa84_1 (g o : Nat) (K : Value → World → Prop) (w : World) : FieldAtK Tryd.prog 84 (.pointer (some ⟨g, o, none⟩)) 1 K w = K (.pointer (some ⟨g, o + 1, none⟩)) w := by
  unfold FieldAtK; (first | (go_simp; rfl) | (go_simp; done))

theorem klen76 (A : Option Addr) (n c : Nat) (K : Value → World → Prop) (w : World) : BuiltinK Tryd.prog .len #[76] 3 #[false] #[(.slice A n c)] K w = K (.int .i64 (n : Int)) w := by
  unfold BuiltinK; (first | (go_simp; rfl) | (go_simp; done))

theorem hlen76 (A : Option Addr) (n c : Nat) {K : Value → Prop} {w1 : World} : TakeO Tryd.prog (fun w' => w' = w1) (builtin .len #[76] 3 #[false] #[(.slice A n c)]) K = K (.int .i64 (n : Int)) := by
  exact here_o (fun w => by (first | (go_simp; rfl) | (go_simp; done)))

theorem kbd84_0_1 (v0 : ByteArray) (v1_0 : ByteArray) (v1_1 : Int) (v1_2 : Int) (K : Value → World → Prop) (w : World) : BuildK Tryd.prog 84 #[(0, (.string v0)), (1, .agg #[(.string v1_0), (.int .i64 v1_1), (.int .i64 v1_2)])] K w = K (.agg #[(.string v0), (.string v1_0), (.int .i64 v1_1), (.int .i64 v1_2)]) w := by
  unfold BuildK; (first | (go_simp; rfl) | (go_simp; done))

theorem kbs76_1_0 (v0_0 : ByteArray) (v0_1_0 : ByteArray) (v0_1_1 : Int) (v0_1_2 : Int) (K : Value → World → Prop) (w : World) : BuildSliceK Tryd.prog 76 1 #[(0, .agg #[(.string v0_0), (.string v0_1_0), (.int .i64 v0_1_1), (.int .i64 v0_1_2)])] K w = K (.slice (some ⟨w.heap.size, 0, none⟩) 1 1) (w.alloc (.cells #[(.string v0_0), (.string v0_1_0), (.int .i64 v0_1_1), (.int .i64 v0_1_2)] 84)) := by
  unfold BuildSliceK; (first | (go_simp; rfl) | (go_simp; done))

theorem kst76 (g o : Nat) (vA : Option Addr) (vn vc : Nat) (K : Value → World → Prop) (w : World) : StoreK Tryd.prog 76 (.pointer (some ⟨g, o, none⟩)) (.slice vA vn vc) K w = OptK (w.cell? ⟨g, o, none⟩) (@hid _ ⟨fun _ => FzK (w.frozen? ⟨g, o, none⟩) (@hid _ ⟨K undef (w.setCell ⟨g, o, none⟩ (.slice vA vn vc))⟩) (StoreRaw Tryd.prog 76 ⟨g, o, none⟩ (.slice vA vn vc) K w)⟩) (StoreRaw Tryd.prog 76 ⟨g, o, none⟩ (.slice vA vn vc) K w) := by
  cases h0 : w.cell? ⟨g, o, none⟩ with
  | none => rfl
  | some x =>
  cases f0 : w.frozen? ⟨g, o, none⟩ with
  | true => rfl
  | false =>
  simp only [optK_some, fzK_false]
  unfold StoreK; (first | (go_simp; rfl) | (go_simp; done))

theorem ksl41_011 (g o n c : Nat) (h m : Int) (hb : 0 ≤ h ∧ h ≤ m ∧ m ≤ (c : Int)) (K : Value → World → Prop) (w : World) : SliceK Tryd.prog 41 (.slice (some ⟨g, o, none⟩) n c) none (some (.int .i64 h)) (some (.int .i64 m)) K w = K (.slice (some ⟨g, o, none⟩) h.toNat m.toNat) w := by
  obtain ⟨q0, q1, q2⟩ := hb
  unfold SliceK; (first | (go_simp; rfl) | (go_simp; done) | (go_simp; split <;> simp_all))

theorem ksl41_011z (K : Value → World → Prop) (w : World) : SliceK Tryd.prog 41 (.slice none 0 0) none (some (.int .i64 0)) (some (.int .i64 0)) K w = K (.slice none 0 0) w := by
  unfold SliceK; (first | (go_simp; rfl) | (go_simp; done) | (go_simp; split <;> simp_all))

theorem kbd78_0 (v0A : Option Addr) (v0n v0c : Nat) (K : Value → World → Prop) (w : World) : BuildK Tryd.prog 78 #[(0, (.slice v0A v0n v0c))] K w = K (.agg #[(.slice v0A v0n v0c)]) w := by
  unfold BuildK; (first | (go_simp; rfl) | (go_simp; done))

theorem kal84 (K : Value → World → Prop) (w : World) : AllocK Tryd.prog 84 K w = K (.pointer (some ⟨w.heap.size, 0, none⟩)) (w.alloc (.cells #[.string ByteArray.empty, .string ByteArray.empty, .int .i64 0, .int .i64 0] 84)) := by
  unfold AllocK; (first | (go_simp; rfl) | (go_simp; done))

theorem kfa84_0 (g o : Nat) (K : Value → World → Prop) (w : World) : FieldAtK Tryd.prog 84 (.pointer (some ⟨g, o, none⟩)) 0 K w = K (.pointer (some ⟨g, o, none⟩)) w := by
  unfold FieldAtK; (first | (go_simp; rfl) | (go_simp; done))

theorem ksl35_011 (g o n c : Nat) (h m : Int) (hb : 0 ≤ h ∧ h ≤ m ∧ m ≤ (c : Int)) (K : Value → World → Prop) (w : World) : SliceK Tryd.prog 35 (.slice (some ⟨g, o, none⟩) n c) none (some (.int .i64 h)) (some (.int .i64 m)) K w = K (.slice (some ⟨g, o, none⟩) h.toNat m.toNat) w := by
  obtain ⟨q0, q1, q2⟩ := hb
  unfold SliceK; (first | (go_simp; rfl) | (go_simp; done) | (go_simp; split <;> simp_all))

theorem ksl35_011z (K : Value → World → Prop) (w : World) : SliceK Tryd.prog 35 (.slice none 0 0) none (some (.int .i64 0)) (some (.int .i64 0)) K w = K (.slice none 0 0) w := by
  unfold SliceK; (first | (go_simp; rfl) | (go_simp; done) | (go_simp; split <;> simp_all))

theorem kld84 (g o : Nat) (K : Value → World → Prop) (w : World) : LoadK Tryd.prog 84 (.pointer (some ⟨g, o, none⟩)) K w = OptK (w.cell? ⟨g, o, none⟩) (@hid _ ⟨fun v0 => OptK (w.cell? ⟨g, o + 1, none⟩) (@hid _ ⟨fun v1 => OptK (w.cell? ⟨g, o + 2, none⟩) (@hid _ ⟨fun v2 => OptK (w.cell? ⟨g, o + 3, none⟩) (@hid _ ⟨fun v3 => K (.agg #[v0, v1, v2, v3]) w⟩) (LoadRaw Tryd.prog 84 ⟨g, o, none⟩ K w)⟩) (LoadRaw Tryd.prog 84 ⟨g, o, none⟩ K w)⟩) (LoadRaw Tryd.prog 84 ⟨g, o, none⟩ K w)⟩) (LoadRaw Tryd.prog 84 ⟨g, o, none⟩ K w) := by
  cases h0 : w.cell? ⟨g, o, none⟩ with
  | none => rfl
  | some v0 =>
  cases h1 : w.cell? ⟨g, o + 1, none⟩ with
  | none => rfl
  | some v1 =>
  cases h2 : w.cell? ⟨g, o + 2, none⟩ with
  | none => rfl
  | some v2 =>
  cases h3 : w.cell? ⟨g, o + 3, none⟩ with
  | none => rfl
  | some v3 =>
  simp only [optK_some]
  unfold LoadK; (first | (go_simp; rfl) | (go_simp; done))

theorem kst84f (v_0 : ByteArray) (v_1_0 : ByteArray) (v_1_1 : Int) (v_1_2 : Int) (z0 z1 z2 z3 : Value) (K : Value → World → Prop) (w : World) : StoreK Tryd.prog 84 (.pointer (some ⟨w.heap.size, 0, none⟩)) (.agg #[(.string v_0), (.string v_1_0), (.int .i64 v_1_1), (.int .i64 v_1_2)]) K (w.alloc (.cells #[z0, z1, z2, z3] 84)) = K undef (w.alloc (.cells #[(.string v_0), (.string v_1_0), (.int .i64 v_1_1), (.int .i64 v_1_2)] 84)) := by
  unfold StoreK; (first | (go_simp; rfl) | (go_simp; done))

theorem kbeql36 (x y : Int) (K : Value → World → Prop) (w : World) : BinK Tryd.prog .eql 36 (.int .i64 x) (.int .i64 y) K w = K (.bool (x == y)) w := by
  unfold BinK; (first | (go_simp; rfl) | (go_simp; done))

theorem klen93 (A : Option Addr) (n c : Nat) (K : Value → World → Prop) (w : World) : BuiltinK Tryd.prog .len #[93] 3 #[false] #[(.slice A n c)] K w = K (.int .i64 (n : Int)) w := by
  unfold BuiltinK; (first | (go_simp; rfl) | (go_simp; done))

theorem hlen93 (A : Option Addr) (n c : Nat) {K : Value → Prop} {w1 : World} : TakeO Tryd.prog (fun w' => w' = w1) (builtin .len #[93] 3 #[false] #[(.slice A n c)]) K = K (.int .i64 (n : Int)) := by
  exact here_o (fun w => by (first | (go_simp; rfl) | (go_simp; done)))

theorem kia93 (g o n c : Nat) (i : Int) (h : 0 ≤ i ∧ i < (n : Int)) (K : Value → World → Prop) (w : World) : IndexAtK Tryd.prog 93 (.slice (some ⟨g, o, none⟩) n c) (.int .i64 i) K w = K (.pointer (some ⟨g, o + i.toNat, none⟩)) w := by
  obtain ⟨h0, h1⟩ := h
  unfold IndexAtK; (first | (go_simp; rfl) | (go_simp; done))

theorem kbgeq2 (x y : Int) (K : Value → World → Prop) (w : World) : BinK Tryd.prog .geq 2 (.int .i64 x) (.int .i64 y) K w = K (.bool (decide (y ≤ x))) w := by
  unfold BinK; (first | (go_simp; rfl) | (go_simp; done))

theorem kbleq2 (x y : Int) (K : Value → World → Prop) (w : World) : BinK Tryd.prog .leq 2 (.int .i64 x) (.int .i64 y) K w = K (.bool (decide (x ≤ y))) w := by
  unfold BinK; (first | (go_simp; rfl) | (go_simp; done))

theorem ksl76_100z (K : Value → World → Prop) (w : World) : SliceK Tryd.prog 76 (.slice none 0 0) (some (.int .i64 0)) none none K w = K (.slice none 0 0) w := by
  unfold SliceK; (first | (go_simp; rfl) | (go_simp; done) | (go_simp; split <;> simp_all))

theorem ksl76_100 (g o n c : Nat) (l : Int) (hb : 0 ≤ l ∧ l ≤ (n : Int)) (K : Value → World → Prop) (w : World) : SliceK Tryd.prog 76 (.slice (some ⟨g, o, none⟩) n c) (some (.int .i64 l)) none none K w = K (.slice (if c = l.toNat then some ⟨g, o, none⟩ else some ⟨g, o + l.toNat * 4, none⟩) (n - l.toNat) (c - l.toNat)) w := by
  obtain ⟨q0, q1⟩ := hb
  unfold SliceK; (first | (go_simp; rfl) | (go_simp; done) | (go_simp; split <;> simp_all))

theorem kcap76 (A : Option Addr) (n c : Nat) (K : Value → World → Prop) (w : World) : BuiltinK Tryd.prog .cap #[76] 3 #[false] #[(.slice A n c)] K w = K (.int .i64 (c : Int)) w := by
  unfold BuiltinK; (first | (go_simp; rfl) | (go_simp; done))

theorem ksl76_010z (K : Value → World → Prop) (w : World) : SliceK Tryd.prog 76 (.slice none 0 0) none (some (.int .i64 0)) none K w = K (.slice none 0 0) w := by
  unfold SliceK; (first | (go_simp; rfl) | (go_simp; done) | (go_simp; split <;> simp_all))

theorem ksl76_010 (g o n c : Nat) (h : Int) (hb : 0 ≤ h ∧ h ≤ (c : Int)) (K : Value → World → Prop) (w : World) : SliceK Tryd.prog 76 (.slice (some ⟨g, o, none⟩) n c) none (some (.int .i64 h)) none K w = K (.slice (some ⟨g, o, none⟩) h.toNat c) w := by
  obtain ⟨q0, q1⟩ := hb
  unfold SliceK; (first | (go_simp; rfl) | (go_simp; done) | (go_simp; split <;> simp_all))

theorem ksl76_111 (g o n c : Nat) (l h m : Int) (hb : 0 ≤ l ∧ l ≤ h ∧ h ≤ m ∧ m ≤ (c : Int)) (K : Value → World → Prop) (w : World) : SliceK Tryd.prog 76 (.slice (some ⟨g, o, none⟩) n c) (some (.int .i64 l)) (some (.int .i64 h)) (some (.int .i64 m)) K w = K (.slice (if m.toNat = l.toNat then some ⟨g, o, none⟩ else some ⟨g, o + l.toNat * 4, none⟩) (h.toNat - l.toNat) (m.toNat - l.toNat)) w := by
  obtain ⟨q0, q1, q2, q3⟩ := hb
  unfold SliceK; (first | (go_simp; rfl) | (go_simp; done) | (go_simp; split <;> simp_all))

theorem ksl76_110 (g o n c : Nat) (l : Int) (h : Int) (hb : 0 ≤ l ∧ l ≤ h ∧ h ≤ (c : Int)) (K : Value → World → Prop) (w : World) : SliceK Tryd.prog 76 (.slice (some ⟨g, o, none⟩) n c) (some (.int .i64 l)) (some (.int .i64 h)) none K w = K (.slice (if c = l.toNat then some ⟨g, o, none⟩ else some ⟨g, o + l.toNat * 4, none⟩) (h.toNat - l.toNat) (c - l.toNat)) w := by
  obtain ⟨q0, q1, q2⟩ := hb
  unfold SliceK; (first | (go_simp; rfl) | (go_simp; done) | (go_simp; split <;> simp_all))

theorem kbeql76n (a : Addr) (n c : Nat) (K : Value → World → Prop) (w : World) : BinK Tryd.prog .eql 76 (.slice (some a) n c) (.slice none 0 0) K w = K (.bool false) w := by
  unfold BinK; (first | (go_simp; rfl) | (go_simp; done))

theorem kbeql76z (n c : Nat) (K : Value → World → Prop) (w : World) : BinK Tryd.prog .eql 76 (.slice none n c) (.slice none 0 0) K w = K (.bool true) w := by
  unfold BinK; (first | (go_simp; rfl) | (go_simp; done))

theorem kbs76_0  (K : Value → World → Prop) (w : World) : BuildSliceK Tryd.prog 76 0 #[] K w = K (.slice (some ⟨w.heap.size, 0, none⟩) 0 0) (w.alloc (.cells #[] 84)) := by
  unfold BuildSliceK; (first | (go_simp; rfl) | (go_simp; done))

theorem kmin3_ff (x y : Int) (K : Value → World → Prop) (w : World) : BuiltinK Tryd.prog .min #[3, 3] 3 #[false, false] #[.int .i64 x, .int .i64 y] K w = K (.int .i64 (if y < x then y else x)) w := by
  unfold BuiltinK; by_cases h : x < y <;> by_cases h2 : y < x <;> (first | (exfalso; omega) | (simp only [h, h2, if_true, if_false]; go_simp; rfl) | (go_simp; done) | (go_simp; omega))

theorem kcv3_102 (x : Int) (K : Value → World → Prop) (w : World) : ConvK Tryd.prog 3 102 (.int .i64 x) K w = K (.int .u64 (IntKind.u64.wrap x)) w := by
  unfold ConvK; (first | (go_simp; rfl) | (go_simp; done))

theorem kbshr102_i32 (x y : Int) (h : 0 ≤ y) (K : Value → World → Prop) (w : World) : BinK Tryd.prog .shr 102 (.int .u64 x) (.int .i32 y) K w = K (.int .u64 (x / 2 ^ min y.toNat 64)) w := by
  unfold BinK; (first | (go_simp; rfl) | (go_simp; done))

theorem kbshr102_i64 (x y : Int) (h : 0 ≤ y) (K : Value → World → Prop) (w : World) : BinK Tryd.prog .shr 102 (.int .u64 x) (.int .i64 y) K w = K (.int .u64 (x / 2 ^ min y.toNat 64)) w := by
  unfold BinK; (first | (go_simp; rfl) | (go_simp; done))

theorem kbshr102_u32 (x y : Int) (h : 0 ≤ y) (K : Value → World → Prop) (w : World) : BinK Tryd.prog .shr 102 (.int .u64 x) (.int .u32 y) K w = K (.int .u64 (x / 2 ^ min y.toNat 64)) w := by
  unfold BinK; (first | (go_simp; rfl) | (go_simp; done))

theorem kbshr102_u64 (x y : Int) (h : 0 ≤ y) (K : Value → World → Prop) (w : World) : BinK Tryd.prog .shr 102 (.int .u64 x) (.int .u64 y) K w = K (.int .u64 (x / 2 ^ min y.toNat 64)) w := by
  unfold BinK; (first | (go_simp; rfl) | (go_simp; done))

theorem kbshr102_u8 (x y : Int) (h : 0 ≤ y) (K : Value → World → Prop) (w : World) : BinK Tryd.prog .shr 102 (.int .u64 x) (.int .u8 y) K w = K (.int .u64 (x / 2 ^ min y.toNat 64)) w := by
  unfold BinK; (first | (go_simp; rfl) | (go_simp; done))

theorem kcv102_3 (x : Int) (K : Value → World → Prop) (w : World) : ConvK Tryd.prog 102 3 (.int .u64 x) K w = K (.int .i64 (IntKind.i64.wrap x)) w := by
  unfold ConvK; (first | (go_simp; rfl) | (go_simp; done))

theorem kbx84 (v_0 : ByteArray) (v_1_0 : ByteArray) (v_1_1 : Int) (v_1_2 : Int) (K : Value → World → Prop) (w : World) : BoxK Tryd.prog 84 (.agg #[(.string v_0), (.string v_1_0), (.int .i64 v_1_1), (.int .i64 v_1_2)]) K w = K (.pointer (some ⟨w.heap.size, 0, none⟩)) (w.alloc (.cells #[(.string v_0), (.string v_1_0), (.int .i64 v_1_1), (.int .i64 v_1_2)] 84)) := by
  unfold BoxK; (first | (go_simp; rfl) | (go_simp; done))

theorem kbgtr9 (x y : ByteArray) (K : Value → World → Prop) (w : World) : BinK Tryd.prog .gtr 9 (.string x) (.string y) K w = K (.bool (!(Op.bytesLess x.toList y.toList || x.toList == y.toList))) w := by
  unfold BinK; (first | (go_simp; rfl) | (go_simp; done))

theorem kblss5 (x y : Int) (K : Value → World → Prop) (w : World) : BinK Tryd.prog .lss 5 (.int .u8 x) (.int .u8 y) K w = K (.bool (decide (x < y))) w := by
  unfold BinK; (first | (go_simp; rfl) | (go_simp; done))

theorem kbgtr5 (x y : Int) (K : Value → World → Prop) (w : World) : BinK Tryd.prog .gtr 5 (.int .u8 x) (.int .u8 y) K w = K (.bool (decide (y < x))) w := by
  unfold BinK; (first | (go_simp; rfl) | (go_simp; done))

theorem kbneq5 (x y : Int) (K : Value → World → Prop) (w : World) : BinK Tryd.prog .neq 5 (.int .u8 x) (.int .u8 y) K w = K (.bool (x != y)) w := by
  unfold BinK; (first | (go_simp; rfl) | (go_simp; done))

theorem kbeql5 (x y : Int) (K : Value → World → Prop) (w : World) : BinK Tryd.prog .eql 5 (.int .u8 x) (.int .u8 y) K w = K (.bool (x == y)) w := by
  unfold BinK; (first | (go_simp; rfl) | (go_simp; done))

theorem ck3 {args : Array Value} {K : Value → World → Prop} {w : World} (h : CallK Tryd.prog 3 args K w) : CallV Tryd.prog (.func (.func 3) #[] #[]) args K w := callV_func Tryd.func3 (by kernel_rfl) (by kernel_rfl) h
theorem ck4 {args : Array Value} {K : Value → World → Prop} {w : World} (h : CallK Tryd.prog 4 args K w) : CallV Tryd.prog (.func (.func 4) #[] #[]) args K w := callV_func Tryd.func4 (by kernel_rfl) (by kernel_rfl) h
theorem ck5 {args : Array Value} {K : Value → World → Prop} {w : World} (h : CallK Tryd.prog 5 args K w) : CallV Tryd.prog (.func (.func 5) #[] #[]) args K w := callV_func Tryd.func5 (by kernel_rfl) (by kernel_rfl) h
theorem ck6 {args : Array Value} {K : Value → World → Prop} {w : World} (h : CallK Tryd.prog 6 args K w) : CallV Tryd.prog (.func (.func 6) #[] #[]) args K w := callV_func Tryd.func6 (by kernel_rfl) (by kernel_rfl) h
theorem ck7 {args : Array Value} {K : Value → World → Prop} {w : World} (h : CallK Tryd.prog 7 args K w) : CallV Tryd.prog (.func (.func 7) #[] #[]) args K w := callV_func Tryd.func7 (by kernel_rfl) (by kernel_rfl) h
theorem ck8 {args : Array Value} {K : Value → World → Prop} {w : World} (h : CallK Tryd.prog 8 args K w) : CallV Tryd.prog (.func (.func 8) #[] #[]) args K w := callV_func Tryd.func8 (by kernel_rfl) (by kernel_rfl) h
theorem ck9 {args : Array Value} {K : Value → World → Prop} {w : World} (h : CallK Tryd.prog 9 args K w) : CallV Tryd.prog (.func (.func 9) #[] #[]) args K w := callV_func Tryd.func9 (by kernel_rfl) (by kernel_rfl) h
theorem ck10 {args : Array Value} {K : Value → World → Prop} {w : World} (h : CallK Tryd.prog 10 args K w) : CallV Tryd.prog (.func (.func 10) #[] #[]) args K w := callV_func Tryd.func10 (by kernel_rfl) (by kernel_rfl) h
theorem ck11 {args : Array Value} {K : Value → World → Prop} {w : World} (h : CallK Tryd.prog 11 args K w) : CallV Tryd.prog (.func (.func 11) #[] #[]) args K w := callV_func Tryd.func11 (by kernel_rfl) (by kernel_rfl) h
theorem ck12 {args : Array Value} {K : Value → World → Prop} {w : World} (h : CallK Tryd.prog 12 args K w) : CallV Tryd.prog (.func (.func 12) #[] #[]) args K w := callV_func Tryd.func12 (by kernel_rfl) (by kernel_rfl) h
theorem ck13 {args : Array Value} {K : Value → World → Prop} {w : World} (h : CallK Tryd.prog 13 args K w) : CallV Tryd.prog (.func (.func 13) #[] #[]) args K w := callV_func Tryd.func13 (by kernel_rfl) (by kernel_rfl) h
theorem ck14 {args : Array Value} {K : Value → World → Prop} {w : World} (h : CallK Tryd.prog 14 args K w) : CallV Tryd.prog (.func (.func 14) #[] #[]) args K w := callV_func Tryd.func14 (by kernel_rfl) (by kernel_rfl) h
theorem ck15 {args : Array Value} {K : Value → World → Prop} {w : World} (h : CallK Tryd.prog 15 args K w) : CallV Tryd.prog (.func (.func 15) #[] #[]) args K w := callV_func Tryd.func15 (by kernel_rfl) (by kernel_rfl) h
theorem ck16 {args : Array Value} {K : Value → World → Prop} {w : World} (h : CallK Tryd.prog 16 args K w) : CallV Tryd.prog (.func (.func 16) #[] #[]) args K w := callV_func Tryd.func16 (by kernel_rfl) (by kernel_rfl) h
theorem ck17 {args : Array Value} {K : Value → World → Prop} {w : World} (h : CallK Tryd.prog 17 args K w) : CallV Tryd.prog (.func (.func 17) #[] #[]) args K w := callV_func Tryd.func17 (by kernel_rfl) (by kernel_rfl) h
theorem ck18 {args : Array Value} {K : Value → World → Prop} {w : World} (h : CallK Tryd.prog 18 args K w) : CallV Tryd.prog (.func (.func 18) #[] #[]) args K w := callV_func Tryd.func18 (by kernel_rfl) (by kernel_rfl) h
theorem ck19 {args : Array Value} {K : Value → World → Prop} {w : World} (h : CallK Tryd.prog 19 args K w) : CallV Tryd.prog (.func (.func 19) #[] #[]) args K w := callV_func Tryd.func19 (by kernel_rfl) (by kernel_rfl) h
theorem ck20 {args : Array Value} {K : Value → World → Prop} {w : World} (h : CallK Tryd.prog 20 args K w) : CallV Tryd.prog (.func (.func 20) #[] #[]) args K w := callV_func Tryd.func20 (by kernel_rfl) (by kernel_rfl) h
theorem ck21 {args : Array Value} {K : Value → World → Prop} {w : World} (h : CallK Tryd.prog 21 args K w) : CallV Tryd.prog (.func (.func 21) #[] #[]) args K w := callV_func Tryd.func21 (by kernel_rfl) (by kernel_rfl) h
theorem ck22 {args : Array Value} {K : Value → World → Prop} {w : World} (h : CallK Tryd.prog 22 args K w) : CallV Tryd.prog (.func (.func 22) #[] #[]) args K w := callV_func Tryd.func22 (by kernel_rfl) (by kernel_rfl) h
theorem ck23 {args : Array Value} {K : Value → World → Prop} {w : World} (h : CallK Tryd.prog 23 args K w) : CallV Tryd.prog (.func (.func 23) #[] #[]) args K w := callV_func Tryd.func23 (by kernel_rfl) (by kernel_rfl) h
theorem ck24 {args : Array Value} {K : Value → World → Prop} {w : World} (h : CallK Tryd.prog 24 args K w) : CallV Tryd.prog (.func (.func 24) #[] #[]) args K w := callV_func Tryd.func24 (by kernel_rfl) (by kernel_rfl) h
theorem ck25 {args : Array Value} {K : Value → World → Prop} {w : World} (h : CallK Tryd.prog 25 args K w) : CallV Tryd.prog (.func (.func 25) #[] #[]) args K w := callV_func Tryd.func25 (by kernel_rfl) (by kernel_rfl) h
theorem ck26 {args : Array Value} {K : Value → World → Prop} {w : World} (h : CallK Tryd.prog 26 args K w) : CallV Tryd.prog (.func (.func 26) #[] #[]) args K w := callV_func Tryd.func26 (by kernel_rfl) (by kernel_rfl) h
theorem ck27 {args : Array Value} {K : Value → World → Prop} {w : World} (h : CallK Tryd.prog 27 args K w) : CallV Tryd.prog (.func (.func 27) #[] #[]) args K w := callV_func Tryd.func27 (by kernel_rfl) (by kernel_rfl) h
theorem ck28 {args : Array Value} {K : Value → World → Prop} {w : World} (h : CallK Tryd.prog 28 args K w) : CallV Tryd.prog (.func (.func 28) #[] #[]) args K w := callV_func Tryd.func28 (by kernel_rfl) (by kernel_rfl) h
theorem ck29 {args : Array Value} {K : Value → World → Prop} {w : World} (h : CallK Tryd.prog 29 args K w) : CallV Tryd.prog (.func (.func 29) #[] #[]) args K w := callV_func Tryd.func29 (by kernel_rfl) (by kernel_rfl) h
theorem ck30 {args : Array Value} {K : Value → World → Prop} {w : World} (h : CallK Tryd.prog 30 args K w) : CallV Tryd.prog (.func (.func 30) #[] #[]) args K w := callV_func Tryd.func30 (by kernel_rfl) (by kernel_rfl) h
theorem ck31 {args : Array Value} {K : Value → World → Prop} {w : World} (h : CallK Tryd.prog 31 args K w) : CallV Tryd.prog (.func (.func 31) #[] #[]) args K w := callV_func Tryd.func31 (by kernel_rfl) (by kernel_rfl) h
theorem ck32 {args : Array Value} {K : Value → World → Prop} {w : World} (h : CallK Tryd.prog 32 args K w) : CallV Tryd.prog (.func (.func 32) #[] #[]) args K w := callV_func Tryd.func32 (by kernel_rfl) (by kernel_rfl) h
theorem ck33 {args : Array Value} {K : Value → World → Prop} {w : World} (h : CallK Tryd.prog 33 args K w) : CallV Tryd.prog (.func (.func 33) #[] #[]) args K w := callV_func Tryd.func33 (by kernel_rfl) (by kernel_rfl) h
theorem ck34 {args : Array Value} {K : Value → World → Prop} {w : World} (h : CallK Tryd.prog 34 args K w) : CallV Tryd.prog (.func (.func 34) #[] #[]) args K w := callV_func Tryd.func34 (by kernel_rfl) (by kernel_rfl) h
theorem ck35 {args : Array Value} {K : Value → World → Prop} {w : World} (h : CallK Tryd.prog 35 args K w) : CallV Tryd.prog (.func (.func 35) #[] #[]) args K w := callV_func Tryd.func35 (by kernel_rfl) (by kernel_rfl) h
theorem ck36 {args : Array Value} {K : Value → World → Prop} {w : World} (h : CallK Tryd.prog 36 args K w) : CallV Tryd.prog (.func (.func 36) #[] #[]) args K w := callV_func Tryd.func36 (by kernel_rfl) (by kernel_rfl) h
theorem ck37 {args : Array Value} {K : Value → World → Prop} {w : World} (h : CallK Tryd.prog 37 args K w) : CallV Tryd.prog (.func (.func 37) #[] #[]) args K w := callV_func Tryd.func37 (by kernel_rfl) (by kernel_rfl) h
theorem ck38 {args : Array Value} {K : Value → World → Prop} {w : World} (h : CallK Tryd.prog 38 args K w) : CallV Tryd.prog (.func (.func 38) #[] #[]) args K w := callV_func Tryd.func38 (by kernel_rfl) (by kernel_rfl) h
theorem ck39 {args : Array Value} {K : Value → World → Prop} {w : World} (h : CallK Tryd.prog 39 args K w) : CallV Tryd.prog (.func (.func 39) #[] #[]) args K w := callV_func Tryd.func39 (by kernel_rfl) (by kernel_rfl) h
theorem ck40 {args : Array Value} {K : Value → World → Prop} {w : World} (h : CallK Tryd.prog 40 args K w) : CallV Tryd.prog (.func (.func 40) #[] #[]) args K w := callV_func Tryd.func40 (by kernel_rfl) (by kernel_rfl) h
theorem ck41 {args : Array Value} {K : Value → World → Prop} {w : World} (h : CallK Tryd.prog 41 args K w) : CallV Tryd.prog (.func (.func 41) #[] #[]) args K w := callV_func Tryd.func41 (by kernel_rfl) (by kernel_rfl) h
theorem ck42 {args : Array Value} {K : Value → World → Prop} {w : World} (h : CallK Tryd.prog 42 args K w) : CallV Tryd.prog (.func (.func 42) #[] #[]) args K w := callV_func Tryd.func42 (by kernel_rfl) (by kernel_rfl) h
theorem ck43 {args : Array Value} {K : Value → World → Prop} {w : World} (h : CallK Tryd.prog 43 args K w) : CallV Tryd.prog (.func (.func 43) #[] #[]) args K w := callV_func Tryd.func43 (by kernel_rfl) (by kernel_rfl) h
theorem ck44 {args : Array Value} {K : Value → World → Prop} {w : World} (h : CallK Tryd.prog 44 args K w) : CallV Tryd.prog (.func (.func 44) #[] #[]) args K w := callV_func Tryd.func44 (by kernel_rfl) (by kernel_rfl) h
theorem ck45 {args : Array Value} {K : Value → World → Prop} {w : World} (h : CallK Tryd.prog 45 args K w) : CallV Tryd.prog (.func (.func 45) #[] #[]) args K w := callV_func Tryd.func45 (by kernel_rfl) (by kernel_rfl) h
theorem ck46 {args : Array Value} {K : Value → World → Prop} {w : World} (h : CallK Tryd.prog 46 args K w) : CallV Tryd.prog (.func (.func 46) #[] #[]) args K w := callV_func Tryd.func46 (by kernel_rfl) (by kernel_rfl) h
theorem ck47 {args : Array Value} {K : Value → World → Prop} {w : World} (h : CallK Tryd.prog 47 args K w) : CallV Tryd.prog (.func (.func 47) #[] #[]) args K w := callV_func Tryd.func47 (by kernel_rfl) (by kernel_rfl) h
theorem ck48 {args : Array Value} {K : Value → World → Prop} {w : World} (h : CallK Tryd.prog 48 args K w) : CallV Tryd.prog (.func (.func 48) #[] #[]) args K w := callV_func Tryd.func48 (by kernel_rfl) (by kernel_rfl) h
theorem ck49 {args : Array Value} {K : Value → World → Prop} {w : World} (h : CallK Tryd.prog 49 args K w) : CallV Tryd.prog (.func (.func 49) #[] #[]) args K w := callV_func Tryd.func49 (by kernel_rfl) (by kernel_rfl) h
theorem ck50 {args : Array Value} {K : Value → World → Prop} {w : World} (h : CallK Tryd.prog 50 args K w) : CallV Tryd.prog (.func (.func 50) #[] #[]) args K w := callV_func Tryd.func50 (by kernel_rfl) (by kernel_rfl) h
theorem ck51 {args : Array Value} {K : Value → World → Prop} {w : World} (h : CallK Tryd.prog 51 args K w) : CallV Tryd.prog (.func (.func 51) #[] #[]) args K w := callV_func Tryd.func51 (by kernel_rfl) (by kernel_rfl) h
theorem ck52 {args : Array Value} {K : Value → World → Prop} {w : World} (h : CallK Tryd.prog 52 args K w) : CallV Tryd.prog (.func (.func 52) #[] #[]) args K w := callV_func Tryd.func52 (by kernel_rfl) (by kernel_rfl) h
theorem ck53 {args : Array Value} {K : Value → World → Prop} {w : World} (h : CallK Tryd.prog 53 args K w) : CallV Tryd.prog (.func (.func 53) #[] #[]) args K w := callV_func Tryd.func53 (by kernel_rfl) (by kernel_rfl) h
theorem ck54 {args : Array Value} {K : Value → World → Prop} {w : World} (h : CallK Tryd.prog 54 args K w) : CallV Tryd.prog (.func (.func 54) #[] #[]) args K w := callV_func Tryd.func54 (by kernel_rfl) (by kernel_rfl) h
theorem ck55 {args : Array Value} {K : Value → World → Prop} {w : World} (h : CallK Tryd.prog 55 args K w) : CallV Tryd.prog (.func (.func 55) #[] #[]) args K w := callV_func Tryd.func55 (by kernel_rfl) (by kernel_rfl) h
theorem ck56 {args : Array Value} {K : Value → World → Prop} {w : World} (h : CallK Tryd.prog 56 args K w) : CallV Tryd.prog (.func (.func 56) #[] #[]) args K w := callV_func Tryd.func56 (by kernel_rfl) (by kernel_rfl) h
theorem ck57 {args : Array Value} {K : Value → World → Prop} {w : World} (h : CallK Tryd.prog 57 args K w) : CallV Tryd.prog (.func (.func 57) #[] #[]) args K w := callV_func Tryd.func57 (by kernel_rfl) (by kernel_rfl) h
theorem ck58 {args : Array Value} {K : Value → World → Prop} {w : World} (h : CallK Tryd.prog 58 args K w) : CallV Tryd.prog (.func (.func 58) #[] #[]) args K w := callV_func Tryd.func58 (by kernel_rfl) (by kernel_rfl) h
theorem ck59 {args : Array Value} {K : Value → World → Prop} {w : World} (h : CallK Tryd.prog 59 args K w) : CallV Tryd.prog (.func (.func 59) #[] #[]) args K w := callV_func Tryd.func59 (by kernel_rfl) (by kernel_rfl) h
theorem ck62 {args : Array Value} {K : Value → World → Prop} {w : World} (h : CallK Tryd.prog 62 args K w) : CallV Tryd.prog (.func (.func 62) #[] #[]) args K w := callV_func Tryd.func62 (by kernel_rfl) (by kernel_rfl) h
theorem ck63 {args : Array Value} {K : Value → World → Prop} {w : World} (h : CallK Tryd.prog 63 args K w) : CallV Tryd.prog (.func (.func 63) #[] #[]) args K w := callV_func Tryd.func63 (by kernel_rfl) (by kernel_rfl) h
theorem ck64 {args : Array Value} {K : Value → World → Prop} {w : World} (h : CallK Tryd.prog 64 args K w) : CallV Tryd.prog (.func (.func 64) #[] #[]) args K w := callV_func Tryd.func64 (by kernel_rfl) (by kernel_rfl) h
theorem ck65 {args : Array Value} {K : Value → World → Prop} {w : World} (h : CallK Tryd.prog 65 args K w) : CallV Tryd.prog (.func (.func 65) #[] #[]) args K w := callV_func Tryd.func65 (by kernel_rfl) (by kernel_rfl) h
theorem ck66 {args : Array Value} {K : Value → World → Prop} {w : World} (h : CallK Tryd.prog 66 args K w) : CallV Tryd.prog (.func (.func 66) #[] #[]) args K w := callV_func Tryd.func66 (by kernel_rfl) (by kernel_rfl) h
theorem ck67 {args : Array Value} {K : Value → World → Prop} {w : World} (h : CallK Tryd.prog 67 args K w) : CallV Tryd.prog (.func (.func 67) #[] #[]) args K w := callV_func Tryd.func67 (by kernel_rfl) (by kernel_rfl) h
theorem ck68 {args : Array Value} {K : Value → World → Prop} {w : World} (h : CallK Tryd.prog 68 args K w) : CallV Tryd.prog (.func (.func 68) #[] #[]) args K w := callV_func Tryd.func68 (by kernel_rfl) (by kernel_rfl) h
theorem ck70 {args : Array Value} {K : Value → World → Prop} {w : World} (h : CallK Tryd.prog 70 args K w) : CallV Tryd.prog (.func (.func 70) #[] #[]) args K w := callV_func Tryd.func70 (by kernel_rfl) (by kernel_rfl) h
theorem ck72 {args : Array Value} {K : Value → World → Prop} {w : World} (h : CallK Tryd.prog 72 args K w) : CallV Tryd.prog (.func (.func 72) #[] #[]) args K w := callV_func Tryd.func72 (by kernel_rfl) (by kernel_rfl) h
theorem ck74 {args : Array Value} {K : Value → World → Prop} {w : World} (h : CallK Tryd.prog 74 args K w) : CallV Tryd.prog (.func (.func 74) #[] #[]) args K w := callV_func Tryd.func74 (by kernel_rfl) (by kernel_rfl) h
theorem ck76 {args : Array Value} {K : Value → World → Prop} {w : World} (h : CallK Tryd.prog 76 args K w) : CallV Tryd.prog (.func (.func 76) #[] #[]) args K w := callV_func Tryd.func76 (by kernel_rfl) (by kernel_rfl) h
theorem cv3 {args : Array Value} {K : Value → World → Prop} {w : World} {v : Value} {R : World → Prop} (h : Calls Tryd.prog 3 args w fun e w' => e = .returned v ∧ R w') (hk : ∀ w', R w' → K v w') : CallV Tryd.prog (.func (.func 3) #[] #[]) args K w := callV_of Tryd.func3 (by kernel_rfl) (by kernel_rfl) h hk
theorem cv4 {args : Array Value} {K : Value → World → Prop} {w : World} {v : Value} {R : World → Prop} (h : Calls Tryd.prog 4 args w fun e w' => e = .returned v ∧ R w') (hk : ∀ w', R w' → K v w') : CallV Tryd.prog (.func (.func 4) #[] #[]) args K w := callV_of Tryd.func4 (by kernel_rfl) (by kernel_rfl) h hk
theorem cv5 {args : Array Value} {K : Value → World → Prop} {w : World} {v : Value} {R : World → Prop} (h : Calls Tryd.prog 5 args w fun e w' => e = .returned v ∧ R w') (hk : ∀ w', R w' → K v w') : CallV Tryd.prog (.func (.func 5) #[] #[]) args K w := callV_of Tryd.func5 (by kernel_rfl) (by kernel_rfl) h hk
theorem cv6 {args : Array Value} {K : Value → World → Prop} {w : World} {v : Value} {R : World → Prop} (h : Calls Tryd.prog 6 args w fun e w' => e = .returned v ∧ R w') (hk : ∀ w', R w' → K v w') : CallV Tryd.prog (.func (.func 6) #[] #[]) args K w := callV_of Tryd.func6 (by kernel_rfl) (by kernel_rfl) h hk
theorem cv7 {args : Array Value} {K : Value → World → Prop} {w : World} {v : Value} {R : World → Prop} (h : Calls Tryd.prog 7 args w fun e w' => e = .returned v ∧ R w') (hk : ∀ w', R w' → K v w') : CallV Tryd.prog (.func (.func 7) #[] #[]) args K w := callV_of Tryd.func7 (by kernel_rfl) (by kernel_rfl) h hk
theorem cv8 {args : Array Value} {K : Value → World → Prop} {w : World} {v : Value} {R : World → Prop} (h : Calls Tryd.prog 8 args w fun e w' => e = .returned v ∧ R w') (hk : ∀ w', R w' → K v w') : CallV Tryd.prog (.func (.func 8) #[] #[]) args K w := callV_of Tryd.func8 (by kernel_rfl) (by kernel_rfl) h hk
theorem cv9 {args : Array Value} {K : Value → World → Prop} {w : World} {v : Value} {R : World → Prop} (h : Calls Tryd.prog 9 args w fun e w' => e = .returned v ∧ R w') (hk : ∀ w', R w' → K v w') : CallV Tryd.prog (.func (.func 9) #[] #[]) args K w := callV_of Tryd.func9 (by kernel_rfl) (by kernel_rfl) h hk
theorem cv10 {args : Array Value} {K : Value → World → Prop} {w : World} {v : Value} {R : World → Prop} (h : Calls Tryd.prog 10 args w fun e w' => e = .returned v ∧ R w') (hk : ∀ w', R w' → K v w') : CallV Tryd.prog (.func (.func 10) #[] #[]) args K w := callV_of Tryd.func10 (by kernel_rfl) (by kernel_rfl) h hk
theorem cv11 {args : Array Value} {K : Value → World → Prop} {w : World} {v : Value} {R : World → Prop} (h : Calls Tryd.prog 11 args w fun e w' => e = .returned v ∧ R w') (hk : ∀ w', R w' → K v w') : CallV Tryd.prog (.func (.func 11) #[] #[]) args K w := callV_of Tryd.func11 (by kernel_rfl) (by kernel_rfl) h hk
theorem cv12 {args : Array Value} {K : Value → World → Prop} {w : World} {v : Value} {R : World → Prop} (h : Calls Tryd.prog 12 args w fun e w' => e = .returned v ∧ R w') (hk : ∀ w', R w' → K v w') : CallV Tryd.prog (.func (.func 12) #[] #[]) args K w := callV_of Tryd.func12 (by kernel_rfl) (by kernel_rfl) h hk
theorem cv13 {args : Array Value} {K : Value → World → Prop} {w : World} {v : Value} {R : World → Prop} (h : Calls Tryd.prog 13 args w fun e w' => e = .returned v ∧ R w') (hk : ∀ w', R w' → K v w') : CallV Tryd.prog (.func (.func 13) #[] #[]) args K w := callV_of Tryd.func13 (by kernel_rfl) (by kernel_rfl) h hk
theorem cv14 {args : Array Value} {K : Value → World → Prop} {w : World} {v : Value} {R : World → Prop} (h : Calls Tryd.prog 14 args w fun e w' => e = .returned v ∧ R w') (hk : ∀ w', R w' → K v w') : CallV Tryd.prog (.func (.func 14) #[] #[]) args K w := callV_of Tryd.func14 (by kernel_rfl) (by kernel_rfl) h hk
theorem cv15 {args : Array Value} {K : Value → World → Prop} {w : World} {v : Value} {R : World → Prop} (h : Calls Tryd.prog 15 args w fun e w' => e = .returned v ∧ R w') (hk : ∀ w', R w' → K v w') : CallV Tryd.prog (.func (.func 15) #[] #[]) args K w := callV_of Tryd.func15 (by kernel_rfl) (by kernel_rfl) h hk
theorem cv16 {args : Array Value} {K : Value → World → Prop} {w : World} {v : Value} {R : World → Prop} (h : Calls Tryd.prog 16 args w fun e w' => e = .returned v ∧ R w') (hk : ∀ w', R w' → K v w') : CallV Tryd.prog (.func (.func 16) #[] #[]) args K w := callV_of Tryd.func16 (by kernel_rfl) (by kernel_rfl) h hk
theorem cv17 {args : Array Value} {K : Value → World → Prop} {w : World} {v : Value} {R : World → Prop} (h : Calls Tryd.prog 17 args w fun e w' => e = .returned v ∧ R w') (hk : ∀ w', R w' → K v w') : CallV Tryd.prog (.func (.func 17) #[] #[]) args K w := callV_of Tryd.func17 (by kernel_rfl) (by kernel_rfl) h hk
theorem cv18 {args : Array Value} {K : Value → World → Prop} {w : World} {v : Value} {R : World → Prop} (h : Calls Tryd.prog 18 args w fun e w' => e = .returned v ∧ R w') (hk : ∀ w', R w' → K v w') : CallV Tryd.prog (.func (.func 18) #[] #[]) args K w := callV_of Tryd.func18 (by kernel_rfl) (by kernel_rfl) h hk
theorem cv19 {args : Array Value} {K : Value → World → Prop} {w : World} {v : Value} {R : World → Prop} (h : Calls Tryd.prog 19 args w fun e w' => e = .returned v ∧ R w') (hk : ∀ w', R w' → K v w') : CallV Tryd.prog (.func (.func 19) #[] #[]) args K w := callV_of Tryd.func19 (by kernel_rfl) (by kernel_rfl) h hk
theorem cv20 {args : Array Value} {K : Value → World → Prop} {w : World} {v : Value} {R : World → Prop} (h : Calls Tryd.prog 20 args w fun e w' => e = .returned v ∧ R w') (hk : ∀ w', R w' → K v w') : CallV Tryd.prog (.func (.func 20) #[] #[]) args K w := callV_of Tryd.func20 (by kernel_rfl) (by kernel_rfl) h hk
theorem cv21 {args : Array Value} {K : Value → World → Prop} {w : World} {v : Value} {R : World → Prop} (h : Calls Tryd.prog 21 args w fun e w' => e = .returned v ∧ R w') (hk : ∀ w', R w' → K v w') : CallV Tryd.prog (.func (.func 21) #[] #[]) args K w := callV_of Tryd.func21 (by kernel_rfl) (by kernel_rfl) h hk
theorem cv22 {args : Array Value} {K : Value → World → Prop} {w : World} {v : Value} {R : World → Prop} (h : Calls Tryd.prog 22 args w fun e w' => e = .returned v ∧ R w') (hk : ∀ w', R w' → K v w') : CallV Tryd.prog (.func (.func 22) #[] #[]) args K w := callV_of Tryd.func22 (by kernel_rfl) (by kernel_rfl) h hk
theorem cv23 {args : Array Value} {K : Value → World → Prop} {w : World} {v : Value} {R : World → Prop} (h : Calls Tryd.prog 23 args w fun e w' => e = .returned v ∧ R w') (hk : ∀ w', R w' → K v w') : CallV Tryd.prog (.func (.func 23) #[] #[]) args K w := callV_of Tryd.func23 (by kernel_rfl) (by kernel_rfl) h hk
theorem cv24 {args : Array Value} {K : Value → World → Prop} {w : World} {v : Value} {R : World → Prop} (h : Calls Tryd.prog 24 args w fun e w' => e = .returned v ∧ R w') (hk : ∀ w', R w' → K v w') : CallV Tryd.prog (.func (.func 24) #[] #[]) args K w := callV_of Tryd.func24 (by kernel_rfl) (by kernel_rfl) h hk
theorem cv25 {args : Array Value} {K : Value → World → Prop} {w : World} {v : Value} {R : World → Prop} (h : Calls Tryd.prog 25 args w fun e w' => e = .returned v ∧ R w') (hk : ∀ w', R w' → K v w') : CallV Tryd.prog (.func (.func 25) #[] #[]) args K w := callV_of Tryd.func25 (by kernel_rfl) (by kernel_rfl) h hk
theorem cv26 {args : Array Value} {K : Value → World → Prop} {w : World} {v : Value} {R : World → Prop} (h : Calls Tryd.prog 26 args w fun e w' => e = .returned v ∧ R w') (hk : ∀ w', R w' → K v w') : CallV Tryd.prog (.func (.func 26) #[] #[]) args K w := callV_of Tryd.func26 (by kernel_rfl) (by kernel_rfl) h hk
theorem cv27 {args : Array Value} {K : Value → World → Prop} {w : World} {v : Value} {R : World → Prop} (h : Calls Tryd.prog 27 args w fun e w' => e = .returned v ∧ R w') (hk : ∀ w', R w' → K v w') : CallV Tryd.prog (.func (.func 27) #[] #[]) args K w := callV_of Tryd.func27 (by kernel_rfl) (by kernel_rfl) h hk
theorem cv28 {args : Array Value} {K : Value → World → Prop} {w : World} {v : Value} {R : World → Prop} (h : Calls Tryd.prog 28 args w fun e w' => e = .returned v ∧ R w') (hk : ∀ w', R w' → K v w') : CallV Tryd.prog (.func (.func 28) #[] #[]) args K w := callV_of Tryd.func28 (by kernel_rfl) (by kernel_rfl) h hk
theorem cv29 {args : Array Value} {K : Value → World → Prop} {w : World} {v : Value} {R : World → Prop} (h : Calls Tryd.prog 29 args w fun e w' => e = .returned v ∧ R w') (hk : ∀ w', R w' → K v w') : CallV Tryd.prog (.func (.func 29) #[] #[]) args K w := callV_of Tryd.func29 (by kernel_rfl) (by kernel_rfl) h hk
theorem cv30 {args : Array Value} {K : Value → World → Prop} {w : World} {v : Value} {R : World → Prop} (h : Calls Tryd.prog 30 args w fun e w' => e = .returned v ∧ R w') (hk : ∀ w', R w' → K v w') : CallV Tryd.prog (.func (.func 30) #[] #[]) args K w := callV_of Tryd.func30 (by kernel_rfl) (by kernel_rfl) h hk
theorem cv31 {args : Array Value} {K : Value → World → Prop} {w : World} {v : Value} {R : World → Prop} (h : Calls Tryd.prog 31 args w fun e w' => e = .returned v ∧ R w') (hk : ∀ w', R w' → K v w') : CallV Tryd.prog (.func (.func 31) #[] #[]) args K w := callV_of Tryd.func31 (by kernel_rfl) (by kernel_rfl) h hk
theorem cv32 {args : Array Value} {K : Value → World → Prop} {w : World} {v : Value} {R : World → Prop} (h : Calls Tryd.prog 32 args w fun e w' => e = .returned v ∧ R w') (hk : ∀ w', R w' → K v w') : CallV Tryd.prog (.func (.func 32) #[] #[]) args K w := callV_of Tryd.func32 (by kernel_rfl) (by kernel_rfl) h hk
theorem cv33 {args : Array Value} {K : Value → World → Prop} {w : World} {v : Value} {R : World → Prop} (h : Calls Tryd.prog 33 args w fun e w' => e = .returned v ∧ R w') (hk : ∀ w', R w' → K v w') : CallV Tryd.prog (.func (.func 33) #[] #[]) args K w := callV_of Tryd.func33 (by kernel_rfl) (by kernel_rfl) h hk
theorem cv34 {args : Array Value} {K : Value → World → Prop} {w : World} {v : Value} {R : World → Prop} (h : Calls Tryd.prog 34 args w fun e w' => e = .returned v ∧ R w') (hk : ∀ w', R w' → K v w') : CallV Tryd.prog (.func (.func 34) #[] #[]) args K w := callV_of Tryd.func34 (by kernel_rfl) (by kernel_rfl) h hk
theorem cv35 {args : Array Value} {K : Value → World → Prop} {w : World} {v : Value} {R : World → Prop} (h : Calls Tryd.prog 35 args w fun e w' => e = .returned v ∧ R w') (hk : ∀ w', R w' → K v w') : CallV Tryd.prog (.func (.func 35) #[] #[]) args K w := callV_of Tryd.func35 (by kernel_rfl) (by kernel_rfl) h hk
theorem cv36 {args : Array Value} {K : Value → World → Prop} {w : World} {v : Value} {R : World → Prop} (h : Calls Tryd.prog 36 args w fun e w' => e = .returned v ∧ R w') (hk : ∀ w', R w' → K v w') : CallV Tryd.prog (.func (.func 36) #[] #[]) args K w := callV_of Tryd.func36 (by kernel_rfl) (by kernel_rfl) h hk
theorem cv37 {args : Array Value} {K : Value → World → Prop} {w : World} {v : Value} {R : World → Prop} (h : Calls Tryd.prog 37 args w fun e w' => e = .returned v ∧ R w') (hk : ∀ w', R w' → K v w') : CallV Tryd.prog (.func (.func 37) #[] #[]) args K w := callV_of Tryd.func37 (by kernel_rfl) (by kernel_rfl) h hk
theorem cv38 {args : Array Value} {K : Value → World → Prop} {w : World} {v : Value} {R : World → Prop} (h : Calls Tryd.prog 38 args w fun e w' => e = .returned v ∧ R w') (hk : ∀ w', R w' → K v w') : CallV Tryd.prog (.func (.func 38) #[] #[]) args K w := callV_of Tryd.func38 (by kernel_rfl) (by kernel_rfl) h hk
theorem cv39 {args : Array Value} {K : Value → World → Prop} {w : World} {v : Value} {R : World → Prop} (h : Calls Tryd.prog 39 args w fun e w' => e = .returned v ∧ R w') (hk : ∀ w', R w' → K v w') : CallV Tryd.prog (.func (.func 39) #[] #[]) args K w := callV_of Tryd.func39 (by kernel_rfl) (by kernel_rfl) h hk
theorem cv40 {args : Array Value} {K : Value → World → Prop} {w : World} {v : Value} {R : World → Prop} (h : Calls Tryd.prog 40 args w fun e w' => e = .returned v ∧ R w') (hk : ∀ w', R w' → K v w') : CallV Tryd.prog (.func (.func 40) #[] #[]) args K w := callV_of Tryd.func40 (by kernel_rfl) (by kernel_rfl) h hk
theorem cv41 {args : Array Value} {K : Value → World → Prop} {w : World} {v : Value} {R : World → Prop} (h : Calls Tryd.prog 41 args w fun e w' => e = .returned v ∧ R w') (hk : ∀ w', R w' → K v w') : CallV Tryd.prog (.func (.func 41) #[] #[]) args K w := callV_of Tryd.func41 (by kernel_rfl) (by kernel_rfl) h hk
theorem cv42 {args : Array Value} {K : Value → World → Prop} {w : World} {v : Value} {R : World → Prop} (h : Calls Tryd.prog 42 args w fun e w' => e = .returned v ∧ R w') (hk : ∀ w', R w' → K v w') : CallV Tryd.prog (.func (.func 42) #[] #[]) args K w := callV_of Tryd.func42 (by kernel_rfl) (by kernel_rfl) h hk
theorem cv43 {args : Array Value} {K : Value → World → Prop} {w : World} {v : Value} {R : World → Prop} (h : Calls Tryd.prog 43 args w fun e w' => e = .returned v ∧ R w') (hk : ∀ w', R w' → K v w') : CallV Tryd.prog (.func (.func 43) #[] #[]) args K w := callV_of Tryd.func43 (by kernel_rfl) (by kernel_rfl) h hk
theorem cv44 {args : Array Value} {K : Value → World → Prop} {w : World} {v : Value} {R : World → Prop} (h : Calls Tryd.prog 44 args w fun e w' => e = .returned v ∧ R w') (hk : ∀ w', R w' → K v w') : CallV Tryd.prog (.func (.func 44) #[] #[]) args K w := callV_of Tryd.func44 (by kernel_rfl) (by kernel_rfl) h hk
theorem cv45 {args : Array Value} {K : Value → World → Prop} {w : World} {v : Value} {R : World → Prop} (h : Calls Tryd.prog 45 args w fun e w' => e = .returned v ∧ R w') (hk : ∀ w', R w' → K v w') : CallV Tryd.prog (.func (.func 45) #[] #[]) args K w := callV_of Tryd.func45 (by kernel_rfl) (by kernel_rfl) h hk
theorem cv46 {args : Array Value} {K : Value → World → Prop} {w : World} {v : Value} {R : World → Prop} (h : Calls Tryd.prog 46 args w fun e w' => e = .returned v ∧ R w') (hk : ∀ w', R w' → K v w') : CallV Tryd.prog (.func (.func 46) #[] #[]) args K w := callV_of Tryd.func46 (by kernel_rfl) (by kernel_rfl) h hk
theorem cv47 {args : Array Value} {K : Value → World → Prop} {w : World} {v : Value} {R : World → Prop} (h : Calls Tryd.prog 47 args w fun e w' => e = .returned v ∧ R w') (hk : ∀ w', R w' → K v w') : CallV Tryd.prog (.func (.func 47) #[] #[]) args K w := callV_of Tryd.func47 (by kernel_rfl) (by kernel_rfl) h hk
theorem cv48 {args : Array Value} {K : Value → World → Prop} {w : World} {v : Value} {R : World → Prop} (h : Calls Tryd.prog 48 args w fun e w' => e = .returned v ∧ R w') (hk : ∀ w', R w' → K v w') : CallV Tryd.prog (.func (.func 48) #[] #[]) args K w := callV_of Tryd.func48 (by kernel_rfl) (by kernel_rfl) h hk
theorem cv49 {args : Array Value} {K : Value → World → Prop} {w : World} {v : Value} {R : World → Prop} (h : Calls Tryd.prog 49 args w fun e w' => e = .returned v ∧ R w') (hk : ∀ w', R w' → K v w') : CallV Tryd.prog (.func (.func 49) #[] #[]) args K w := callV_of Tryd.func49 (by kernel_rfl) (by kernel_rfl) h hk
theorem cv50 {args : Array Value} {K : Value → World → Prop} {w : World} {v : Value} {R : World → Prop} (h : Calls Tryd.prog 50 args w fun e w' => e = .returned v ∧ R w') (hk : ∀ w', R w' → K v w') : CallV Tryd.prog (.func (.func 50) #[] #[]) args K w := callV_of Tryd.func50 (by kernel_rfl) (by kernel_rfl) h hk
theorem cv51 {args : Array Value} {K : Value → World → Prop} {w : World} {v : Value} {R : World → Prop} (h : Calls Tryd.prog 51 args w fun e w' => e = .returned v ∧ R w') (hk : ∀ w', R w' → K v w') : CallV Tryd.prog (.func (.func 51) #[] #[]) args K w := callV_of Tryd.func51 (by kernel_rfl) (by kernel_rfl) h hk
theorem cv52 {args : Array Value} {K : Value → World → Prop} {w : World} {v : Value} {R : World → Prop} (h : Calls Tryd.prog 52 args w fun e w' => e = .returned v ∧ R w') (hk : ∀ w', R w' → K v w') : CallV Tryd.prog (.func (.func 52) #[] #[]) args K w := callV_of Tryd.func52 (by kernel_rfl) (by kernel_rfl) h hk
theorem cv53 {args : Array Value} {K : Value → World → Prop} {w : World} {v : Value} {R : World → Prop} (h : Calls Tryd.prog 53 args w fun e w' => e = .returned v ∧ R w') (hk : ∀ w', R w' → K v w') : CallV Tryd.prog (.func (.func 53) #[] #[]) args K w := callV_of Tryd.func53 (by kernel_rfl) (by kernel_rfl) h hk
theorem cv54 {args : Array Value} {K : Value → World → Prop} {w : World} {v : Value} {R : World → Prop} (h : Calls Tryd.prog 54 args w fun e w' => e = .returned v ∧ R w') (hk : ∀ w', R w' → K v w') : CallV Tryd.prog (.func (.func 54) #[] #[]) args K w := callV_of Tryd.func54 (by kernel_rfl) (by kernel_rfl) h hk
theorem cv55 {args : Array Value} {K : Value → World → Prop} {w : World} {v : Value} {R : World → Prop} (h : Calls Tryd.prog 55 args w fun e w' => e = .returned v ∧ R w') (hk : ∀ w', R w' → K v w') : CallV Tryd.prog (.func (.func 55) #[] #[]) args K w := callV_of Tryd.func55 (by kernel_rfl) (by kernel_rfl) h hk
theorem cv56 {args : Array Value} {K : Value → World → Prop} {w : World} {v : Value} {R : World → Prop} (h : Calls Tryd.prog 56 args w fun e w' => e = .returned v ∧ R w') (hk : ∀ w', R w' → K v w') : CallV Tryd.prog (.func (.func 56) #[] #[]) args K w := callV_of Tryd.func56 (by kernel_rfl) (by kernel_rfl) h hk
theorem cv57 {args : Array Value} {K : Value → World → Prop} {w : World} {v : Value} {R : World → Prop} (h : Calls Tryd.prog 57 args w fun e w' => e = .returned v ∧ R w') (hk : ∀ w', R w' → K v w') : CallV Tryd.prog (.func (.func 57) #[] #[]) args K w := callV_of Tryd.func57 (by kernel_rfl) (by kernel_rfl) h hk
theorem cv58 {args : Array Value} {K : Value → World → Prop} {w : World} {v : Value} {R : World → Prop} (h : Calls Tryd.prog 58 args w fun e w' => e = .returned v ∧ R w') (hk : ∀ w', R w' → K v w') : CallV Tryd.prog (.func (.func 58) #[] #[]) args K w := callV_of Tryd.func58 (by kernel_rfl) (by kernel_rfl) h hk
theorem cv59 {args : Array Value} {K : Value → World → Prop} {w : World} {v : Value} {R : World → Prop} (h : Calls Tryd.prog 59 args w fun e w' => e = .returned v ∧ R w') (hk : ∀ w', R w' → K v w') : CallV Tryd.prog (.func (.func 59) #[] #[]) args K w := callV_of Tryd.func59 (by kernel_rfl) (by kernel_rfl) h hk
theorem cv62 {args : Array Value} {K : Value → World → Prop} {w : World} {v : Value} {R : World → Prop} (h : Calls Tryd.prog 62 args w fun e w' => e = .returned v ∧ R w') (hk : ∀ w', R w' → K v w') : CallV Tryd.prog (.func (.func 62) #[] #[]) args K w := callV_of Tryd.func62 (by kernel_rfl) (by kernel_rfl) h hk
theorem cv63 {args : Array Value} {K : Value → World → Prop} {w : World} {v : Value} {R : World → Prop} (h : Calls Tryd.prog 63 args w fun e w' => e = .returned v ∧ R w') (hk : ∀ w', R w' → K v w') : CallV Tryd.prog (.func (.func 63) #[] #[]) args K w := callV_of Tryd.func63 (by kernel_rfl) (by kernel_rfl) h hk
theorem cv64 {args : Array Value} {K : Value → World → Prop} {w : World} {v : Value} {R : World → Prop} (h : Calls Tryd.prog 64 args w fun e w' => e = .returned v ∧ R w') (hk : ∀ w', R w' → K v w') : CallV Tryd.prog (.func (.func 64) #[] #[]) args K w := callV_of Tryd.func64 (by kernel_rfl) (by kernel_rfl) h hk
theorem cv65 {args : Array Value} {K : Value → World → Prop} {w : World} {v : Value} {R : World → Prop} (h : Calls Tryd.prog 65 args w fun e w' => e = .returned v ∧ R w') (hk : ∀ w', R w' → K v w') : CallV Tryd.prog (.func (.func 65) #[] #[]) args K w := callV_of Tryd.func65 (by kernel_rfl) (by kernel_rfl) h hk
theorem cv66 {args : Array Value} {K : Value → World → Prop} {w : World} {v : Value} {R : World → Prop} (h : Calls Tryd.prog 66 args w fun e w' => e = .returned v ∧ R w') (hk : ∀ w', R w' → K v w') : CallV Tryd.prog (.func (.func 66) #[] #[]) args K w := callV_of Tryd.func66 (by kernel_rfl) (by kernel_rfl) h hk
theorem cv67 {args : Array Value} {K : Value → World → Prop} {w : World} {v : Value} {R : World → Prop} (h : Calls Tryd.prog 67 args w fun e w' => e = .returned v ∧ R w') (hk : ∀ w', R w' → K v w') : CallV Tryd.prog (.func (.func 67) #[] #[]) args K w := callV_of Tryd.func67 (by kernel_rfl) (by kernel_rfl) h hk
theorem cv68 {args : Array Value} {K : Value → World → Prop} {w : World} {v : Value} {R : World → Prop} (h : Calls Tryd.prog 68 args w fun e w' => e = .returned v ∧ R w') (hk : ∀ w', R w' → K v w') : CallV Tryd.prog (.func (.func 68) #[] #[]) args K w := callV_of Tryd.func68 (by kernel_rfl) (by kernel_rfl) h hk
theorem cv70 {args : Array Value} {K : Value → World → Prop} {w : World} {v : Value} {R : World → Prop} (h : Calls Tryd.prog 70 args w fun e w' => e = .returned v ∧ R w') (hk : ∀ w', R w' → K v w') : CallV Tryd.prog (.func (.func 70) #[] #[]) args K w := callV_of Tryd.func70 (by kernel_rfl) (by kernel_rfl) h hk
theorem cv72 {args : Array Value} {K : Value → World → Prop} {w : World} {v : Value} {R : World → Prop} (h : Calls Tryd.prog 72 args w fun e w' => e = .returned v ∧ R w') (hk : ∀ w', R w' → K v w') : CallV Tryd.prog (.func (.func 72) #[] #[]) args K w := callV_of Tryd.func72 (by kernel_rfl) (by kernel_rfl) h hk
theorem cv74 {args : Array Value} {K : Value → World → Prop} {w : World} {v : Value} {R : World → Prop} (h : Calls Tryd.prog 74 args w fun e w' => e = .returned v ∧ R w') (hk : ∀ w', R w' → K v w') : CallV Tryd.prog (.func (.func 74) #[] #[]) args K w := callV_of Tryd.func74 (by kernel_rfl) (by kernel_rfl) h hk
theorem cv76 {args : Array Value} {K : Value → World → Prop} {w : World} {v : Value} {R : World → Prop} (h : Calls Tryd.prog 76 args w fun e w' => e = .returned v ∧ R w') (hk : ∀ w', R w' → K v w') : CallV Tryd.prog (.func (.func 76) #[] #[]) args K w := callV_of Tryd.func76 (by kernel_rfl) (by kernel_rfl) h hk

/-- canton/cantonlaw16.BookPlays, its body as a formula. -/
def F3 (x0 x1 : Value) (R : Value → World → Prop) (w0 : World) : Prop :=
  CallV Tryd.prog (.func (.func 7) #[] #[]) #[] (@hid _ ⟨fun t18_1 w2 =>
  UnK Tryd.prog Go.UnOp.not t18_1 (@hid _ ⟨fun t19_3 w4 =>
  BrK t19_3 (@hid _ ⟨
   R (Go.Value.bool false) w4⟩) (@hid _ ⟨
   BuiltinK Tryd.prog Go.Builtin.len #[22] 3 #[false] #[x0] (@hid _ ⟨fun t21_5 w6 =>
   BinK Tryd.prog Go.BinOp.gtr 3 t21_5 (Go.Value.int Go.IntKind.i64 120) (@hid _ ⟨fun t22_7 w8 =>
   GuardK t22_7 false (fun k w => k x1 w) (@hid _ ⟨fun t24_9 w10 =>
   GuardK t22_7 false (fun k w => BuiltinK Tryd.prog Go.Builtin.len #[9] 3 #[false] #[t24_9] k w) (@hid _ ⟨fun t25_11 w12 =>
   GuardK t22_7 false (fun k w => BinK Tryd.prog Go.BinOp.gtr 3 t25_11 (Go.Value.int Go.IntKind.i64 100) k w) (@hid _ ⟨fun t26_13 w14 =>
   PickK Tryd.prog t22_7 (Go.Value.bool true) t26_13 (@hid _ ⟨fun t27_15 w16 =>
   BrK t27_15 (@hid _ ⟨
    R (Go.Value.bool true) w16⟩) (@hid _ ⟨
    CallV Tryd.prog (.func (.func 8) #[] #[]) #[] (@hid _ ⟨fun t28_17 w18 =>
    LoopK3 t28_17 (Go.Value.slice none 0 0) (Go.Value.int Go.IntKind.i64 0) w18 (@hid _ ⟨fun _ x5_19 x6_20 x7_21 w22 B23 =>
     BuiltinK Tryd.prog Go.Builtin.len #[22] 3 #[false] #[x0] (@hid _ ⟨fun t31_24 w25 =>
     BinK Tryd.prog Go.BinOp.lss 3 x7_21 t31_24 (@hid _ ⟨fun t32_26 w27 =>
     BrK t32_26 (@hid _ ⟨
      IndexAtK Tryd.prog 22 x0 x7_21 (@hid _ ⟨fun t37_28 w29 =>
      LoadK Tryd.prog 30 t37_28 (@hid _ ⟨fun t38_30 w31 =>
      AllocK Tryd.prog 30 (@hid _ ⟨fun t8_32 w33 =>
      StoreK Tryd.prog 30 t8_32 t38_30 (@hid _ ⟨fun tu_34 w35 =>
      FieldAtK Tryd.prog 30 t8_32 1 (@hid _ ⟨fun t39_36 w37 =>
      FieldAtK Tryd.prog 28 t39_36 0 (@hid _ ⟨fun t40_38 w39 =>
      LoadK Tryd.prog 9 t40_38 (@hid _ ⟨fun t41_40 w41 =>
      BuiltinK Tryd.prog Go.Builtin.len #[9] 3 #[false] #[t41_40] (@hid _ ⟨fun t42_42 w43 =>
      BinK Tryd.prog Go.BinOp.gtr 3 t42_42 (Go.Value.int Go.IntKind.i64 100) (@hid _ ⟨fun t43_44 w45 =>
      GuardK t43_44 false (fun k w => FieldAtK Tryd.prog 30 t8_32 2 k w) (@hid _ ⟨fun t45_46 w47 =>
      GuardK t43_44 false (fun k w => LoadK Tryd.prog 2 t45_46 k w) (@hid _ ⟨fun t46_48 w49 =>
      GuardK t43_44 false (fun k w => BinK Tryd.prog Go.BinOp.gtr 2 t46_48 (Go.Value.int Go.IntKind.i64 1099511627776) k w) (@hid _ ⟨fun t47_50 w51 =>
      PickK Tryd.prog t43_44 (Go.Value.bool true) t47_50 (@hid _ ⟨fun t48_52 w53 =>
      GuardK t48_52 false (fun k w => FieldAtK Tryd.prog 30 t8_32 3 k w) (@hid _ ⟨fun t50_54 w55 =>
      GuardK t48_52 false (fun k w => LoadK Tryd.prog 2 t50_54 k w) (@hid _ ⟨fun t51_56 w57 =>
      GuardK t48_52 false (fun k w => BinK Tryd.prog Go.BinOp.gtr 2 t51_56 (Go.Value.int Go.IntKind.i64 1099511627776) k w) (@hid _ ⟨fun t52_58 w59 =>
      PickK Tryd.prog t48_52 (Go.Value.bool true) t52_58 (@hid _ ⟨fun t53_60 w61 =>
      BrK t53_60 (@hid _ ⟨
       R (Go.Value.bool true) w61⟩) (@hid _ ⟨
       CutK2 (@hid _ ⟨fun R62 =>
        FieldAtK Tryd.prog 30 t8_32 0 (@hid _ ⟨fun t54_66 w67 =>
        LoadK Tryd.prog 3 t54_66 (@hid _ ⟨fun t55_68 w69 =>
        BinK Tryd.prog Go.BinOp.eql 3 t55_68 (Go.Value.int Go.IntKind.i64 1) (@hid _ ⟨fun t57_70 w71 =>
        BrK t57_70 (@hid _ ⟨
         FieldAtK Tryd.prog 30 t8_32 1 (@hid _ ⟨fun t60_72 w73 =>
         LoadK Tryd.prog 28 t60_72 (@hid _ ⟨fun t61_74 w75 =>
         BuildSliceK Tryd.prog 35 1 #[(0, t61_74)] (@hid _ ⟨fun t62_76 w77 =>
         CallV Tryd.prog (.func (.func 10) #[] #[]) #[t62_76] (@hid _ ⟨fun t63_78 w79 =>
         IndexAtK Tryd.prog 26 t63_78 (Go.Value.int Go.IntKind.i64 0) (@hid _ ⟨fun t64_80 w81 =>
         LoadK Tryd.prog 33 t64_80 (@hid _ ⟨fun t65_82 w83 =>
         CallV Tryd.prog (.func (.func 9) #[] #[]) #[x6_20, t65_82] (@hid _ ⟨fun t66_84 w85 =>
         ExtractK Tryd.prog t66_84 0 (@hid _ ⟨fun t67_86 w87 =>
         ExtractK Tryd.prog t66_84 1 (@hid _ ⟨fun t68_88 w89 =>
         FieldAtK Tryd.prog 30 t8_32 1 (@hid _ ⟨fun t70_90 w91 =>
         LoadK Tryd.prog 28 t70_90 (@hid _ ⟨fun t71_92 w93 =>
         CallV Tryd.prog (.func (.func 11) #[] #[]) #[x5_19, t71_92] (@hid _ ⟨fun t72_94 w95 =>
         BinK Tryd.prog Go.BinOp.neq 3 t72_94 t68_88 (@hid _ ⟨fun t74_96 w97 =>
         BrK t74_96 (@hid _ ⟨
          R (Go.Value.bool false) w97⟩) (@hid _ ⟨
          R62 x5_19 t67_86 w97⟩)⟩) w95⟩) w93⟩) w91⟩) w89⟩) w87⟩) w85⟩) w83⟩) w81⟩) w79⟩) w77⟩) w75⟩) w73⟩) w71⟩) (@hid _ ⟨
         BinK Tryd.prog Go.BinOp.eql 3 t55_68 (Go.Value.int Go.IntKind.i64 2) (@hid _ ⟨fun t77_98 w99 =>
         BrK t77_98 (@hid _ ⟨
          FieldAtK Tryd.prog 30 t8_32 1 (@hid _ ⟨fun t80_100 w101 =>
          FieldAtK Tryd.prog 28 t80_100 0 (@hid _ ⟨fun t81_102 w103 =>
          LoadK Tryd.prog 9 t81_102 (@hid _ ⟨fun t82_104 w105 =>
          CallV Tryd.prog (.func (.func 12) #[] #[]) #[x5_19, t82_104] (@hid _ ⟨fun t83_106 w107 =>
          ExtractK Tryd.prog t83_106 0 (@hid _ ⟨fun t84_108 w109 =>
          ExtractK Tryd.prog t83_106 1 (@hid _ ⟨fun t85_110 w111 =>
          AllocK Tryd.prog 28 (@hid _ ⟨fun t11_112 w113 =>
          StoreK Tryd.prog 28 t11_112 t84_108 (@hid _ ⟨fun tu_114 w115 =>
          LoopK2 (Go.Value.slice none 0 0) (Go.Value.int Go.IntKind.i64 0) w115 (@hid _ ⟨fun _ x13_116 x14_117 w118 B119 =>
           BuiltinK Tryd.prog Go.Builtin.len #[26] 3 #[false] #[x6_20] (@hid _ ⟨fun t88_120 w121 =>
           BinK Tryd.prog Go.BinOp.lss 3 x14_117 t88_120 (@hid _ ⟨fun t89_122 w123 =>
           BrK t89_122 (@hid _ ⟨
            DrawK (@hid _ ⟨fun S124 w125 =>
            TakeS Tryd.prog S124 (Instr.indexAt 26 x6_20 x14_117) (@hid _ ⟨fun t94_126 =>
            TakeS Tryd.prog S124 (Instr.fieldAt 33 t94_126 0) (@hid _ ⟨fun t95_127 =>
            TakeS Tryd.prog S124 (Instr.loadAt 9 t95_127) (@hid _ ⟨fun t96_128 =>
            TakeS Tryd.prog S124 (Instr.fieldAt 30 t8_32 1) (@hid _ ⟨fun t97_129 =>
            TakeS Tryd.prog S124 (Instr.fieldAt 28 t97_129 0) (@hid _ ⟨fun t98_130 =>
            TakeS Tryd.prog S124 (Instr.loadAt 9 t98_130) (@hid _ ⟨fun t99_131 =>
            BinT Tryd.prog S124 Go.BinOp.neq 9 t96_128 t99_131 (@hid _ ⟨fun t100_132 =>
            BrK t100_132 (@hid _ ⟨
             IndexAtK Tryd.prog 26 x6_20 x14_117 (@hid _ ⟨fun t104_133 w134 =>
             LoadK Tryd.prog 33 t104_133 (@hid _ ⟨fun t105_135 w136 =>
             BuildSliceK Tryd.prog 26 1 #[(0, t105_135)] (@hid _ ⟨fun t106_137 w138 =>
             BuiltinK Tryd.prog Go.Builtin.append #[26, 26] 26 #[false, false] #[x13_116, t106_137] (@hid _ ⟨fun t107_139 w140 =>
             BinK Tryd.prog Go.BinOp.add 3 x14_117 (Go.Value.int Go.IntKind.i64 1) (@hid _ ⟨fun t91_141 w142 =>
             B119 t107_139 t91_141 w142⟩) w140⟩) w138⟩) w136⟩) w134⟩) w125⟩) (@hid _ ⟨
             BinK Tryd.prog Go.BinOp.add 3 x14_117 (Go.Value.int Go.IntKind.i64 1) (@hid _ ⟨fun t91_143 w144 =>
             B119 x13_116 t91_143 w144⟩) w125⟩)⟩)⟩)⟩)⟩)⟩)⟩)⟩)⟩) w123⟩) (@hid _ ⟨
            BuiltinK Tryd.prog Go.Builtin.len #[26] 3 #[false] #[x13_116] (@hid _ ⟨fun t110_145 w146 =>
            BuiltinK Tryd.prog Go.Builtin.len #[26] 3 #[false] #[x6_20] (@hid _ ⟨fun t112_147 w148 =>
            BinK Tryd.prog Go.BinOp.lss 3 t110_145 t112_147 (@hid _ ⟨fun t113_149 w150 =>
            BinK Tryd.prog Go.BinOp.neq 4 t85_110 t113_149 (@hid _ ⟨fun t114_151 w152 =>
            GuardK t114_151 false (fun k w => k x5_19 w) (@hid _ ⟨fun t116_153 w154 =>
            GuardK t114_151 false (fun k w => FieldAtK Tryd.prog 30 t8_32 1 k w) (@hid _ ⟨fun t117_155 w156 =>
            GuardK t114_151 false (fun k w => FieldAtK Tryd.prog 28 t117_155 0 k w) (@hid _ ⟨fun t118_157 w158 =>
            GuardK t114_151 false (fun k w => LoadK Tryd.prog 9 t118_157 k w) (@hid _ ⟨fun t119_159 w160 =>
            GuardK t114_151 false (fun k w => CallV Tryd.prog (.func (.func 13) #[] #[]) #[t116_153, t119_159] k w) (@hid _ ⟨fun t120_161 w162 =>
            GuardK t114_151 false (fun k w => k t85_110 w) (@hid _ ⟨fun t121_163 w164 =>
            GuardK t114_151 false (fun k w => BinK Tryd.prog Go.BinOp.neq 4 t120_161 t121_163 k w) (@hid _ ⟨fun t122_165 w166 =>
            PickK Tryd.prog t114_151 (Go.Value.bool true) t122_165 (@hid _ ⟨fun t123_167 w168 =>
            BrK t123_167 (@hid _ ⟨
             R (Go.Value.bool false) w168⟩) (@hid _ ⟨
             R62 x5_19 x13_116 w168⟩)⟩) w166⟩) w164⟩) w162⟩) w160⟩) w158⟩) w156⟩) w154⟩) w152⟩) w150⟩) w148⟩) w146⟩) w123⟩)⟩) w121⟩) w118⟩)⟩) w113⟩) w111⟩) w109⟩) w107⟩) w105⟩) w103⟩) w101⟩) w99⟩) (@hid _ ⟨
          BinK Tryd.prog Go.BinOp.eql 3 t55_68 (Go.Value.int Go.IntKind.i64 3) (@hid _ ⟨fun t126_169 w170 =>
          BrK t126_169 (@hid _ ⟨
           FieldAtK Tryd.prog 30 t8_32 2 (@hid _ ⟨fun t129_171 w172 =>
           LoadK Tryd.prog 2 t129_171 (@hid _ ⟨fun t130_173 w174 =>
           FieldAtK Tryd.prog 30 t8_32 3 (@hid _ ⟨fun t131_175 w176 =>
           LoadK Tryd.prog 2 t131_175 (@hid _ ⟨fun t132_177 w178 =>
           FieldAtK Tryd.prog 30 t8_32 1 (@hid _ ⟨fun t133_179 w180 =>
           FieldAtK Tryd.prog 28 t133_179 0 (@hid _ ⟨fun t134_181 w182 =>
           LoadK Tryd.prog 9 t134_181 (@hid _ ⟨fun t135_183 w184 =>
           CallV Tryd.prog (.func (.func 14) #[] #[]) #[x6_20, t130_173, t132_177, t135_183] (@hid _ ⟨fun t136_185 w186 =>
           ExtractK Tryd.prog t136_185 0 (@hid _ ⟨fun t137_187 w188 =>
           ExtractK Tryd.prog t136_185 1 (@hid _ ⟨fun t138_189 w190 =>
           FieldAtK Tryd.prog 30 t8_32 2 (@hid _ ⟨fun t140_191 w192 =>
           LoadK Tryd.prog 2 t140_191 (@hid _ ⟨fun t141_193 w194 =>
           FieldAtK Tryd.prog 30 t8_32 3 (@hid _ ⟨fun t142_195 w196 =>
           LoadK Tryd.prog 2 t142_195 (@hid _ ⟨fun t143_197 w198 =>
           FieldAtK Tryd.prog 30 t8_32 1 (@hid _ ⟨fun t144_199 w200 =>
           FieldAtK Tryd.prog 28 t144_199 0 (@hid _ ⟨fun t145_201 w202 =>
           LoadK Tryd.prog 9 t145_201 (@hid _ ⟨fun t146_203 w204 =>
           CallV Tryd.prog (.func (.func 16) #[] #[]) #[x5_19, t141_193, t143_197, t146_203] (@hid _ ⟨fun t147_205 w206 =>
           CallV Tryd.prog (.func (.func 15) #[] #[]) #[t147_205, t138_189] (@hid _ ⟨fun t149_207 w208 =>
           UnK Tryd.prog Go.UnOp.not t149_207 (@hid _ ⟨fun t150_209 w210 =>
           BrK t150_209 (@hid _ ⟨
            R (Go.Value.bool false) w210⟩) (@hid _ ⟨
            R62 x5_19 t137_187 w210⟩)⟩) w208⟩) w206⟩) w204⟩) w202⟩) w200⟩) w198⟩) w196⟩) w194⟩) w192⟩) w190⟩) w188⟩) w186⟩) w184⟩) w182⟩) w180⟩) w178⟩) w176⟩) w174⟩) w172⟩) w170⟩) (@hid _ ⟨
           BinK Tryd.prog Go.BinOp.eql 3 t55_68 (Go.Value.int Go.IntKind.i64 4) (@hid _ ⟨fun t153_211 w212 =>
           BrK t153_211 (@hid _ ⟨
            CallV Tryd.prog (.func (.func 17) #[] #[]) #[x5_19] (@hid _ ⟨fun t155_213 w214 =>
            BinK Tryd.prog Go.BinOp.eql 24 t155_213 (Go.Value.pointer none) (@hid _ ⟨fun t157_215 w216 =>
            BrK t157_215 (@hid _ ⟨
             R (Go.Value.bool false) w216⟩) (@hid _ ⟨
             CallV Tryd.prog (.func (.func 16) #[] #[]) #[x5_19, (Go.Value.int Go.IntKind.i64 1099511627776), (Go.Value.int Go.IntKind.i64 0), (Go.Value.string { data := #[] })] (@hid _ ⟨fun t159_217 w218 =>
             R62 t155_213 x6_20 w218⟩) w216⟩)⟩) w214⟩) w212⟩) (@hid _ ⟨
            R62 x5_19 x6_20 w212⟩)⟩) w170⟩)⟩) w99⟩)⟩) w71⟩)⟩) w69⟩) w67⟩) w61⟩)
       (@hid _ ⟨fun _ x5_63 x6_64 w65 =>
        CallV Tryd.prog (.func (.func 19) #[] #[]) #[x5_63] (@hid _ ⟨fun t162_219 w220 =>
        CallV Tryd.prog (.func (.func 18) #[] #[]) #[t162_219, x6_64] (@hid _ ⟨fun t164_221 w222 =>
        UnK Tryd.prog Go.UnOp.not t164_221 (@hid _ ⟨fun t165_223 w224 =>
        BrK t165_223 (@hid _ ⟨
         R (Go.Value.bool false) w224⟩) (@hid _ ⟨
         BinK Tryd.prog Go.BinOp.add 3 x7_21 (Go.Value.int Go.IntKind.i64 1) (@hid _ ⟨fun t34_225 w226 =>
         B23 x5_63 x6_64 t34_225 w226⟩) w224⟩)⟩) w222⟩) w220⟩) w65⟩)⟩)⟩) w59⟩) w57⟩) w55⟩) w53⟩) w51⟩) w49⟩) w47⟩) w45⟩) w43⟩) w41⟩) w39⟩) w37⟩) w35⟩) w33⟩) w31⟩) w29⟩) w27⟩) (@hid _ ⟨
      CallV Tryd.prog (.func (.func 20) #[] #[]) #[x5_19, x1] (@hid _ ⟨fun t168_227 w228 =>
      CallV Tryd.prog (.func (.func 21) #[] #[]) #[x6_20, x1] (@hid _ ⟨fun t171_229 w230 =>
      CallV Tryd.prog (.func (.func 15) #[] #[]) #[t168_227, t171_229] (@hid _ ⟨fun t172_231 w232 =>
      R t172_231 w232⟩) w230⟩) w228⟩) w27⟩)⟩) w25⟩) w22⟩)⟩) w16⟩)⟩) w14⟩) w12⟩) w10⟩) w8⟩) w6⟩) w4⟩)⟩) w2⟩) w0
def a3 : Ann := (.seq .no (.seq (.seq .no (.cond (.seq .no .no) .no)) (.seq (.seq .no (.cond (.seq .no .no) .no)) (.seq .no (.seq .no (.seq (.seq .no (.block (.loop [5, 6, 7] [(4, 4), (8, 17), (29, 165)] (.seq (.seq .no (.cond .no .no)) (.seq (.block (.seq .no (.seq (.seq .no (.cond (.seq .no .no) .no)) (.cut [5, 6] [(4, 4), (9, 17), (54, 160)] (.seq .no (.block (.seq .no (.cond (.seq .no (.seq (.seq .no (.cond (.seq .no .no) .no)) .no)) (.seq .no (.cond (.seq .no (.seq .no (.seq (.seq .no (.block (.loop [13, 14] [(86, 107)] (.seq (.seq .no (.cond .no .no)) (.seq (.block (.seq (.plan (.take 0 (.take 1 (.take 2 (.take 3 (.take 4 (.take 5 (.take 6 (.take 7 (.take 8 .done)))))))))) (.cond .no .no))) .no))))) (.seq (.seq .no (.cond (.seq .no .no) .no)) .no)))) (.seq .no (.cond (.seq .no (.seq (.seq .no (.cond (.seq .no .no) .no)) .no)) (.seq .no (.cond (.seq .no (.seq (.seq .no (.cond (.seq .no .no) .no)) (.seq .no .no))) .no)))))))))) (.seq .no (.cond (.seq .no .no) .no)))))) .no))))) (.seq .no .no)))))))
theorem F3_eq (x0 x1 : Value) (R : Value → World → Prop) (w0 : World) : F3 x0 x1 R w0 = vc Tryd.prog (bodyOf Tryd.f3) a3 (retQ Tryd.prog Tryd.f3 R) (envOf 0 [x0, x1]) w0 := by kernel_rfl
theorem F3_calls (x0 x1 : Value) (R : Value → World → Prop) (w0 : World) (h : F3 x0 x1 R w0) : CallK Tryd.prog 3 #[x0, x1] R w0 :=
  calls_vc (c := bodyOf Tryd.f3) Tryd.func3 (by kernel_rfl) (by kernel_rfl) a3 (by kernel_rfl) (by kernel_rfl) [x0, x1] (by rw [Tryd.ntmps3]; exact Nat.le_of_ble_eq_true rfl) w0 R ((F3_eq x0 x1 R w0).mp h)

/-- canton/cantonlaw16.BookTwo, its body as a formula. -/
def F4 (x0 x1 x2 : Value) (R : Value → World → Prop) (w0 : World) : Prop :=
  BoxK Tryd.prog 28 x0 (@hid _ ⟨fun t3_1 w2 =>
  BoxK Tryd.prog 28 x1 (@hid _ ⟨fun t4_3 w4 =>
  CallV Tryd.prog (.func (.func 7) #[] #[]) #[] (@hid _ ⟨fun t8_5 w6 =>
  UnK Tryd.prog Go.UnOp.not t8_5 (@hid _ ⟨fun t9_7 w8 =>
  BrK t9_7 (@hid _ ⟨
   R (Go.Value.bool false) w8⟩) (@hid _ ⟨
   CallV Tryd.prog (.func (.func 22) #[] #[]) #[x2] (@hid _ ⟨fun t11_9 w10 =>
   UnK Tryd.prog Go.UnOp.not t11_9 (@hid _ ⟨fun t12_11 w12 =>
   GuardK t12_11 false (fun k w => FieldAtK Tryd.prog 28 t3_1 0 k w) (@hid _ ⟨fun t14_13 w14 =>
   GuardK t12_11 false (fun k w => LoadK Tryd.prog 9 t14_13 k w) (@hid _ ⟨fun t15_15 w16 =>
   GuardK t12_11 false (fun k w => BuiltinK Tryd.prog Go.Builtin.len #[9] 3 #[false] #[t15_15] k w) (@hid _ ⟨fun t16_17 w18 =>
   GuardK t12_11 false (fun k w => BinK Tryd.prog Go.BinOp.gtr 3 t16_17 (Go.Value.int Go.IntKind.i64 100) k w) (@hid _ ⟨fun t17_19 w20 =>
   PickK Tryd.prog t12_11 (Go.Value.bool true) t17_19 (@hid _ ⟨fun t18_21 w22 =>
   GuardK t18_21 false (fun k w => FieldAtK Tryd.prog 28 t4_3 0 k w) (@hid _ ⟨fun t20_23 w24 =>
   GuardK t18_21 false (fun k w => LoadK Tryd.prog 9 t20_23 k w) (@hid _ ⟨fun t21_25 w26 =>
   GuardK t18_21 false (fun k w => BuiltinK Tryd.prog Go.Builtin.len #[9] 3 #[false] #[t21_25] k w) (@hid _ ⟨fun t22_27 w28 =>
   GuardK t18_21 false (fun k w => BinK Tryd.prog Go.BinOp.gtr 3 t22_27 (Go.Value.int Go.IntKind.i64 100) k w) (@hid _ ⟨fun t23_29 w30 =>
   PickK Tryd.prog t18_21 (Go.Value.bool true) t23_29 (@hid _ ⟨fun t24_31 w32 =>
   BrK t24_31 (@hid _ ⟨
    R (Go.Value.bool true) w32⟩) (@hid _ ⟨
    LoadK Tryd.prog 28 t3_1 (@hid _ ⟨fun t25_33 w34 =>
    LoadK Tryd.prog 28 t4_3 (@hid _ ⟨fun t26_35 w36 =>
    BuildSliceK Tryd.prog 35 2 #[(0, t25_33), (1, t26_35)] (@hid _ ⟨fun t27_37 w38 =>
    CallV Tryd.prog (.func (.func 10) #[] #[]) #[t27_37] (@hid _ ⟨fun t28_39 w40 =>
    DrawK (@hid _ ⟨fun S41 w42 =>
    TakeS Tryd.prog S41 (Instr.loadAt 28 t3_1) (@hid _ ⟨fun t29_43 =>
    TakeS Tryd.prog S41 (Instr.loadAt 28 t4_3) (@hid _ ⟨fun t30_44 =>
    TakeS Tryd.prog S41 (Instr.indexAt 26 t28_39 (Go.Value.int Go.IntKind.i64 0)) (@hid _ ⟨fun t33_45 =>
    TakeS Tryd.prog S41 (Instr.loadAt 33 t33_45) (@hid _ ⟨fun t34_46 =>
    TakeS Tryd.prog S41 (Instr.indexAt 26 t28_39 (Go.Value.int Go.IntKind.i64 1)) (@hid _ ⟨fun t36_47 =>
    TakeS Tryd.prog S41 (Instr.loadAt 33 t36_47) (@hid _ ⟨fun t37_48 =>
    (CallV Tryd.prog (.func (.func 23) #[] #[]) #[t29_43, t30_44] (@hid _ ⟨fun t31_49 w50 =>
    S41 w50 ∧
    (CallV Tryd.prog (.func (.func 24) #[] #[]) #[t34_46, t37_48] (@hid _ ⟨fun t38_51 w52 =>
    S41 w52 ∧
    BinT Tryd.prog S41 Go.BinOp.eql 4 t31_49 t38_51 (@hid _ ⟨fun t39_53 =>
    TakeG t39_53 true (fun k => TakeS Tryd.prog S41 (Instr.loadAt 28 t4_3) k) (@hid _ ⟨fun t41_54 =>
    TakeG t39_53 true (fun k => TakeS Tryd.prog S41 (Instr.loadAt 28 t3_1) k) (@hid _ ⟨fun t42_55 =>
    TakeG t39_53 true (fun k => k t28_39) (@hid _ ⟨fun t44_56 =>
    TakeG t39_53 true (fun k => TakeS Tryd.prog S41 (Instr.indexAt 26 t44_56 (Go.Value.int Go.IntKind.i64 1)) k) (@hid _ ⟨fun t45_57 =>
    TakeG t39_53 true (fun k => TakeS Tryd.prog S41 (Instr.loadAt 33 t45_57) k) (@hid _ ⟨fun t46_58 =>
    TakeG t39_53 true (fun k => k t28_39) (@hid _ ⟨fun t47_59 =>
    TakeG t39_53 true (fun k => TakeS Tryd.prog S41 (Instr.indexAt 26 t47_59 (Go.Value.int Go.IntKind.i64 0)) k) (@hid _ ⟨fun t48_60 =>
    TakeG t39_53 true (fun k => TakeS Tryd.prog S41 (Instr.loadAt 33 t48_60) k) (@hid _ ⟨fun t49_61 =>
    (GuardK t39_53 true (fun k w => CallV Tryd.prog (.func (.func 23) #[] #[]) #[t41_54, t42_55] k w) (@hid _ ⟨fun t43_62 w63 =>
    S41 w63 ∧
    (GuardK t39_53 true (fun k w => CallV Tryd.prog (.func (.func 24) #[] #[]) #[t46_58, t49_61] k w) (@hid _ ⟨fun t50_64 w65 =>
    S41 w65 ∧
    TakeG t39_53 true (fun k => BinT Tryd.prog S41 Go.BinOp.eql 4 t43_62 t50_64 k) (@hid _ ⟨fun t51_66 =>
    PickT t39_53 t51_66 (Go.Value.bool false) (@hid _ ⟨fun t52_67 =>
    TakeG t52_67 true (fun k => k x2) (@hid _ ⟨fun t54_68 =>
    TakeG t52_67 true (fun k => k x2) (@hid _ ⟨fun t56_69 =>
    (GuardK t52_67 true (fun k w => CallV Tryd.prog (.func (.func 25) #[] #[]) #[t54_68] k w) (@hid _ ⟨fun t55_70 w71 =>
    S41 w71 ∧
    (GuardK t52_67 true (fun k w => CallV Tryd.prog (.func (.func 10) #[] #[]) #[t56_69] k w) (@hid _ ⟨fun t57_72 w73 =>
    S41 w73 ∧
    (GuardK t52_67 true (fun k w => CallV Tryd.prog (.func (.func 26) #[] #[]) #[t57_72] k w) (@hid _ ⟨fun t58_74 w75 =>
    S41 w75 ∧
    TakeG t52_67 true (fun k => BinT Tryd.prog S41 Go.BinOp.eql 3 t55_70 t58_74 k) (@hid _ ⟨fun t59_76 =>
    PickT t52_67 t59_76 (Go.Value.bool false) (@hid _ ⟨fun t60_77 =>
    R t60_77 w75⟩)⟩)⟩) w73) ∧
    True⟩) w71) ∧
    True⟩) w65) ∧
    True⟩)⟩)⟩)⟩)⟩) w63) ∧
    True⟩) w52) ∧
    True⟩)⟩)⟩)⟩)⟩)⟩)⟩)⟩)⟩)⟩) w50) ∧
    True⟩) w42) ∧
    True⟩)⟩)⟩)⟩)⟩)⟩)⟩) w40⟩) w38⟩) w36⟩) w34⟩) w32⟩)⟩) w30⟩) w28⟩) w26⟩) w24⟩) w22⟩) w20⟩) w18⟩) w16⟩) w14⟩) w12⟩) w10⟩) w8⟩)⟩) w6⟩) w4⟩) w2⟩) w0
def a4 : Ann := (.seq .no (.seq (.seq .no (.cond (.seq .no .no) .no)) (.seq (.seq .no (.cond (.seq .no .no) .no)) (.seq .no (.seq (.plan (.take 0 (.take 1 (.take 3 (.take 4 (.take 5 (.take 6 (.take 7 (.take 8 (.alt 2 (.alt 9 (.take 10 (.take 11 (.take 12 (.take 13 (.take 15 (.take 16 (.take 17 (.take 18 (.take 19 (.take 20 (.alt 14 (.alt 21 (.take 22 (.take 23 (.take 24 (.take 25 (.take 27 (.alt 26 (.alt 28 (.alt 29 (.take 30 (.take 31 (.take 32 .done))) .nil) .nil) .nil)))))) .nil) .nil))))))))))) .nil) .nil)))))))))) .no)))))
theorem F4_eq (x0 x1 x2 : Value) (R : Value → World → Prop) (w0 : World) : F4 x0 x1 x2 R w0 = vc Tryd.prog (bodyOf Tryd.f4) a4 (retQ Tryd.prog Tryd.f4 R) (envOf 0 [x0, x1, x2]) w0 := by kernel_rfl
theorem F4_calls (x0 x1 x2 : Value) (R : Value → World → Prop) (w0 : World) (h : F4 x0 x1 x2 R w0) : CallK Tryd.prog 4 #[x0, x1, x2] R w0 :=
  calls_vc (c := bodyOf Tryd.f4) Tryd.func4 (by kernel_rfl) (by kernel_rfl) a4 (by kernel_rfl) (by kernel_rfl) [x0, x1, x2] (by rw [Tryd.ntmps4]; exact Nat.le_of_ble_eq_true rfl) w0 R ((F4_eq x0 x1 x2 R w0).mp h)

/-- canton/cantonlaw16.BookFull, its body as a formula. -/
def F5 (x0 x1 : Value) (R : Value → World → Prop) (w0 : World) : Prop :=
  CallV Tryd.prog (.func (.func 7) #[] #[]) #[] (@hid _ ⟨fun t14_1 w2 =>
  UnK Tryd.prog Go.UnOp.not t14_1 (@hid _ ⟨fun t15_3 w4 =>
  BrK t15_3 (@hid _ ⟨
   R (Go.Value.bool false) w4⟩) (@hid _ ⟨
   CallV Tryd.prog (.func (.func 8) #[] #[]) #[] (@hid _ ⟨fun t16_5 w6 =>
   LoopK1 (Go.Value.int Go.IntKind.i64 0) w6 (@hid _ ⟨fun _ x6_7 w8 B9 =>
    BinK Tryd.prog Go.BinOp.rem 5 x0 (Go.Value.int Go.IntKind.u8 4) (@hid _ ⟨fun t19_10 w11 =>
    ConvK Tryd.prog 5 3 t19_10 (@hid _ ⟨fun t20_12 w13 =>
    BinK Tryd.prog Go.BinOp.add 3 (Go.Value.int Go.IntKind.i64 64) t20_12 (@hid _ ⟨fun t21_14 w15 =>
    BinK Tryd.prog Go.BinOp.lss 3 x6_7 t21_14 (@hid _ ⟨fun t22_16 w17 =>
    BrK t22_16 (@hid _ ⟨
     CallV Tryd.prog (.func (.func 27) #[] #[]) #[x6_7] (@hid _ ⟨fun t27_18 w19 =>
     BuildK Tryd.prog 28 #[(0, t27_18), (2, (Go.Value.int Go.IntKind.i64 5))] (@hid _ ⟨fun t28_20 w21 =>
     CallV Tryd.prog (.func (.func 11) #[] #[]) #[t16_5, t28_20] (@hid _ ⟨fun t29_22 w23 =>
     BinK Tryd.prog Go.BinOp.eql 3 t29_22 (Go.Value.int Go.IntKind.i64 0) (@hid _ ⟨fun t31_24 w25 =>
     BinK Tryd.prog Go.BinOp.lss 3 x6_7 (Go.Value.int Go.IntKind.i64 64) (@hid _ ⟨fun t33_26 w27 =>
     BinK Tryd.prog Go.BinOp.neq 4 t31_24 t33_26 (@hid _ ⟨fun t34_28 w29 =>
     GuardK t34_28 false (fun k w => k x6_7 w) (@hid _ ⟨fun t36_30 w31 =>
     GuardK t34_28 false (fun k w => BinK Tryd.prog Go.BinOp.geq 3 t36_30 (Go.Value.int Go.IntKind.i64 64) k w) (@hid _ ⟨fun t37_32 w33 =>
     GuardK t34_28 false (fun k w => k t37_32 w) (@hid _ ⟨fun t38_34 w35 =>
     GuardK t38_34 true (fun k w => k t29_22 w) (@hid _ ⟨fun t39_36 w37 =>
     GuardK t38_34 true (fun k w => BinK Tryd.prog Go.BinOp.neq 3 t39_36 (Go.Value.int Go.IntKind.i64 9) k w) (@hid _ ⟨fun t40_38 w39 =>
     GuardK t34_28 false (fun k w => PickK Tryd.prog t38_34 t40_38 (Go.Value.bool false) k w) (@hid _ ⟨fun t41_40 w41 =>
     PickK Tryd.prog t34_28 (Go.Value.bool true) t41_40 (@hid _ ⟨fun t42_42 w43 =>
     BrK t42_42 (@hid _ ⟨
      R (Go.Value.bool false) w43⟩) (@hid _ ⟨
      BinK Tryd.prog Go.BinOp.add 3 x6_7 (Go.Value.int Go.IntKind.i64 1) (@hid _ ⟨fun t24_44 w45 =>
      B9 t24_44 w45⟩) w43⟩)⟩) w41⟩) w39⟩) w37⟩) w35⟩) w33⟩) w31⟩) w29⟩) w27⟩) w25⟩) w23⟩) w21⟩) w19⟩) w17⟩) (@hid _ ⟨
     BinK Tryd.prog Go.BinOp.rem 5 x1 (Go.Value.int Go.IntKind.u8 64) (@hid _ ⟨fun t44_46 w47 =>
     ConvK Tryd.prog 5 3 t44_46 (@hid _ ⟨fun t45_48 w49 =>
     CallV Tryd.prog (.func (.func 27) #[] #[]) #[t45_48] (@hid _ ⟨fun t48_50 w51 =>
     BuildK Tryd.prog 28 #[(0, t48_50), (2, (Go.Value.int Go.IntKind.i64 6))] (@hid _ ⟨fun t49_52 w53 =>
     CallV Tryd.prog (.func (.func 11) #[] #[]) #[t16_5, t49_52] (@hid _ ⟨fun t50_54 w55 =>
     CallV Tryd.prog (.func (.func 27) #[] #[]) #[t45_48] (@hid _ ⟨fun t53_56 w57 =>
     BuildK Tryd.prog 28 #[(0, t53_56), (2, (Go.Value.int Go.IntKind.i64 4))] (@hid _ ⟨fun t54_58 w59 =>
     CallV Tryd.prog (.func (.func 11) #[] #[]) #[t16_5, t54_58] (@hid _ ⟨fun t55_60 w61 =>
     CallV Tryd.prog (.func (.func 27) #[] #[]) #[t45_48] (@hid _ ⟨fun t58_62 w63 =>
     CallV Tryd.prog (.func (.func 13) #[] #[]) #[t16_5, t58_62] (@hid _ ⟨fun t59_64 w65 =>
     BuildK Tryd.prog 28 #[(0, (Go.Value.string { data := #[47, 122] }))] (@hid _ ⟨fun t61_66 w67 =>
     CallV Tryd.prog (.func (.func 11) #[] #[]) #[t16_5, t61_66] (@hid _ ⟨fun t62_68 w69 =>
     CallV Tryd.prog (.func (.func 27) #[] #[]) #[t45_48] (@hid _ ⟨fun t65_70 w71 =>
     BuildK Tryd.prog 28 #[(0, t65_70)] (@hid _ ⟨fun t66_72 w73 =>
     CallV Tryd.prog (.func (.func 11) #[] #[]) #[t16_5, t66_72] (@hid _ ⟨fun t67_74 w75 =>
     BinK Tryd.prog Go.BinOp.eql 3 t50_54 (Go.Value.int Go.IntKind.i64 0) (@hid _ ⟨fun t69_76 w77 =>
     GuardK t69_76 true (fun k w => k t55_60 w) (@hid _ ⟨fun t71_78 w79 =>
     GuardK t69_76 true (fun k w => BinK Tryd.prog Go.BinOp.eql 3 t71_78 (Go.Value.int Go.IntKind.i64 11) k w) (@hid _ ⟨fun t72_80 w81 =>
     PickK Tryd.prog t69_76 t72_80 (Go.Value.bool false) (@hid _ ⟨fun t73_82 w83 =>
     GuardK t73_82 true (fun k w => k t59_64 w) (@hid _ ⟨fun t75_84 w85 =>
     PickK Tryd.prog t73_82 t75_84 (Go.Value.bool false) (@hid _ ⟨fun t76_86 w87 =>
     GuardK t76_86 true (fun k w => k t62_68 w) (@hid _ ⟨fun t78_88 w89 =>
     GuardK t76_86 true (fun k w => BinK Tryd.prog Go.BinOp.eql 3 t78_88 (Go.Value.int Go.IntKind.i64 0) k w) (@hid _ ⟨fun t79_90 w91 =>
     PickK Tryd.prog t76_86 t79_90 (Go.Value.bool false) (@hid _ ⟨fun t80_92 w93 =>
     GuardK t80_92 true (fun k w => k t67_74 w) (@hid _ ⟨fun t82_94 w95 =>
     GuardK t80_92 true (fun k w => BinK Tryd.prog Go.BinOp.eql 3 t82_94 (Go.Value.int Go.IntKind.i64 9) k w) (@hid _ ⟨fun t83_96 w97 =>
     PickK Tryd.prog t80_92 t83_96 (Go.Value.bool false) (@hid _ ⟨fun t84_98 w99 =>
     GuardK t84_98 true (fun k w => k t16_5 w) (@hid _ ⟨fun t86_100 w101 =>
     GuardK t84_98 true (fun k w => CallV Tryd.prog (.func (.func 19) #[] #[]) #[t86_100] k w) (@hid _ ⟨fun t87_102 w103 =>
     GuardK t84_98 true (fun k w => BuiltinK Tryd.prog Go.Builtin.len #[35] 3 #[false] #[t87_102] k w) (@hid _ ⟨fun t88_104 w105 =>
     GuardK t84_98 true (fun k w => BinK Tryd.prog Go.BinOp.eql 3 t88_104 (Go.Value.int Go.IntKind.i64 64) k w) (@hid _ ⟨fun t89_106 w107 =>
     PickK Tryd.prog t84_98 t89_106 (Go.Value.bool false) (@hid _ ⟨fun t90_108 w109 =>
     GuardK t90_108 true (fun k w => k t16_5 w) (@hid _ ⟨fun t92_110 w111 =>
     GuardK t90_108 true (fun k w => CallV Tryd.prog (.func (.func 20) #[] #[]) #[t92_110, (Go.Value.string { data := #[47, 113] })] k w) (@hid _ ⟨fun t93_112 w113 =>
     GuardK t90_108 true (fun k w => BuiltinK Tryd.prog Go.Builtin.len #[41] 3 #[false] #[t93_112] k w) (@hid _ ⟨fun t94_114 w115 =>
     GuardK t90_108 true (fun k w => BinK Tryd.prog Go.BinOp.eql 3 t94_114 (Go.Value.int Go.IntKind.i64 63) k w) (@hid _ ⟨fun t95_116 w117 =>
     PickK Tryd.prog t90_108 t95_116 (Go.Value.bool false) (@hid _ ⟨fun t96_118 w119 =>
     R t96_118 w119⟩) w117⟩) w115⟩) w113⟩) w111⟩) w109⟩) w107⟩) w105⟩) w103⟩) w101⟩) w99⟩) w97⟩) w95⟩) w93⟩) w91⟩) w89⟩) w87⟩) w85⟩) w83⟩) w81⟩) w79⟩) w77⟩) w75⟩) w73⟩) w71⟩) w69⟩) w67⟩) w65⟩) w63⟩) w61⟩) w59⟩) w57⟩) w55⟩) w53⟩) w51⟩) w49⟩) w47⟩) w17⟩)⟩) w15⟩) w13⟩) w11⟩) w8⟩)⟩) w4⟩)⟩) w2⟩) w0
def a5 : Ann := (.seq .no (.seq (.seq .no (.cond (.seq .no .no) .no)) (.seq .no (.seq (.seq .no (.block (.loop [6] [(4, 4), (7, 7), (17, 42)] (.seq (.seq .no (.cond .no .no)) (.seq (.block (.seq .no (.seq .no (.cond (.seq .no .no) .no)))) .no))))) (.seq .no (.seq .no (.seq .no (.seq .no (.seq .no (.seq .no (.seq .no .no)))))))))))
theorem F5_eq (x0 x1 : Value) (R : Value → World → Prop) (w0 : World) : F5 x0 x1 R w0 = vc Tryd.prog (bodyOf Tryd.f5) a5 (retQ Tryd.prog Tryd.f5 R) (envOf 0 [x0, x1]) w0 := by kernel_rfl
theorem F5_calls (x0 x1 : Value) (R : Value → World → Prop) (w0 : World) (h : F5 x0 x1 R w0) : CallK Tryd.prog 5 #[x0, x1] R w0 :=
  calls_vc (c := bodyOf Tryd.f5) Tryd.func5 (by kernel_rfl) (by kernel_rfl) a5 (by kernel_rfl) (by kernel_rfl) [x0, x1] (by rw [Tryd.ntmps5]; exact Nat.le_of_ble_eq_true rfl) w0 R ((F5_eq x0 x1 R w0).mp h)

/-- canton/cantonlaw16.BookNewest, its body as a formula. -/
def F6 (x0 x1 : Value) (R : Value → World → Prop) (w0 : World) : Prop :=
  CallV Tryd.prog (.func (.func 7) #[] #[]) #[] (@hid _ ⟨fun t15_1 w2 =>
  UnK Tryd.prog Go.UnOp.not t15_1 (@hid _ ⟨fun t16_3 w4 =>
  BrK t16_3 (@hid _ ⟨
   R (Go.Value.bool false) w4⟩) (@hid _ ⟨
   BuiltinK Tryd.prog Go.Builtin.len #[35] 3 #[false] #[x0] (@hid _ ⟨fun t18_5 w6 =>
   BinK Tryd.prog Go.BinOp.gtr 3 t18_5 (Go.Value.int Go.IntKind.i64 30) (@hid _ ⟨fun t19_7 w8 =>
   GuardK t19_7 false (fun k w => k x0 w) (@hid _ ⟨fun t21_9 w10 =>
   GuardK t19_7 false (fun k w => BuiltinK Tryd.prog Go.Builtin.len #[35] 3 #[false] #[t21_9] k w) (@hid _ ⟨fun t22_11 w12 =>
   GuardK t19_7 false (fun k w => BinK Tryd.prog Go.BinOp.eql 3 t22_11 (Go.Value.int Go.IntKind.i64 0) k w) (@hid _ ⟨fun t23_13 w14 =>
   PickK Tryd.prog t19_7 (Go.Value.bool true) t23_13 (@hid _ ⟨fun t24_15 w16 =>
   BrK t24_15 (@hid _ ⟨
    R (Go.Value.bool true) w16⟩) (@hid _ ⟨
    CallV Tryd.prog (.func (.func 8) #[] #[]) #[] (@hid _ ⟨fun t25_17 w18 =>
    CallV Tryd.prog (.func (.func 8) #[] #[]) #[] (@hid _ ⟨fun t26_19 w20 =>
    BuildK Tryd.prog 28 #[] (@hid _ ⟨fun t27_21 w22 =>
    AllocK Tryd.prog 28 (@hid _ ⟨fun t7_23 w24 =>
    StoreK Tryd.prog 28 t7_23 t27_21 (@hid _ ⟨fun tu_25 w26 =>
    LoopK1 (Go.Value.int Go.IntKind.i64 0) w26 (@hid _ ⟨fun _ x8_27 w28 B29 =>
     BuiltinK Tryd.prog Go.Builtin.len #[35] 3 #[false] #[x0] (@hid _ ⟨fun t30_30 w31 =>
     BinK Tryd.prog Go.BinOp.lss 3 x8_27 t30_30 (@hid _ ⟨fun t31_32 w33 =>
     BrK t31_32 (@hid _ ⟨
      IndexAtK Tryd.prog 35 x0 x8_27 (@hid _ ⟨fun t36_34 w35 =>
      LoadK Tryd.prog 28 t36_34 (@hid _ ⟨fun t37_36 w37 =>
      AllocK Tryd.prog 28 (@hid _ ⟨fun t9_38 w39 =>
      StoreK Tryd.prog 28 t9_38 t37_36 (@hid _ ⟨fun tu_40 w41 =>
      FieldAtK Tryd.prog 28 t9_38 0 (@hid _ ⟨fun t38_42 w43 =>
      StoreK Tryd.prog 9 t38_42 (Go.Value.string { data := #[47, 97, 47, 120] }) (@hid _ ⟨fun tu_44 w45 =>
      FieldAtK Tryd.prog 28 t9_38 1 (@hid _ ⟨fun t39_46 w47 =>
      LoadK Tryd.prog 2 t39_46 (@hid _ ⟨fun t40_48 w49 =>
      BinK Tryd.prog Go.BinOp.lss 2 t40_48 (Go.Value.int Go.IntKind.i64 0) (@hid _ ⟨fun t41_50 w51 =>
      GuardK t41_50 false (fun k w => FieldAtK Tryd.prog 28 t9_38 2 k w) (@hid _ ⟨fun t43_52 w53 =>
      GuardK t41_50 false (fun k w => LoadK Tryd.prog 2 t43_52 k w) (@hid _ ⟨fun t44_54 w55 =>
      GuardK t41_50 false (fun k w => BinK Tryd.prog Go.BinOp.lss 2 t44_54 (Go.Value.int Go.IntKind.i64 0) k w) (@hid _ ⟨fun t45_56 w57 =>
      PickK Tryd.prog t41_50 (Go.Value.bool true) t45_56 (@hid _ ⟨fun t46_58 w59 =>
      GuardK t46_58 false (fun k w => FieldAtK Tryd.prog 28 t9_38 1 k w) (@hid _ ⟨fun t48_60 w61 =>
      GuardK t46_58 false (fun k w => LoadK Tryd.prog 2 t48_60 k w) (@hid _ ⟨fun t49_62 w63 =>
      GuardK t46_58 false (fun k w => BinK Tryd.prog Go.BinOp.gtr 2 t49_62 (Go.Value.int Go.IntKind.i64 1000000000) k w) (@hid _ ⟨fun t50_64 w65 =>
      PickK Tryd.prog t46_58 (Go.Value.bool true) t50_64 (@hid _ ⟨fun t51_66 w67 =>
      GuardK t51_66 false (fun k w => FieldAtK Tryd.prog 28 t9_38 2 k w) (@hid _ ⟨fun t53_68 w69 =>
      GuardK t51_66 false (fun k w => LoadK Tryd.prog 2 t53_68 k w) (@hid _ ⟨fun t54_70 w71 =>
      GuardK t51_66 false (fun k w => BinK Tryd.prog Go.BinOp.gtr 2 t54_70 (Go.Value.int Go.IntKind.i64 1000000000) k w) (@hid _ ⟨fun t55_72 w73 =>
      PickK Tryd.prog t51_66 (Go.Value.bool true) t55_72 (@hid _ ⟨fun t56_74 w75 =>
      BrK t56_74 (@hid _ ⟨
       R (Go.Value.bool true) w75⟩) (@hid _ ⟨
       ConvK Tryd.prog 5 3 x1 (@hid _ ⟨fun t60_76 w77 =>
       BinK Tryd.prog Go.BinOp.add 3 x8_27 t60_76 (@hid _ ⟨fun t61_78 w79 =>
       BuiltinK Tryd.prog Go.Builtin.len #[35] 3 #[false] #[x0] (@hid _ ⟨fun t63_80 w81 =>
       BinK Tryd.prog Go.BinOp.rem 3 t61_78 t63_80 (@hid _ ⟨fun t64_82 w83 =>
       IndexAtK Tryd.prog 35 x0 t64_82 (@hid _ ⟨fun t65_84 w85 =>
       LoadK Tryd.prog 28 t65_84 (@hid _ ⟨fun t66_86 w87 =>
       AllocK Tryd.prog 28 (@hid _ ⟨fun t10_88 w89 =>
       StoreK Tryd.prog 28 t10_88 t66_86 (@hid _ ⟨fun tu_90 w91 =>
       FieldAtK Tryd.prog 28 t10_88 0 (@hid _ ⟨fun t67_92 w93 =>
       StoreK Tryd.prog 9 t67_92 (Go.Value.string { data := #[47, 97, 47, 120] }) (@hid _ ⟨fun tu_94 w95 =>
       LoadK Tryd.prog 28 t9_38 (@hid _ ⟨fun t69_96 w97 =>
       CallV Tryd.prog (.func (.func 11) #[] #[]) #[t25_17, t69_96] (@hid _ ⟨fun t70_98 w99 =>
       LoadK Tryd.prog 28 t10_88 (@hid _ ⟨fun t72_100 w101 =>
       CallV Tryd.prog (.func (.func 11) #[] #[]) #[t26_19, t72_100] (@hid _ ⟨fun t73_102 w103 =>
       BinK Tryd.prog Go.BinOp.eql 3 x8_27 (Go.Value.int Go.IntKind.i64 0) (@hid _ ⟨fun t75_104 w105 =>
       GuardK t75_104 false (fun k w => LoadK Tryd.prog 28 t9_38 k w) (@hid _ ⟨fun t77_106 w107 =>
       GuardK t75_104 false (fun k w => LoadK Tryd.prog 28 t7_23 k w) (@hid _ ⟨fun t78_108 w109 =>
       GuardK t75_104 false (fun k w => CallV Tryd.prog (.func (.func 23) #[] #[]) #[t77_106, t78_108] k w) (@hid _ ⟨fun t79_110 w111 =>
       PickK Tryd.prog t75_104 (Go.Value.bool true) t79_110 (@hid _ ⟨fun t80_112 w113 =>
       BrK t80_112 (@hid _ ⟨
        LoadK Tryd.prog 28 t9_38 (@hid _ ⟨fun t81_114 w115 =>
        StoreK Tryd.prog 28 t7_23 t81_114 (@hid _ ⟨fun tu_116 w117 =>
        BinK Tryd.prog Go.BinOp.add 3 x8_27 (Go.Value.int Go.IntKind.i64 1) (@hid _ ⟨fun t33_118 w119 =>
        B29 t33_118 w119⟩) w117⟩) w115⟩) w113⟩) (@hid _ ⟨
        BinK Tryd.prog Go.BinOp.add 3 x8_27 (Go.Value.int Go.IntKind.i64 1) (@hid _ ⟨fun t33_120 w121 =>
        B29 t33_120 w121⟩) w113⟩)⟩) w111⟩) w109⟩) w107⟩) w105⟩) w103⟩) w101⟩) w99⟩) w97⟩) w95⟩) w93⟩) w91⟩) w89⟩) w87⟩) w85⟩) w83⟩) w81⟩) w79⟩) w77⟩) w75⟩)⟩) w73⟩) w71⟩) w69⟩) w67⟩) w65⟩) w63⟩) w61⟩) w59⟩) w57⟩) w55⟩) w53⟩) w51⟩) w49⟩) w47⟩) w45⟩) w43⟩) w41⟩) w39⟩) w37⟩) w35⟩) w33⟩) (@hid _ ⟨
      CallV Tryd.prog (.func (.func 12) #[] #[]) #[t25_17, (Go.Value.string { data := #[47, 97, 47, 120] })] (@hid _ ⟨fun t84_122 w123 =>
      ExtractK Tryd.prog t84_122 0 (@hid _ ⟨fun t85_124 w125 =>
      ExtractK Tryd.prog t84_122 1 (@hid _ ⟨fun t86_126 w127 =>
      AllocK Tryd.prog 28 (@hid _ ⟨fun t11_128 w129 =>
      StoreK Tryd.prog 28 t11_128 t85_124 (@hid _ ⟨fun tu_130 w131 =>
      CallV Tryd.prog (.func (.func 12) #[] #[]) #[t26_19, (Go.Value.string { data := #[47, 97, 47, 120] })] (@hid _ ⟨fun t89_132 w133 =>
      ExtractK Tryd.prog t89_132 0 (@hid _ ⟨fun t90_134 w135 =>
      ExtractK Tryd.prog t89_132 1 (@hid _ ⟨fun t91_136 w137 =>
      AllocK Tryd.prog 28 (@hid _ ⟨fun t13_138 w139 =>
      StoreK Tryd.prog 28 t13_138 t90_134 (@hid _ ⟨fun tu_140 w141 =>
      LoadK Tryd.prog 28 t11_128 (@hid _ ⟨fun t92_142 w143 =>
      LoadK Tryd.prog 28 t7_23 (@hid _ ⟨fun t93_144 w145 =>
      BinK Tryd.prog Go.BinOp.eql 28 t92_142 t93_144 (@hid _ ⟨fun t94_146 w147 =>
      GuardK t94_146 true (fun k w => LoadK Tryd.prog 28 t13_138 k w) (@hid _ ⟨fun t96_148 w149 =>
      GuardK t94_146 true (fun k w => LoadK Tryd.prog 28 t7_23 k w) (@hid _ ⟨fun t97_150 w151 =>
      GuardK t94_146 true (fun k w => BinK Tryd.prog Go.BinOp.eql 28 t96_148 t97_150 k w) (@hid _ ⟨fun t98_152 w153 =>
      PickK Tryd.prog t94_146 t98_152 (Go.Value.bool false) (@hid _ ⟨fun t99_154 w155 =>
      R t99_154 w155⟩) w153⟩) w151⟩) w149⟩) w147⟩) w145⟩) w143⟩) w141⟩) w139⟩) w137⟩) w135⟩) w133⟩) w131⟩) w129⟩) w127⟩) w125⟩) w123⟩) w33⟩)⟩) w31⟩) w28⟩)⟩) w24⟩) w22⟩) w20⟩) w18⟩) w16⟩)⟩) w14⟩) w12⟩) w10⟩) w8⟩) w6⟩) w4⟩)⟩) w2⟩) w0
def a6 : Ann := (.seq .no (.seq (.seq .no (.cond (.seq .no .no) .no)) (.seq (.seq .no (.cond (.seq .no .no) .no)) (.seq .no (.seq .no (.seq .no (.seq (.seq .no (.block (.loop [8] [(4, 4), (9, 10), (28, 81)] (.seq (.seq .no (.cond .no .no)) (.seq (.block (.seq .no (.seq .no (.seq (.seq .no (.cond (.seq .no .no) .no)) (.seq .no (.seq .no (.seq .no (.seq .no (.seq .no (.cond .no .no)))))))))) .no))))) (.seq .no (.seq .no (.seq .no .no))))))))))
theorem F6_eq (x0 x1 : Value) (R : Value → World → Prop) (w0 : World) : F6 x0 x1 R w0 = vc Tryd.prog (bodyOf Tryd.f6) a6 (retQ Tryd.prog Tryd.f6 R) (envOf 0 [x0, x1]) w0 := by kernel_rfl
theorem F6_calls (x0 x1 : Value) (R : Value → World → Prop) (w0 : World) (h : F6 x0 x1 R w0) : CallK Tryd.prog 6 #[x0, x1] R w0 :=
  calls_vc (c := bodyOf Tryd.f6) Tryd.func6 (by kernel_rfl) (by kernel_rfl) a6 (by kernel_rfl) (by kernel_rfl) [x0, x1] (by rw [Tryd.ntmps6]; exact Nat.le_of_ble_eq_true rfl) w0 R ((F6_eq x0 x1 R w0).mp h)

/-- canton/cantonlaw16.known, its body as a formula. -/
def F7 (R : Value → World → Prop) (w0 : World) : Prop :=
  CallV Tryd.prog (.func (.func 8) #[] #[]) #[] (@hid _ ⟨fun t11_1 w2 =>
  BinK Tryd.prog Go.BinOp.eql 24 t11_1 (Go.Value.pointer none) (@hid _ ⟨fun t13_3 w4 =>
  BrK t13_3 (@hid _ ⟨
   R (Go.Value.bool false) w4⟩) (@hid _ ⟨
   BuildK Tryd.prog 28 #[(0, (Go.Value.string { data := #[47, 97, 47, 120] })), (1, (Go.Value.int Go.IntKind.i64 1)), (2, (Go.Value.int Go.IntKind.i64 5))] (@hid _ ⟨fun t15_5 w6 =>
   CallV Tryd.prog (.func (.func 11) #[] #[]) #[t11_1, t15_5] (@hid _ ⟨fun t16_7 w8 =>
   BuildK Tryd.prog 28 #[(0, (Go.Value.string { data := #[47, 97, 47, 120] })), (1, (Go.Value.int Go.IntKind.i64 1)), (2, (Go.Value.int Go.IntKind.i64 5))] (@hid _ ⟨fun t18_9 w10 =>
   CallV Tryd.prog (.func (.func 11) #[] #[]) #[t11_1, t18_9] (@hid _ ⟨fun t19_11 w12 =>
   BuildK Tryd.prog 28 #[(0, (Go.Value.string { data := #[47, 98, 47, 121] })), (1, (Go.Value.int Go.IntKind.i64 0)), (2, (Go.Value.int Go.IntKind.i64 9))] (@hid _ ⟨fun t21_13 w14 =>
   CallV Tryd.prog (.func (.func 11) #[] #[]) #[t11_1, t21_13] (@hid _ ⟨fun t22_15 w16 =>
   CallV Tryd.prog (.func (.func 12) #[] #[]) #[t11_1, (Go.Value.string { data := #[47, 97, 47, 120] })] (@hid _ ⟨fun t25_17 w18 =>
   ExtractK Tryd.prog t25_17 0 (@hid _ ⟨fun t26_19 w20 =>
   ExtractK Tryd.prog t25_17 1 (@hid _ ⟨fun t27_21 w22 =>
   AllocK Tryd.prog 28 (@hid _ ⟨fun t5_23 w24 =>
   StoreK Tryd.prog 28 t5_23 t26_19 (@hid _ ⟨fun tu_25 w26 =>
   CallV Tryd.prog (.func (.func 20) #[] #[]) #[t11_1, (Go.Value.string { data := #[47, 97] })] (@hid _ ⟨fun t29_27 w28 =>
   CallV Tryd.prog (.func (.func 17) #[] #[]) #[t11_1] (@hid _ ⟨fun t31_29 w30 =>
   CallV Tryd.prog (.func (.func 16) #[] #[]) #[t11_1, (Go.Value.int Go.IntKind.i64 20), (Go.Value.int Go.IntKind.i64 12), (Go.Value.string { data := #[47, 113, 47, 113] })] (@hid _ ⟨fun t33_31 w32 =>
   CallV Tryd.prog (.func (.func 19) #[] #[]) #[t11_1] (@hid _ ⟨fun t35_33 w34 =>
   BinK Tryd.prog Go.BinOp.add 3 t16_7 t22_15 (@hid _ ⟨fun t38_35 w36 =>
   BinK Tryd.prog Go.BinOp.eql 3 t38_35 (Go.Value.int Go.IntKind.i64 0) (@hid _ ⟨fun t39_37 w38 =>
   GuardK t39_37 true (fun k w => k t19_11 w) (@hid _ ⟨fun t41_39 w40 =>
   GuardK t39_37 true (fun k w => BinK Tryd.prog Go.BinOp.eql 3 t41_39 (Go.Value.int Go.IntKind.i64 11) k w) (@hid _ ⟨fun t42_41 w42 =>
   PickK Tryd.prog t39_37 t42_41 (Go.Value.bool false) (@hid _ ⟨fun t43_43 w44 =>
   GuardK t43_43 true (fun k w => k t27_21 w) (@hid _ ⟨fun t45_45 w46 =>
   PickK Tryd.prog t43_43 t45_45 (Go.Value.bool false) (@hid _ ⟨fun t46_47 w48 =>
   GuardK t46_47 true (fun k w => FieldAtK Tryd.prog 28 t5_23 2 k w) (@hid _ ⟨fun t48_49 w50 =>
   GuardK t46_47 true (fun k w => LoadK Tryd.prog 2 t48_49 k w) (@hid _ ⟨fun t49_51 w52 =>
   GuardK t46_47 true (fun k w => BinK Tryd.prog Go.BinOp.eql 2 t49_51 (Go.Value.int Go.IntKind.i64 5) k w) (@hid _ ⟨fun t50_53 w54 =>
   PickK Tryd.prog t46_47 t50_53 (Go.Value.bool false) (@hid _ ⟨fun t51_55 w56 =>
   GuardK t51_55 true (fun k w => k t29_27 w) (@hid _ ⟨fun t53_57 w58 =>
   GuardK t51_55 true (fun k w => BuiltinK Tryd.prog Go.Builtin.len #[41] 3 #[false] #[t53_57] k w) (@hid _ ⟨fun t54_59 w60 =>
   GuardK t51_55 true (fun k w => BinK Tryd.prog Go.BinOp.eql 3 t54_59 (Go.Value.int Go.IntKind.i64 1) k w) (@hid _ ⟨fun t55_61 w62 =>
   PickK Tryd.prog t51_55 t55_61 (Go.Value.bool false) (@hid _ ⟨fun t56_63 w64 =>
   GuardK t56_63 true (fun k w => k t33_31 w) (@hid _ ⟨fun t58_65 w66 =>
   GuardK t56_63 true (fun k w => BuiltinK Tryd.prog Go.Builtin.len #[41] 3 #[false] #[t58_65] k w) (@hid _ ⟨fun t59_67 w68 =>
   GuardK t56_63 true (fun k w => BinK Tryd.prog Go.BinOp.eql 3 t59_67 (Go.Value.int Go.IntKind.i64 1) k w) (@hid _ ⟨fun t60_69 w70 =>
   PickK Tryd.prog t56_63 t60_69 (Go.Value.bool false) (@hid _ ⟨fun t61_71 w72 =>
   GuardK t61_71 true (fun k w => k t33_31 w) (@hid _ ⟨fun t63_73 w74 =>
   GuardK t61_71 true (fun k w => IndexAtK Tryd.prog 41 t63_73 (Go.Value.int Go.IntKind.i64 0) k w) (@hid _ ⟨fun t64_75 w76 =>
   GuardK t61_71 true (fun k w => LoadK Tryd.prog 9 t64_75 k w) (@hid _ ⟨fun t65_77 w78 =>
   GuardK t61_71 true (fun k w => BinK Tryd.prog Go.BinOp.eql 9 t65_77 (Go.Value.string { data := #[47, 97, 47, 120] }) k w) (@hid _ ⟨fun t66_79 w80 =>
   PickK Tryd.prog t61_71 t66_79 (Go.Value.bool false) (@hid _ ⟨fun t67_81 w82 =>
   GuardK t67_81 true (fun k w => k t35_33 w) (@hid _ ⟨fun t69_83 w84 =>
   GuardK t67_81 true (fun k w => BuiltinK Tryd.prog Go.Builtin.len #[35] 3 #[false] #[t69_83] k w) (@hid _ ⟨fun t70_85 w86 =>
   GuardK t67_81 true (fun k w => BinK Tryd.prog Go.BinOp.eql 3 t70_85 (Go.Value.int Go.IntKind.i64 1) k w) (@hid _ ⟨fun t71_87 w88 =>
   PickK Tryd.prog t67_81 t71_87 (Go.Value.bool false) (@hid _ ⟨fun t72_89 w90 =>
   GuardK t72_89 true (fun k w => k t31_29 w) (@hid _ ⟨fun t74_91 w92 =>
   GuardK t72_89 true (fun k w => BinK Tryd.prog Go.BinOp.neq 24 t74_91 (Go.Value.pointer none) k w) (@hid _ ⟨fun t75_93 w94 =>
   PickK Tryd.prog t72_89 t75_93 (Go.Value.bool false) (@hid _ ⟨fun t76_95 w96 =>
   GuardK t76_95 true (fun k w => k t31_29 w) (@hid _ ⟨fun t78_97 w98 =>
   GuardK t76_95 true (fun k w => CallV Tryd.prog (.func (.func 19) #[] #[]) #[t78_97] k w) (@hid _ ⟨fun t79_99 w100 =>
   GuardK t76_95 true (fun k w => BuiltinK Tryd.prog Go.Builtin.len #[35] 3 #[false] #[t79_99] k w) (@hid _ ⟨fun t80_101 w102 =>
   GuardK t76_95 true (fun k w => BinK Tryd.prog Go.BinOp.eql 3 t80_101 (Go.Value.int Go.IntKind.i64 2) k w) (@hid _ ⟨fun t81_103 w104 =>
   PickK Tryd.prog t76_95 t81_103 (Go.Value.bool false) (@hid _ ⟨fun t82_105 w106 =>
   GuardK t82_105 true (fun k w => k t11_1 w) (@hid _ ⟨fun t84_107 w108 =>
   GuardK t82_105 true (fun k w => CallV Tryd.prog (.func (.func 13) #[] #[]) #[t84_107, (Go.Value.string { data := #[47, 98, 47, 121] })] k w) (@hid _ ⟨fun t85_109 w110 =>
   PickK Tryd.prog t82_105 t85_109 (Go.Value.bool false) (@hid _ ⟨fun t86_111 w112 =>
   GuardK t86_111 true (fun k w => LoadK Tryd.prog 28 t5_23 k w) (@hid _ ⟨fun t88_113 w114 =>
   GuardK t86_111 true (fun k w => BuildK Tryd.prog 28 #[(1, (Go.Value.int Go.IntKind.i64 1)), (2, (Go.Value.int Go.IntKind.i64 4))] k w) (@hid _ ⟨fun t89_115 w116 =>
   GuardK t86_111 true (fun k w => CallV Tryd.prog (.func (.func 23) #[] #[]) #[t88_113, t89_115] k w) (@hid _ ⟨fun t90_117 w118 =>
   PickK Tryd.prog t86_111 t90_117 (Go.Value.bool false) (@hid _ ⟨fun t91_119 w120 =>
   GuardK t91_119 true (fun k w => k t35_33 w) (@hid _ ⟨fun t93_121 w122 =>
   GuardK t91_119 true (fun k w => CallV Tryd.prog (.func (.func 25) #[] #[]) #[t93_121] k w) (@hid _ ⟨fun t94_123 w124 =>
   GuardK t91_119 true (fun k w => BinK Tryd.prog Go.BinOp.eql 3 t94_123 (Go.Value.int Go.IntKind.i64 0) k w) (@hid _ ⟨fun t95_125 w126 =>
   PickK Tryd.prog t91_119 t95_125 (Go.Value.bool false) (@hid _ ⟨fun t96_127 w128 =>
   GuardK t96_127 true (fun k w => k t11_1 w) (@hid _ ⟨fun t98_129 w130 =>
   GuardK t96_127 true (fun k w => BuildK Tryd.prog 28 #[(0, (Go.Value.string { data := #[47] }))] k w) (@hid _ ⟨fun t99_131 w132 =>
   GuardK t96_127 true (fun k w => CallV Tryd.prog (.func (.func 11) #[] #[]) #[t98_129, t99_131] k w) (@hid _ ⟨fun t100_133 w134 =>
   GuardK t96_127 true (fun k w => BinK Tryd.prog Go.BinOp.eql 3 t100_133 (Go.Value.int Go.IntKind.i64 5) k w) (@hid _ ⟨fun t101_135 w136 =>
   PickK Tryd.prog t96_127 t101_135 (Go.Value.bool false) (@hid _ ⟨fun t102_137 w138 =>
   R t102_137 w138⟩) w136⟩) w134⟩) w132⟩) w130⟩) w128⟩) w126⟩) w124⟩) w122⟩) w120⟩) w118⟩) w116⟩) w114⟩) w112⟩) w110⟩) w108⟩) w106⟩) w104⟩) w102⟩) w100⟩) w98⟩) w96⟩) w94⟩) w92⟩) w90⟩) w88⟩) w86⟩) w84⟩) w82⟩) w80⟩) w78⟩) w76⟩) w74⟩) w72⟩) w70⟩) w68⟩) w66⟩) w64⟩) w62⟩) w60⟩) w58⟩) w56⟩) w54⟩) w52⟩) w50⟩) w48⟩) w46⟩) w44⟩) w42⟩) w40⟩) w38⟩) w36⟩) w34⟩) w32⟩) w30⟩) w28⟩) w26⟩) w24⟩) w22⟩) w20⟩) w18⟩) w16⟩) w14⟩) w12⟩) w10⟩) w8⟩) w6⟩) w4⟩)⟩) w2⟩) w0
def a7 : Ann := (.seq .no (.seq .no (.seq (.seq .no (.cond (.seq .no .no) .no)) (.seq .no (.seq .no (.seq .no (.seq .no (.seq .no (.seq .no (.seq .no (.seq .no (.seq .no .no))))))))))))
theorem F7_eq (R : Value → World → Prop) (w0 : World) : F7  R w0 = vc Tryd.prog (bodyOf Tryd.f7) a7 (retQ Tryd.prog Tryd.f7 R) (envOf 0 []) w0 := by kernel_rfl
theorem F7_calls (R : Value → World → Prop) (w0 : World) (h : F7  R w0) : CallK Tryd.prog 7 #[] R w0 :=
  calls_vc (c := bodyOf Tryd.f7) Tryd.func7 (by kernel_rfl) (by kernel_rfl) a7 (by kernel_rfl) (by kernel_rfl) [] (by rw [Tryd.ntmps7]; exact Nat.le_of_ble_eq_true rfl) w0 R ((F7_eq  R w0).mp h)

/-- canton/book.New, its body as a formula. -/
def F8 (R : Value → World → Prop) (w0 : World) : Prop :=
  CallV Tryd.prog (.func (.func 28) #[] #[]) #[] (@hid _ ⟨fun t1_1 w2 =>
  BuildK Tryd.prog 63 #[(0, t1_1)] (@hid _ ⟨fun t2_3 w4 =>
  BoxK Tryd.prog 63 t2_3 (@hid _ ⟨fun t3_5 w6 =>
  R t3_5 w6⟩) w4⟩) w2⟩) w0
def a8 : Ann := (.seq .no (.seq .no .no))
theorem F8_eq (R : Value → World → Prop) (w0 : World) : F8  R w0 = vc Tryd.prog (bodyOf Tryd.f8) a8 (retQ Tryd.prog Tryd.f8 R) (envOf 0 []) w0 := by kernel_rfl
theorem F8_calls (R : Value → World → Prop) (w0 : World) (h : F8  R w0) : CallK Tryd.prog 8 #[] R w0 :=
  calls_vc (c := bodyOf Tryd.f8) Tryd.func8 (by kernel_rfl) (by kernel_rfl) a8 (by kernel_rfl) (by kernel_rfl) [] (by rw [Tryd.ntmps8]; exact Nat.le_of_ble_eq_true rfl) w0 R ((F8_eq  R w0).mp h)

/-- canton/cantonref21.PutEntry, its body as a formula. -/
def F9 (x0 x1 : Value) (R : Value → World → Prop) (w0 : World) : Prop :=
  BoxK Tryd.prog 33 x1 (@hid _ ⟨fun t3_1 w2 =>
  LoadK Tryd.prog 33 t3_1 (@hid _ ⟨fun t10_3 w4 =>
  CallV Tryd.prog (.func (.func 29) #[] #[]) #[t10_3] (@hid _ ⟨fun t11_5 w6 =>
  BinK Tryd.prog Go.BinOp.neq 3 t11_5 (Go.Value.int Go.IntKind.i64 0) (@hid _ ⟨fun t13_7 w8 =>
  BrK t13_7 (@hid _ ⟨
   R (.tuple #[x0, t11_5]) w8⟩) (@hid _ ⟨
   CutK1 (@hid _ ⟨fun R9 =>
    LoopK1 (Go.Value.int Go.IntKind.i64 0) w8 (@hid _ ⟨fun _ x7_12 w13 B14 =>
     DrawK (@hid _ ⟨fun S15 w16 =>
     TakeO Tryd.prog S15 (builtin Go.Builtin.len #[26] 3 #[false] #[x0]) (@hid _ ⟨fun t18_17 =>
     BinT Tryd.prog S15 Go.BinOp.lss 3 x7_12 t18_17 (@hid _ ⟨fun t19_18 =>
     TakeG t19_18 true (fun k => k x0) (@hid _ ⟨fun t21_19 =>
     TakeG t19_18 true (fun k => k x7_12) (@hid _ ⟨fun t22_20 =>
     TakeG t19_18 true (fun k => TakeS Tryd.prog S15 (Instr.indexAt 26 t21_19 t22_20) k) (@hid _ ⟨fun t23_21 =>
     TakeG t19_18 true (fun k => TakeS Tryd.prog S15 (Instr.fieldAt 33 t23_21 0) k) (@hid _ ⟨fun t24_22 =>
     TakeG t19_18 true (fun k => TakeS Tryd.prog S15 (Instr.loadAt 9 t24_22) k) (@hid _ ⟨fun t25_23 =>
     TakeG t19_18 true (fun k => TakeS Tryd.prog S15 (Instr.fieldAt 33 t3_1 0) k) (@hid _ ⟨fun t26_24 =>
     TakeG t19_18 true (fun k => TakeS Tryd.prog S15 (Instr.loadAt 9 t26_24) k) (@hid _ ⟨fun t27_25 =>
     TakeG t19_18 true (fun k => BinT Tryd.prog S15 Go.BinOp.lss 9 t25_23 t27_25 k) (@hid _ ⟨fun t28_26 =>
     PickT t19_18 t28_26 (Go.Value.bool false) (@hid _ ⟨fun t29_27 =>
     BrK t29_27 (@hid _ ⟨
      BinK Tryd.prog Go.BinOp.add 3 x7_12 (Go.Value.int Go.IntKind.i64 1) (@hid _ ⟨fun t31_28 w29 =>
      B14 t31_28 w29⟩) w16⟩) (@hid _ ⟨
      R9 x7_12 w16⟩)⟩)⟩)⟩)⟩)⟩)⟩)⟩)⟩)⟩)⟩)⟩)⟩) w13⟩)⟩)
   (@hid _ ⟨fun _ x7_10 w11 =>
    CutK1 (@hid _ ⟨fun R30 =>
     DrawK (@hid _ ⟨fun S33 w34 =>
     TakeO Tryd.prog S33 (builtin Go.Builtin.len #[26] 3 #[false] #[x0]) (@hid _ ⟨fun t34_35 =>
     BinT Tryd.prog S33 Go.BinOp.lss 3 x7_10 t34_35 (@hid _ ⟨fun t35_36 =>
     TakeG t35_36 true (fun k => k x0) (@hid _ ⟨fun t37_37 =>
     TakeG t35_36 true (fun k => k x7_10) (@hid _ ⟨fun t38_38 =>
     TakeG t35_36 true (fun k => TakeS Tryd.prog S33 (Instr.indexAt 26 t37_37 t38_38) k) (@hid _ ⟨fun t39_39 =>
     TakeG t35_36 true (fun k => TakeS Tryd.prog S33 (Instr.fieldAt 33 t39_39 0) k) (@hid _ ⟨fun t40_40 =>
     TakeG t35_36 true (fun k => TakeS Tryd.prog S33 (Instr.loadAt 9 t40_40) k) (@hid _ ⟨fun t41_41 =>
     TakeG t35_36 true (fun k => TakeS Tryd.prog S33 (Instr.fieldAt 33 t3_1 0) k) (@hid _ ⟨fun t42_42 =>
     TakeG t35_36 true (fun k => TakeS Tryd.prog S33 (Instr.loadAt 9 t42_42) k) (@hid _ ⟨fun t43_43 =>
     TakeG t35_36 true (fun k => BinT Tryd.prog S33 Go.BinOp.eql 9 t41_41 t43_43 k) (@hid _ ⟨fun t44_44 =>
     PickT t35_36 t44_44 (Go.Value.bool false) (@hid _ ⟨fun t45_45 =>
     R30 t45_45 w34⟩)⟩)⟩)⟩)⟩)⟩)⟩)⟩)⟩)⟩)⟩)⟩) w11⟩)
    (@hid _ ⟨fun _ x8_31 w32 =>
     DrawK (@hid _ ⟨fun S46 w47 =>
     TakeG x8_31 true (fun k => TakeS Tryd.prog S46 (Instr.loadAt 33 t3_1) k) (@hid _ ⟨fun t48_48 =>
     TakeG x8_31 true (fun k => k x0) (@hid _ ⟨fun t49_49 =>
     TakeG x8_31 true (fun k => k x7_10) (@hid _ ⟨fun t50_50 =>
     TakeG x8_31 true (fun k => TakeS Tryd.prog S46 (Instr.indexAt 26 t49_49 t50_50) k) (@hid _ ⟨fun t51_51 =>
     TakeG x8_31 true (fun k => TakeS Tryd.prog S46 (Instr.loadAt 33 t51_51) k) (@hid _ ⟨fun t52_52 =>
     (GuardK x8_31 true (fun k w => CallV Tryd.prog (.func (.func 24) #[] #[]) #[t48_48, t52_52] k w) (@hid _ ⟨fun t53_53 w54 =>
     S46 w54 ∧
     TakeG x8_31 true (fun k => TakeS Tryd.prog S46 (Op.unary Go.UnOp.not t53_53) k) (@hid _ ⟨fun t54_55 =>
     PickT x8_31 t54_55 (Go.Value.bool false) (@hid _ ⟨fun t55_56 =>
     BrK t55_56 (@hid _ ⟨
      R (.tuple #[x0, (Go.Value.int Go.IntKind.i64 11)]) w54⟩) (@hid _ ⟨
      CutK0 (@hid _ ⟨fun R57 =>
       UnK Tryd.prog Go.UnOp.not x8_31 (@hid _ ⟨fun t58_59 w60 =>
       GuardK t58_59 true (fun k w => k x0 w) (@hid _ ⟨fun t60_61 w62 =>
       GuardK t58_59 true (fun k w => BuiltinK Tryd.prog Go.Builtin.len #[26] 3 #[false] #[t60_61] k w) (@hid _ ⟨fun t61_63 w64 =>
       GuardK t58_59 true (fun k w => BinK Tryd.prog Go.BinOp.geq 3 t61_63 (Go.Value.int Go.IntKind.i64 64) k w) (@hid _ ⟨fun t62_65 w66 =>
       PickK Tryd.prog t58_59 t62_65 (Go.Value.bool false) (@hid _ ⟨fun t63_67 w68 =>
       BrK t63_67 (@hid _ ⟨
        R (.tuple #[x0, (Go.Value.int Go.IntKind.i64 9)]) w68⟩) (@hid _ ⟨
        R57 w68⟩)⟩) w66⟩) w64⟩) w62⟩) w60⟩) w54⟩)
      (@hid _ ⟨fun _ w58 =>
       CutK1 (@hid _ ⟨fun R69 =>
        DrawK (@hid _ ⟨fun S72 w73 =>
        TakeS Tryd.prog S72 (Instr.sliceAt 26 x0 none (some x7_10) none) (@hid _ ⟨fun t68_74 =>
        TakeS Tryd.prog S72 (Instr.loadAt 33 t3_1) (@hid _ ⟨fun t70_75 =>
        (BuildSliceK Tryd.prog 26 0 #[] (@hid _ ⟨fun t65_76 w77 =>
        S72 w77 ∧
        (BuiltinK Tryd.prog Go.Builtin.append #[26, 26] 26 #[false, false] #[t65_76, t68_74] (@hid _ ⟨fun t69_78 w79 =>
        S72 w79 ∧
        (BuildSliceK Tryd.prog 26 1 #[(0, t70_75)] (@hid _ ⟨fun t71_80 w81 =>
        S72 w81 ∧
        (BuiltinK Tryd.prog Go.Builtin.append #[26, 26] 26 #[false, false] #[t69_78, t71_80] (@hid _ ⟨fun t72_82 w83 =>
        S72 w83 ∧
        R69 t72_82 w83⟩) w81) ∧
        True⟩) w79) ∧
        True⟩) w77) ∧
        (BuildSliceK Tryd.prog 26 1 #[(0, t70_75)] (@hid _ ⟨fun t71_84 w85 =>
        S72 w85 ∧
        (BuiltinK Tryd.prog Go.Builtin.append #[26, 26] 26 #[false, false] #[t65_76, t68_74] (@hid _ ⟨fun t69_86 w87 =>
        S72 w87 ∧
        (BuiltinK Tryd.prog Go.Builtin.append #[26, 26] 26 #[false, false] #[t69_86, t71_84] (@hid _ ⟨fun t72_88 w89 =>
        S72 w89 ∧
        R69 t72_88 w89⟩) w87) ∧
        True⟩) w85) ∧
        True⟩) w77) ∧
        True⟩) w73) ∧
        (BuildSliceK Tryd.prog 26 1 #[(0, t70_75)] (@hid _ ⟨fun t71_90 w91 =>
        S72 w91 ∧
        (BuildSliceK Tryd.prog 26 0 #[] (@hid _ ⟨fun t65_92 w93 =>
        S72 w93 ∧
        (BuiltinK Tryd.prog Go.Builtin.append #[26, 26] 26 #[false, false] #[t65_92, t68_74] (@hid _ ⟨fun t69_94 w95 =>
        S72 w95 ∧
        (BuiltinK Tryd.prog Go.Builtin.append #[26, 26] 26 #[false, false] #[t69_94, t71_90] (@hid _ ⟨fun t72_96 w97 =>
        S72 w97 ∧
        R69 t72_96 w97⟩) w95) ∧
        True⟩) w93) ∧
        True⟩) w91) ∧
        True⟩) w73) ∧
        True⟩)⟩)⟩) w58⟩)
       (@hid _ ⟨fun _ x9_70 w71 =>
        CutK1 (@hid _ ⟨fun R98 =>
         BrK x8_31 (@hid _ ⟨
          BinK Tryd.prog Go.BinOp.add 3 x7_10 (Go.Value.int Go.IntKind.i64 1) (@hid _ ⟨fun t75_101 w102 =>
          R98 t75_101 w102⟩) w71⟩) (@hid _ ⟨
          R98 x7_10 w71⟩)⟩)
        (@hid _ ⟨fun _ x7_99 w100 =>
         SliceK Tryd.prog 26 x0 (some x7_99) none none (@hid _ ⟨fun t79_103 w104 =>
         BuiltinK Tryd.prog Go.Builtin.append #[26, 26] 26 #[false, false] #[x9_70, t79_103] (@hid _ ⟨fun t80_105 w106 =>
         R (.tuple #[t80_105, (Go.Value.int Go.IntKind.i64 0)]) w106⟩) w104⟩) w100⟩)⟩)⟩)⟩)⟩)⟩)⟩) w47) ∧
     True⟩)⟩)⟩)⟩)⟩)⟩) w32⟩)⟩)⟩)⟩) w6⟩) w4⟩) w2⟩) w0
def a9 : Ann := (.seq .no (.seq .no (.seq (.seq .no (.cond (.seq .no .no) .no)) (.seq .no (.cut [7] [(16, 31)] (.block (.loop [7] [(16, 31)] (.seq (.seq (.plan (.take 0 (.take 1 (.take 2 (.take 3 (.take 4 (.take 5 (.take 6 (.take 7 (.take 8 (.take 9 (.take 10 (.take 11 (.take 12 (.take 13 .done))))))))))))))) (.cond .no .no)) (.block .no)))) (.cut [8] [(32, 45)] (.plan (.take 0 (.take 1 (.take 2 (.take 3 (.take 4 (.take 5 (.take 6 (.take 7 (.take 8 (.take 9 (.take 10 (.take 11 (.take 12 (.take 13 (.take 14 .done)))))))))))))))) (.seq (.seq (.plan (.take 0 (.take 1 (.take 2 (.take 3 (.take 4 (.take 5 (.take 6 (.alt 7 (.take 8 (.take 9 .done)) .nil))))))))) (.cond (.seq .no .no) .no)) (.cut [] [(4, 5), (57, 64)] (.seq .no (.cond (.seq .no .no) .no)) (.cut [9] [(65, 72)] (.plan (.take 1 (.take 2 (.take 3 (.take 5 (.alt 0 (.alt 4 (.alt 6 (.alt 7 (.take 8 .done) .nil) .nil) (.alt 6 (.alt 4 (.alt 7 (.take 8 .done) .nil) .nil) .nil)) (.alt 6 (.alt 0 (.alt 4 (.alt 7 (.take 8 .done) .nil) .nil) .nil) .nil))))))) (.cut [7] [(73, 75)] (.seq .no (.cond .no .no)) (.seq .no .no)))))))))))
theorem F9_eq (x0 x1 : Value) (R : Value → World → Prop) (w0 : World) : F9 x0 x1 R w0 = vc Tryd.prog (bodyOf Tryd.f9) a9 (retQ Tryd.prog Tryd.f9 R) (envOf 0 [x0, x1]) w0 := by kernel_rfl
theorem F9_calls (x0 x1 : Value) (R : Value → World → Prop) (w0 : World) (h : F9 x0 x1 R w0) : CallK Tryd.prog 9 #[x0, x1] R w0 :=
  calls_vc (c := bodyOf Tryd.f9) Tryd.func9 (by kernel_rfl) (by kernel_rfl) a9 (by kernel_rfl) (by kernel_rfl) [x0, x1] (by rw [Tryd.ntmps9]; exact Nat.le_of_ble_eq_true rfl) w0 R ((F9_eq x0 x1 R w0).mp h)

/-- canton/cantonlaw16.Of, its body as a formula. -/
def F10 (x0 : Value) (R : Value → World → Prop) (w0 : World) : Prop :=
  LoopK2 (Go.Value.slice none 0 0) (Go.Value.int Go.IntKind.i64 0) w0 (@hid _ ⟨fun _ x3_1 x4_2 w3 B4 =>
   BuiltinK Tryd.prog Go.Builtin.len #[35] 3 #[false] #[x0] (@hid _ ⟨fun t7_5 w6 =>
   BinK Tryd.prog Go.BinOp.lss 3 x4_2 t7_5 (@hid _ ⟨fun t8_7 w8 =>
   BrK t8_7 (@hid _ ⟨
    DrawK (@hid _ ⟨fun S9 w10 =>
    TakeS Tryd.prog S9 (Instr.indexAt 35 x0 x4_2) (@hid _ ⟨fun t14_11 =>
    TakeS Tryd.prog S9 (Instr.fieldAt 28 t14_11 0) (@hid _ ⟨fun t15_12 =>
    TakeS Tryd.prog S9 (Instr.loadAt 9 t15_12) (@hid _ ⟨fun t16_13 =>
    TakeS Tryd.prog S9 (Instr.indexAt 35 x0 x4_2) (@hid _ ⟨fun t19_14 =>
    TakeS Tryd.prog S9 (Instr.fieldAt 28 t19_14 1) (@hid _ ⟨fun t20_15 =>
    TakeS Tryd.prog S9 (Instr.loadAt 2 t20_15) (@hid _ ⟨fun t21_16 =>
    TakeS Tryd.prog S9 (Instr.indexAt 35 x0 x4_2) (@hid _ ⟨fun t24_17 =>
    TakeS Tryd.prog S9 (Instr.fieldAt 28 t24_17 2) (@hid _ ⟨fun t25_18 =>
    TakeS Tryd.prog S9 (Instr.loadAt 2 t25_18) (@hid _ ⟨fun t26_19 =>
    (BuildK Tryd.prog 33 #[(0, t16_13), (1, t21_16), (2, t26_19)] (@hid _ ⟨fun t27_20 w21 =>
    S9 w21 ∧
    (BuildSliceK Tryd.prog 26 1 #[(0, t27_20)] (@hid _ ⟨fun t28_22 w23 =>
    S9 w23 ∧
    (BuiltinK Tryd.prog Go.Builtin.append #[26, 26] 26 #[false, false] #[x3_1, t28_22] (@hid _ ⟨fun t29_24 w25 =>
    S9 w25 ∧
    BinK Tryd.prog Go.BinOp.add 3 x4_2 (Go.Value.int Go.IntKind.i64 1) (@hid _ ⟨fun t10_26 w27 =>
    B4 t29_24 t10_26 w27⟩) w25⟩) w23) ∧
    True⟩) w21) ∧
    True⟩) w10) ∧
    True⟩)⟩)⟩)⟩)⟩)⟩)⟩)⟩)⟩)⟩) w8⟩) (@hid _ ⟨
    R x3_1 w8⟩)⟩) w6⟩) w3⟩)
def a10 : Ann := (.seq .no (.seq .no (.seq (.seq .no (.block (.loop [3, 4] [(5, 29)] (.seq (.seq .no (.cond .no .no)) (.seq (.block (.plan (.take 0 (.take 1 (.take 2 (.take 3 (.take 4 (.take 5 (.take 6 (.take 7 (.take 8 (.take 9 (.take 10 (.take 11 (.take 12 (.take 13 (.take 14 (.take 15 (.alt 16 (.alt 17 (.alt 18 (.take 19 .done) .nil) .nil) .nil))))))))))))))))))) .no))))) (.seq .no .no))))
theorem F10_eq (x0 : Value) (R : Value → World → Prop) (w0 : World) : F10 x0 R w0 = vc Tryd.prog (bodyOf Tryd.f10) a10 (retQ Tryd.prog Tryd.f10 R) (envOf 0 [x0]) w0 := by kernel_rfl
theorem F10_calls (x0 : Value) (R : Value → World → Prop) (w0 : World) (h : F10 x0 R w0) : CallK Tryd.prog 10 #[x0] R w0 :=
  calls_vc (c := bodyOf Tryd.f10) Tryd.func10 (by kernel_rfl) (by kernel_rfl) a10 (by kernel_rfl) (by kernel_rfl) [x0] (by rw [Tryd.ntmps10]; exact Nat.le_of_ble_eq_true rfl) w0 R ((F10_eq x0 R w0).mp h)

/-- (*canton/book.Book).Put, its body as a formula. -/
def F11 (x0 x1 : Value) (R : Value → World → Prop) (w0 : World) : Prop :=
  BoxK Tryd.prog 28 x1 (@hid _ ⟨fun t3_1 w2 =>
  LoadK Tryd.prog 28 t3_1 (@hid _ ⟨fun t8_3 w4 =>
  CallV Tryd.prog (.func (.func 30) #[] #[]) #[t8_3] (@hid _ ⟨fun t9_5 w6 =>
  BinK Tryd.prog Go.BinOp.neq 36 t9_5 (Go.Value.int Go.IntKind.i64 0) (@hid _ ⟨fun t11_7 w8 =>
  BrK t11_7 (@hid _ ⟨
   R t9_5 w8⟩) (@hid _ ⟨
   CutK2 (@hid _ ⟨fun R9 =>
    DrawK (@hid _ ⟨fun S13 w14 =>
    TakeO Tryd.prog S13 (nilSem x0) (@hid _ ⟨fun t15_15 =>
    TakeS Tryd.prog S13 (Instr.fieldAt 63 t15_15 0) (@hid _ ⟨fun t16_16 =>
    TakeS Tryd.prog S13 (Instr.loadAt 60 t16_16) (@hid _ ⟨fun t17_17 =>
    TakeS Tryd.prog S13 (Instr.fieldAt 28 t3_1 0) (@hid _ ⟨fun t18_18 =>
    TakeS Tryd.prog S13 (Instr.loadAt 9 t18_18) (@hid _ ⟨fun t19_19 =>
    (CallV Tryd.prog (.func (.func 31) #[] #[]) #[t17_17, t19_19] (@hid _ ⟨fun t20_20 w21 =>
    S13 w21 ∧
    TakeS Tryd.prog S13 (Instr.extract t20_20 0) (@hid _ ⟨fun t21_22 =>
    TakeS Tryd.prog S13 (Instr.extract t20_20 1) (@hid _ ⟨fun t22_23 =>
    (AllocK Tryd.prog 28 (@hid _ ⟨fun t6_24 w25 =>
    S13 w25 ∧
    (StoreK Tryd.prog 28 t6_24 t21_22 (@hid _ ⟨fun tu_26 w27 =>
    S13 w27 ∧
    R9 t6_24 t22_23 w27⟩) w25) ∧
    True⟩) w21) ∧
    True⟩)⟩)⟩) w14) ∧
    (AllocK Tryd.prog 28 (@hid _ ⟨fun t6_28 w29 =>
    S13 w29 ∧
    (CallV Tryd.prog (.func (.func 31) #[] #[]) #[t17_17, t19_19] (@hid _ ⟨fun t20_30 w31 =>
    S13 w31 ∧
    TakeS Tryd.prog S13 (Instr.extract t20_30 0) (@hid _ ⟨fun t21_32 =>
    TakeS Tryd.prog S13 (Instr.extract t20_30 1) (@hid _ ⟨fun t22_33 =>
    (StoreK Tryd.prog 28 t6_28 t21_32 (@hid _ ⟨fun tu_34 w35 =>
    S13 w35 ∧
    R9 t6_28 t22_33 w35⟩) w31) ∧
    True⟩)⟩)⟩) w29) ∧
    True⟩) w14) ∧
    True⟩)⟩)⟩)⟩)⟩)⟩) w8⟩)
   (@hid _ ⟨fun _ x6_10 x7_11 w12 =>
    GuardK x7_11 true (fun k w => LoadK Tryd.prog 28 t3_1 k w) (@hid _ ⟨fun t26_36 w37 =>
    GuardK x7_11 true (fun k w => LoadK Tryd.prog 28 x6_10 k w) (@hid _ ⟨fun t27_38 w39 =>
    GuardK x7_11 true (fun k w => CallV Tryd.prog (.func (.func 23) #[] #[]) #[t26_36, t27_38] k w) (@hid _ ⟨fun t28_40 w41 =>
    GuardK x7_11 true (fun k w => UnK Tryd.prog Go.UnOp.not t28_40 k w) (@hid _ ⟨fun t29_42 w43 =>
    PickK Tryd.prog x7_11 t29_42 (Go.Value.bool false) (@hid _ ⟨fun t30_44 w45 =>
    BrK t30_44 (@hid _ ⟨
     R (Go.Value.int Go.IntKind.i64 11) w45⟩) (@hid _ ⟨
     UnK Tryd.prog Go.UnOp.not x7_11 (@hid _ ⟨fun t33_46 w47 =>
     GuardK t33_46 true (fun k w => k x0 w) (@hid _ ⟨fun t35_48 w49 =>
     GuardK t33_46 true (fun k w => NilK Tryd.prog t35_48 k w) (@hid _ ⟨fun t36_50 w51 =>
     GuardK t33_46 true (fun k w => FieldAtK Tryd.prog 63 t36_50 0 k w) (@hid _ ⟨fun t37_52 w53 =>
     GuardK t33_46 true (fun k w => LoadK Tryd.prog 60 t37_52 k w) (@hid _ ⟨fun t38_54 w55 =>
     GuardK t33_46 true (fun k w => CallV Tryd.prog (.func (.func 32) #[] #[]) #[t38_54] k w) (@hid _ ⟨fun t39_56 w57 =>
     GuardK t33_46 true (fun k w => BinK Tryd.prog Go.BinOp.geq 3 t39_56 (Go.Value.int Go.IntKind.i64 64) k w) (@hid _ ⟨fun t40_58 w59 =>
     PickK Tryd.prog t33_46 t40_58 (Go.Value.bool false) (@hid _ ⟨fun t41_60 w61 =>
     BrK t41_60 (@hid _ ⟨
      R (Go.Value.int Go.IntKind.i64 9) w61⟩) (@hid _ ⟨
      DrawK (@hid _ ⟨fun S62 w63 =>
      TakeO Tryd.prog S62 (nilSem x0) (@hid _ ⟨fun t43_64 =>
      TakeS Tryd.prog S62 (Instr.fieldAt 63 t43_64 0) (@hid _ ⟨fun t44_65 =>
      TakeS Tryd.prog S62 (Instr.loadAt 60 t44_65) (@hid _ ⟨fun t45_66 =>
      TakeS Tryd.prog S62 (Instr.fieldAt 28 t3_1 0) (@hid _ ⟨fun t46_67 =>
      TakeS Tryd.prog S62 (Instr.loadAt 9 t46_67) (@hid _ ⟨fun t47_68 =>
      TakeS Tryd.prog S62 (Instr.loadAt 28 t3_1) (@hid _ ⟨fun t48_69 =>
      (CallV Tryd.prog (.func (.func 33) #[] #[]) #[t45_66, t47_68, t48_69] (@hid _ ⟨fun t49_70 w71 =>
      S62 w71 ∧
      R (Go.Value.int Go.IntKind.i64 0) w71⟩) w63) ∧
      True⟩)⟩)⟩)⟩)⟩)⟩)⟩) w61⟩)⟩) w59⟩) w57⟩) w55⟩) w53⟩) w51⟩) w49⟩) w47⟩) w45⟩)⟩) w43⟩) w41⟩) w39⟩) w37⟩) w12⟩)⟩)⟩) w6⟩) w4⟩) w2⟩) w0
def a11 : Ann := (.seq .no (.seq (.seq .no (.seq .no (.cond (.seq .no .no) .no))) (.cut [6, 7] [(13, 22)] (.plan (.take 0 (.take 1 (.take 2 (.take 3 (.take 4 (.take 5 (.alt 6 (.take 7 (.take 8 (.take 9 (.alt 10 (.alt 11 (.take 12 .done) .nil) .nil)))) (.alt 10 (.alt 6 (.take 7 (.take 8 (.take 9 (.alt 11 (.take 12 .done) .nil)))) .nil) .nil))))))))) (.seq (.block (.seq .no (.cond (.seq .no .no) (.seq .no (.cond (.seq .no .no) .no))))) (.seq (.plan (.take 0 (.take 1 (.take 2 (.take 3 (.take 4 (.take 5 (.take 6 (.alt 7 .done .nil))))))))) (.seq .no .no))))))
theorem F11_eq (x0 x1 : Value) (R : Value → World → Prop) (w0 : World) : F11 x0 x1 R w0 = vc Tryd.prog (bodyOf Tryd.f11) a11 (retQ Tryd.prog Tryd.f11 R) (envOf 0 [x0, x1]) w0 := by kernel_rfl
theorem F11_calls (x0 x1 : Value) (R : Value → World → Prop) (w0 : World) (h : F11 x0 x1 R w0) : CallK Tryd.prog 11 #[x0, x1] R w0 :=
  calls_vc (c := bodyOf Tryd.f11) Tryd.func11 (by kernel_rfl) (by kernel_rfl) a11 (by kernel_rfl) (by kernel_rfl) [x0, x1] (by rw [Tryd.ntmps11]; exact Nat.le_of_ble_eq_true rfl) w0 R ((F11_eq x0 x1 R w0).mp h)

/-- (*canton/book.Book).Get, its body as a formula. -/
def F12 (x0 x1 : Value) (R : Value → World → Prop) (w0 : World) : Prop :=
  AllocK Tryd.prog 28 (@hid _ ⟨fun t4_1 w2 =>
  NilK Tryd.prog x0 (@hid _ ⟨fun t7_3 w4 =>
  FieldAtK Tryd.prog 63 t7_3 0 (@hid _ ⟨fun t8_5 w6 =>
  LoadK Tryd.prog 60 t8_5 (@hid _ ⟨fun t9_7 w8 =>
  CallV Tryd.prog (.func (.func 31) #[] #[]) #[t9_7, x1] (@hid _ ⟨fun t11_9 w10 =>
  ExtractK Tryd.prog t11_9 0 (@hid _ ⟨fun t12_11 w12 =>
  ExtractK Tryd.prog t11_9 1 (@hid _ ⟨fun t13_13 w14 =>
  StoreK Tryd.prog 28 t4_1 t12_11 (@hid _ ⟨fun tu_15 w16 =>
  LoadK Tryd.prog 28 t4_1 (@hid _ ⟨fun c17 w18 => w18 = w16 ∧ R (.tuple #[c17, t13_13]) w16⟩) w16⟩) w14⟩) w12⟩) w10⟩) w8⟩) w6⟩) w4⟩) w2⟩) w0
def a12 : Ann := (.seq .no (.seq .no .no))
theorem F12_eq (x0 x1 : Value) (R : Value → World → Prop) (w0 : World) : F12 x0 x1 R w0 = vc Tryd.prog (bodyOf Tryd.f12) a12 (retQ Tryd.prog Tryd.f12 R) (envOf 0 [x0, x1]) w0 := by kernel_rfl
theorem F12_calls (x0 x1 : Value) (R : Value → World → Prop) (w0 : World) (h : F12 x0 x1 R w0) : CallK Tryd.prog 12 #[x0, x1] R w0 :=
  calls_vc (c := bodyOf Tryd.f12) Tryd.func12 (by kernel_rfl) (by kernel_rfl) a12 (by kernel_rfl) (by kernel_rfl) [x0, x1] (by rw [Tryd.ntmps12]; exact Nat.le_of_ble_eq_true rfl) w0 R ((F12_eq x0 x1 R w0).mp h)

/-- (*canton/book.Book).Drop, its body as a formula. -/
def F13 (x0 x1 : Value) (R : Value → World → Prop) (w0 : World) : Prop :=
  NilK Tryd.prog x0 (@hid _ ⟨fun t6_1 w2 =>
  FieldAtK Tryd.prog 63 t6_1 0 (@hid _ ⟨fun t7_3 w4 =>
  LoadK Tryd.prog 60 t7_3 (@hid _ ⟨fun t8_5 w6 =>
  CallV Tryd.prog (.func (.func 34) #[] #[]) #[t8_5, x1] (@hid _ ⟨fun t10_7 w8 =>
  R t10_7 w8⟩) w6⟩) w4⟩) w2⟩) w0
def a13 : Ann := (.seq .no (.seq .no .no))
theorem F13_eq (x0 x1 : Value) (R : Value → World → Prop) (w0 : World) : F13 x0 x1 R w0 = vc Tryd.prog (bodyOf Tryd.f13) a13 (retQ Tryd.prog Tryd.f13 R) (envOf 0 [x0, x1]) w0 := by kernel_rfl
theorem F13_calls (x0 x1 : Value) (R : Value → World → Prop) (w0 : World) (h : F13 x0 x1 R w0) : CallK Tryd.prog 13 #[x0, x1] R w0 :=
  calls_vc (c := bodyOf Tryd.f13) Tryd.func13 (by kernel_rfl) (by kernel_rfl) a13 (by kernel_rfl) (by kernel_rfl) [x0, x1] (by rw [Tryd.ntmps13]; exact Nat.le_of_ble_eq_true rfl) w0 R ((F13_eq x0 x1 R w0).mp h)

/-- canton/cantonref21.SweepBook, its body as a formula. -/
def F14 (x0 x1 x2 x3 : Value) (R : Value → World → Prop) (w0 : World) : Prop :=
  BinK Tryd.prog Go.BinOp.lss 2 x1 (Go.Value.int Go.IntKind.i64 0) (@hid _ ⟨fun t14_1 w2 =>
  GuardK t14_1 false (fun k w => k x2 w) (@hid _ ⟨fun t16_3 w4 =>
  GuardK t14_1 false (fun k w => BinK Tryd.prog Go.BinOp.lss 2 t16_3 (Go.Value.int Go.IntKind.i64 0) k w) (@hid _ ⟨fun t17_5 w6 =>
  PickK Tryd.prog t14_1 (Go.Value.bool true) t17_5 (@hid _ ⟨fun t18_7 w8 =>
  BrK t18_7 (@hid _ ⟨
   R (.tuple #[x0, (Go.Value.slice none 0 0)]) w8⟩) (@hid _ ⟨
   LoopK3 (Go.Value.slice none 0 0) (Go.Value.slice none 0 0) (Go.Value.int Go.IntKind.i64 0) w8 (@hid _ ⟨fun _ x10_9 x11_10 x12_11 w12 B13 =>
    BuiltinK Tryd.prog Go.Builtin.len #[26] 3 #[false] #[x0] (@hid _ ⟨fun t22_14 w15 =>
    BinK Tryd.prog Go.BinOp.lss 3 x12_11 t22_14 (@hid _ ⟨fun t23_16 w17 =>
    BrK t23_16 (@hid _ ⟨
     IndexAtK Tryd.prog 26 x0 x12_11 (@hid _ ⟨fun t28_18 w19 =>
     FieldAtK Tryd.prog 33 t28_18 2 (@hid _ ⟨fun t29_20 w21 =>
     LoadK Tryd.prog 2 t29_20 (@hid _ ⟨fun t30_22 w23 =>
     BinK Tryd.prog Go.BinOp.sub 2 x1 x2 (@hid _ ⟨fun t33_24 w25 =>
     BinK Tryd.prog Go.BinOp.lss 2 t30_22 t33_24 (@hid _ ⟨fun t34_26 w27 =>
     GuardK t34_26 true (fun k w => k x0 w) (@hid _ ⟨fun t36_28 w29 =>
     GuardK t34_26 true (fun k w => k x12_11 w) (@hid _ ⟨fun t37_30 w31 =>
     GuardK t34_26 true (fun k w => IndexAtK Tryd.prog 26 t36_28 t37_30 k w) (@hid _ ⟨fun t38_32 w33 =>
     GuardK t34_26 true (fun k w => FieldAtK Tryd.prog 33 t38_32 0 k w) (@hid _ ⟨fun t39_34 w35 =>
     GuardK t34_26 true (fun k w => LoadK Tryd.prog 9 t39_34 k w) (@hid _ ⟨fun t40_36 w37 =>
     GuardK t34_26 true (fun k w => k x3 w) (@hid _ ⟨fun t41_38 w39 =>
     GuardK t34_26 true (fun k w => BinK Tryd.prog Go.BinOp.neq 9 t40_36 t41_38 k w) (@hid _ ⟨fun t42_40 w41 =>
     PickK Tryd.prog t34_26 t42_40 (Go.Value.bool false) (@hid _ ⟨fun t43_42 w43 =>
     BrK t43_42 (@hid _ ⟨
      IndexAtK Tryd.prog 26 x0 x12_11 (@hid _ ⟨fun t47_44 w45 =>
      FieldAtK Tryd.prog 33 t47_44 0 (@hid _ ⟨fun t48_46 w47 =>
      LoadK Tryd.prog 9 t48_46 (@hid _ ⟨fun t49_48 w49 =>
      BuildSliceK Tryd.prog 41 1 #[(0, t49_48)] (@hid _ ⟨fun t50_50 w51 =>
      BuiltinK Tryd.prog Go.Builtin.append #[41, 41] 41 #[false, false] #[x11_10, t50_50] (@hid _ ⟨fun t51_52 w53 =>
      BinK Tryd.prog Go.BinOp.add 3 x12_11 (Go.Value.int Go.IntKind.i64 1) (@hid _ ⟨fun t25_54 w55 =>
      B13 x10_9 t51_52 t25_54 w55⟩) w53⟩) w51⟩) w49⟩) w47⟩) w45⟩) w43⟩) (@hid _ ⟨
      IndexAtK Tryd.prog 26 x0 x12_11 (@hid _ ⟨fun t55_56 w57 =>
      LoadK Tryd.prog 33 t55_56 (@hid _ ⟨fun t56_58 w59 =>
      BuildSliceK Tryd.prog 26 1 #[(0, t56_58)] (@hid _ ⟨fun t57_60 w61 =>
      BuiltinK Tryd.prog Go.Builtin.append #[26, 26] 26 #[false, false] #[x10_9, t57_60] (@hid _ ⟨fun t58_62 w63 =>
      BinK Tryd.prog Go.BinOp.add 3 x12_11 (Go.Value.int Go.IntKind.i64 1) (@hid _ ⟨fun t25_64 w65 =>
      B13 t58_62 x11_10 t25_64 w65⟩) w63⟩) w61⟩) w59⟩) w57⟩) w43⟩)⟩) w41⟩) w39⟩) w37⟩) w35⟩) w33⟩) w31⟩) w29⟩) w27⟩) w25⟩) w23⟩) w21⟩) w19⟩) w17⟩) (@hid _ ⟨
     R (.tuple #[x10_9, x11_10]) w17⟩)⟩) w15⟩) w12⟩)⟩)⟩) w6⟩) w4⟩) w2⟩) w0
def a14 : Ann := (.seq .no (.seq (.seq .no (.cond (.seq .no .no) .no)) (.seq .no (.seq .no (.seq (.seq .no (.block (.loop [10, 11, 12] [(20, 58)] (.seq (.seq .no (.cond .no .no)) (.seq (.block (.seq (.seq .no (.cond (.seq .no .no) .no)) .no)) .no))))) (.seq .no .no))))))
theorem F14_eq (x0 x1 x2 x3 : Value) (R : Value → World → Prop) (w0 : World) : F14 x0 x1 x2 x3 R w0 = vc Tryd.prog (bodyOf Tryd.f14) a14 (retQ Tryd.prog Tryd.f14 R) (envOf 0 [x0, x1, x2, x3]) w0 := by kernel_rfl
theorem F14_calls (x0 x1 x2 x3 : Value) (R : Value → World → Prop) (w0 : World) (h : F14 x0 x1 x2 x3 R w0) : CallK Tryd.prog 14 #[x0, x1, x2, x3] R w0 :=
  calls_vc (c := bodyOf Tryd.f14) Tryd.func14 (by kernel_rfl) (by kernel_rfl) a14 (by kernel_rfl) (by kernel_rfl) [x0, x1, x2, x3] (by rw [Tryd.ntmps14]; exact Nat.le_of_ble_eq_true rfl) w0 R ((F14_eq x0 x1 x2 x3 R w0).mp h)

/-- canton/cantonlaw6.Texts, its body as a formula. -/
def F15 (x0 x1 : Value) (R : Value → World → Prop) (w0 : World) : Prop :=
  BuiltinK Tryd.prog Go.Builtin.len #[41] 3 #[false] #[x0] (@hid _ ⟨fun t7_1 w2 =>
  BuiltinK Tryd.prog Go.Builtin.len #[41] 3 #[false] #[x1] (@hid _ ⟨fun t9_3 w4 =>
  BinK Tryd.prog Go.BinOp.neq 3 t7_1 t9_3 (@hid _ ⟨fun t10_5 w6 =>
  BrK t10_5 (@hid _ ⟨
   R (Go.Value.bool false) w6⟩) (@hid _ ⟨
   LoopK1 (Go.Value.int Go.IntKind.i64 0) w6 (@hid _ ⟨fun _ x5_7 w8 B9 =>
    BuiltinK Tryd.prog Go.Builtin.len #[41] 3 #[false] #[x0] (@hid _ ⟨fun t13_10 w11 =>
    BinK Tryd.prog Go.BinOp.lss 3 x5_7 t13_10 (@hid _ ⟨fun t14_12 w13 =>
    BrK t14_12 (@hid _ ⟨
     DrawK (@hid _ ⟨fun S14 w15 =>
     TakeS Tryd.prog S14 (Instr.indexAt 41 x0 x5_7) (@hid _ ⟨fun t19_16 =>
     TakeS Tryd.prog S14 (Instr.loadAt 9 t19_16) (@hid _ ⟨fun t20_17 =>
     TakeS Tryd.prog S14 (Instr.indexAt 41 x1 x5_7) (@hid _ ⟨fun t23_18 =>
     TakeS Tryd.prog S14 (Instr.loadAt 9 t23_18) (@hid _ ⟨fun t24_19 =>
     BinT Tryd.prog S14 Go.BinOp.neq 9 t20_17 t24_19 (@hid _ ⟨fun t25_20 =>
     BrK t25_20 (@hid _ ⟨
      R (Go.Value.bool false) w15⟩) (@hid _ ⟨
      BinK Tryd.prog Go.BinOp.add 3 x5_7 (Go.Value.int Go.IntKind.i64 1) (@hid _ ⟨fun t16_21 w22 =>
      B9 t16_21 w22⟩) w15⟩)⟩)⟩)⟩)⟩)⟩)⟩) w13⟩) (@hid _ ⟨
     R (Go.Value.bool true) w13⟩)⟩) w11⟩) w8⟩)⟩)⟩) w4⟩) w2⟩) w0
def a15 : Ann := (.seq .no (.seq (.seq .no (.cond (.seq .no .no) .no)) (.seq (.seq .no (.block (.loop [5] [(4, 4), (11, 25)] (.seq (.seq .no (.cond .no .no)) (.seq (.block (.seq (.plan (.take 0 (.take 1 (.take 2 (.take 3 (.take 4 (.take 5 (.take 6 (.take 7 (.take 8 .done)))))))))) (.cond (.seq .no .no) .no))) .no))))) (.seq .no .no))))
theorem F15_eq (x0 x1 : Value) (R : Value → World → Prop) (w0 : World) : F15 x0 x1 R w0 = vc Tryd.prog (bodyOf Tryd.f15) a15 (retQ Tryd.prog Tryd.f15 R) (envOf 0 [x0, x1]) w0 := by kernel_rfl
theorem F15_calls (x0 x1 : Value) (R : Value → World → Prop) (w0 : World) (h : F15 x0 x1 R w0) : CallK Tryd.prog 15 #[x0, x1] R w0 :=
  calls_vc (c := bodyOf Tryd.f15) Tryd.func15 (by kernel_rfl) (by kernel_rfl) a15 (by kernel_rfl) (by kernel_rfl) [x0, x1] (by rw [Tryd.ntmps15]; exact Nat.le_of_ble_eq_true rfl) w0 R ((F15_eq x0 x1 R w0).mp h)

/-- (*canton/book.Book).Sweep, its body as a formula. -/
def F16 (x0 x1 x2 x3 : Value) (R : Value → World → Prop) (w0 : World) : Prop :=
  BinK Tryd.prog Go.BinOp.lss 2 x1 (Go.Value.int Go.IntKind.i64 0) (@hid _ ⟨fun t13_1 w2 =>
  GuardK t13_1 false (fun k w => k x2 w) (@hid _ ⟨fun t15_3 w4 =>
  GuardK t13_1 false (fun k w => BinK Tryd.prog Go.BinOp.lss 2 t15_3 (Go.Value.int Go.IntKind.i64 0) k w) (@hid _ ⟨fun t16_5 w6 =>
  PickK Tryd.prog t13_1 (Go.Value.bool true) t16_5 (@hid _ ⟨fun t17_7 w8 =>
  BrK t17_7 (@hid _ ⟨
   R (Go.Value.slice none 0 0) w8⟩) (@hid _ ⟨
   CallV Tryd.prog (.func (.func 19) #[] #[]) #[x0] (@hid _ ⟨fun t19_9 w10 =>
   BuiltinK Tryd.prog Go.Builtin.len #[35] 3 #[false] #[t19_9] (@hid _ ⟨fun t20_11 w12 =>
   LoopK2 (Go.Value.slice none 0 0) (Go.Value.int Go.IntKind.i64 0) w12 (@hid _ ⟨fun _ x9_13 x21_14 w15 B16 =>
    BinK Tryd.prog Go.BinOp.lss 3 x21_14 t20_11 (@hid _ ⟨fun t22_17 w18 =>
    BrK t22_17 (@hid _ ⟨
     IndexAtK Tryd.prog 35 t19_9 x21_14 (@hid _ ⟨fun t23_19 w20 =>
     LoadK Tryd.prog 28 t23_19 (@hid _ ⟨fun t24_21 w22 =>
     AllocK Tryd.prog 28 (@hid _ ⟨fun t11_23 w24 =>
     StoreK Tryd.prog 28 t11_23 t24_21 (@hid _ ⟨fun tu_25 w26 =>
     FieldAtK Tryd.prog 28 t11_23 0 (@hid _ ⟨fun t25_27 w28 =>
     LoadK Tryd.prog 9 t25_27 (@hid _ ⟨fun t26_29 w30 =>
     BinK Tryd.prog Go.BinOp.neq 9 t26_29 x3 (@hid _ ⟨fun t28_31 w32 =>
     GuardK t28_31 true (fun k w => FieldAtK Tryd.prog 28 t11_23 2 k w) (@hid _ ⟨fun t30_33 w34 =>
     GuardK t28_31 true (fun k w => LoadK Tryd.prog 2 t30_33 k w) (@hid _ ⟨fun t31_35 w36 =>
     GuardK t28_31 true (fun k w => k x1 w) (@hid _ ⟨fun t32_37 w38 =>
     GuardK t28_31 true (fun k w => k x2 w) (@hid _ ⟨fun t33_39 w40 =>
     GuardK t28_31 true (fun k w => BinK Tryd.prog Go.BinOp.sub 2 t32_37 t33_39 k w) (@hid _ ⟨fun t34_41 w42 =>
     GuardK t28_31 true (fun k w => BinK Tryd.prog Go.BinOp.lss 2 t31_35 t34_41 k w) (@hid _ ⟨fun t35_43 w44 =>
     PickK Tryd.prog t28_31 t35_43 (Go.Value.bool false) (@hid _ ⟨fun t36_45 w46 =>
     BrK t36_45 (@hid _ ⟨
      FieldAtK Tryd.prog 28 t11_23 0 (@hid _ ⟨fun t38_47 w48 =>
      LoadK Tryd.prog 9 t38_47 (@hid _ ⟨fun t39_49 w50 =>
      BuildSliceK Tryd.prog 41 1 #[(0, t39_49)] (@hid _ ⟨fun t40_51 w52 =>
      BuiltinK Tryd.prog Go.Builtin.append #[41, 41] 41 #[false, false] #[x9_13, t40_51] (@hid _ ⟨fun t41_53 w54 =>
      DrawK (@hid _ ⟨fun S55 w56 =>
      TakeO Tryd.prog S55 (nilSem x0) (@hid _ ⟨fun t43_57 =>
      TakeS Tryd.prog S55 (Instr.fieldAt 63 t43_57 0) (@hid _ ⟨fun t44_58 =>
      TakeS Tryd.prog S55 (Instr.loadAt 60 t44_58) (@hid _ ⟨fun t45_59 =>
      TakeS Tryd.prog S55 (Instr.fieldAt 28 t11_23 0) (@hid _ ⟨fun t46_60 =>
      TakeS Tryd.prog S55 (Instr.loadAt 9 t46_60) (@hid _ ⟨fun t47_61 =>
      (CallV Tryd.prog (.func (.func 34) #[] #[]) #[t45_59, t47_61] (@hid _ ⟨fun t48_62 w63 =>
      S55 w63 ∧
      BinK Tryd.prog Go.BinOp.add 3 x21_14 (Go.Value.int Go.IntKind.i64 1) (@hid _ ⟨fun t49_64 w65 =>
      B16 t41_53 t49_64 w65⟩) w63⟩) w56) ∧
      True⟩)⟩)⟩)⟩)⟩)⟩) w54⟩) w52⟩) w50⟩) w48⟩) w46⟩) (@hid _ ⟨
      BinK Tryd.prog Go.BinOp.add 3 x21_14 (Go.Value.int Go.IntKind.i64 1) (@hid _ ⟨fun t49_66 w67 =>
      B16 x9_13 t49_66 w67⟩) w46⟩)⟩) w44⟩) w42⟩) w40⟩) w38⟩) w36⟩) w34⟩) w32⟩) w30⟩) w28⟩) w26⟩) w24⟩) w22⟩) w20⟩) w18⟩) (@hid _ ⟨
     CallV Tryd.prog (.func (.func 35) #[] #[]) #[x9_13] (@hid _ ⟨fun t51_68 w69 =>
     R t51_68 w69⟩) w18⟩)⟩) w15⟩)⟩) w10⟩) w8⟩)⟩) w6⟩) w4⟩) w2⟩) w0
def a16 : Ann := (.seq .no (.seq (.seq .no (.cond (.seq .no .no) .no)) (.seq .no (.seq (.seq .no (.block (.loop [9, 21] [(11, 11), (22, 49)] (.seq .no (.seq (.cond .no .no) (.seq (.block (.seq .no (.seq .no (.cond (.seq .no (.plan (.take 0 (.take 1 (.take 2 (.take 3 (.take 4 (.take 5 (.alt 6 .done .nil))))))))) .no)))) .no)))))) (.seq .no .no)))))
theorem F16_eq (x0 x1 x2 x3 : Value) (R : Value → World → Prop) (w0 : World) : F16 x0 x1 x2 x3 R w0 = vc Tryd.prog (bodyOf Tryd.f16) a16 (retQ Tryd.prog Tryd.f16 R) (envOf 0 [x0, x1, x2, x3]) w0 := by kernel_rfl
theorem F16_calls (x0 x1 x2 x3 : Value) (R : Value → World → Prop) (w0 : World) (h : F16 x0 x1 x2 x3 R w0) : CallK Tryd.prog 16 #[x0, x1, x2, x3] R w0 :=
  calls_vc (c := bodyOf Tryd.f16) Tryd.func16 (by kernel_rfl) (by kernel_rfl) a16 (by kernel_rfl) (by kernel_rfl) [x0, x1, x2, x3] (by rw [Tryd.ntmps16]; exact Nat.le_of_ble_eq_true rfl) w0 R ((F16_eq x0 x1 x2 x3 R w0).mp h)

/-- (*canton/book.Book).Twin, its body as a formula. -/
def F17 (x0 : Value) (R : Value → World → Prop) (w0 : World) : Prop :=
  NilK Tryd.prog x0 (@hid _ ⟨fun t4_1 w2 =>
  FieldAtK Tryd.prog 63 t4_1 0 (@hid _ ⟨fun t5_3 w4 =>
  LoadK Tryd.prog 60 t5_3 (@hid _ ⟨fun t6_5 w6 =>
  CallV Tryd.prog (.func (.func 36) #[] #[]) #[t6_5] (@hid _ ⟨fun t7_7 w8 =>
  BuildK Tryd.prog 63 #[(0, t7_7)] (@hid _ ⟨fun t8_9 w10 =>
  BoxK Tryd.prog 63 t8_9 (@hid _ ⟨fun t9_11 w12 =>
  R t9_11 w12⟩) w10⟩) w8⟩) w6⟩) w4⟩) w2⟩) w0
def a17 : Ann := (.seq .no (.seq .no .no))
theorem F17_eq (x0 : Value) (R : Value → World → Prop) (w0 : World) : F17 x0 R w0 = vc Tryd.prog (bodyOf Tryd.f17) a17 (retQ Tryd.prog Tryd.f17 R) (envOf 0 [x0]) w0 := by kernel_rfl
theorem F17_calls (x0 : Value) (R : Value → World → Prop) (w0 : World) (h : F17 x0 R w0) : CallK Tryd.prog 17 #[x0] R w0 :=
  calls_vc (c := bodyOf Tryd.f17) Tryd.func17 (by kernel_rfl) (by kernel_rfl) a17 (by kernel_rfl) (by kernel_rfl) [x0] (by rw [Tryd.ntmps17]; exact Nat.le_of_ble_eq_true rfl) w0 R ((F17_eq x0 R w0).mp h)

/-- canton/cantonlaw16.Same, its body as a formula. -/
def F18 (x0 x1 : Value) (R : Value → World → Prop) (w0 : World) : Prop :=
  CallV Tryd.prog (.func (.func 10) #[] #[]) #[x0] (@hid _ ⟨fun t8_1 w2 =>
  BuiltinK Tryd.prog Go.Builtin.len #[26] 3 #[false] #[t8_1] (@hid _ ⟨fun t10_3 w4 =>
  BuiltinK Tryd.prog Go.Builtin.len #[26] 3 #[false] #[x1] (@hid _ ⟨fun t12_5 w6 =>
  BinK Tryd.prog Go.BinOp.neq 3 t10_3 t12_5 (@hid _ ⟨fun t13_7 w8 =>
  BrK t13_7 (@hid _ ⟨
   R (Go.Value.bool false) w8⟩) (@hid _ ⟨
   LoopK1 (Go.Value.int Go.IntKind.i64 0) w8 (@hid _ ⟨fun _ x6_9 w10 B11 =>
    BuiltinK Tryd.prog Go.Builtin.len #[26] 3 #[false] #[t8_1] (@hid _ ⟨fun t16_12 w13 =>
    BinK Tryd.prog Go.BinOp.lss 3 x6_9 t16_12 (@hid _ ⟨fun t17_14 w15 =>
    BrK t17_14 (@hid _ ⟨
     DrawK (@hid _ ⟨fun S16 w17 =>
     TakeS Tryd.prog S16 (Instr.indexAt 26 t8_1 x6_9) (@hid _ ⟨fun t22_18 =>
     TakeS Tryd.prog S16 (Instr.loadAt 33 t22_18) (@hid _ ⟨fun t23_19 =>
     TakeS Tryd.prog S16 (Instr.indexAt 26 x1 x6_9) (@hid _ ⟨fun t26_20 =>
     TakeS Tryd.prog S16 (Instr.loadAt 33 t26_20) (@hid _ ⟨fun t27_21 =>
     BinT Tryd.prog S16 Go.BinOp.neq 33 t23_19 t27_21 (@hid _ ⟨fun t28_22 =>
     BrK t28_22 (@hid _ ⟨
      R (Go.Value.bool false) w17⟩) (@hid _ ⟨
      BinK Tryd.prog Go.BinOp.add 3 x6_9 (Go.Value.int Go.IntKind.i64 1) (@hid _ ⟨fun t19_23 w24 =>
      B11 t19_23 w24⟩) w17⟩)⟩)⟩)⟩)⟩)⟩)⟩) w15⟩) (@hid _ ⟨
     R (Go.Value.bool true) w15⟩)⟩) w13⟩) w10⟩)⟩)⟩) w6⟩) w4⟩) w2⟩) w0
def a18 : Ann := (.seq .no (.seq .no (.seq (.seq .no (.cond (.seq .no .no) .no)) (.seq (.seq .no (.block (.loop [6] [(4, 4), (14, 28)] (.seq (.seq .no (.cond .no .no)) (.seq (.block (.seq (.plan (.take 0 (.take 1 (.take 2 (.take 3 (.take 4 (.take 5 (.take 6 (.take 7 (.take 8 .done)))))))))) (.cond (.seq .no .no) .no))) .no))))) (.seq .no .no)))))
theorem F18_eq (x0 x1 : Value) (R : Value → World → Prop) (w0 : World) : F18 x0 x1 R w0 = vc Tryd.prog (bodyOf Tryd.f18) a18 (retQ Tryd.prog Tryd.f18 R) (envOf 0 [x0, x1]) w0 := by kernel_rfl
theorem F18_calls (x0 x1 : Value) (R : Value → World → Prop) (w0 : World) (h : F18 x0 x1 R w0) : CallK Tryd.prog 18 #[x0, x1] R w0 :=
  calls_vc (c := bodyOf Tryd.f18) Tryd.func18 (by kernel_rfl) (by kernel_rfl) a18 (by kernel_rfl) (by kernel_rfl) [x0, x1] (by rw [Tryd.ntmps18]; exact Nat.le_of_ble_eq_true rfl) w0 R ((F18_eq x0 x1 R w0).mp h)

/-- (*canton/book.Book).Row, its body as a formula. -/
def F19 (x0 : Value) (R : Value → World → Prop) (w0 : World) : Prop :=
  NilK Tryd.prog x0 (@hid _ ⟨fun t9_1 w2 =>
  FieldAtK Tryd.prog 63 t9_1 0 (@hid _ ⟨fun t10_3 w4 =>
  LoadK Tryd.prog 60 t10_3 (@hid _ ⟨fun t11_5 w6 =>
  CallV Tryd.prog (.func (.func 32) #[] #[]) #[t11_5] (@hid _ ⟨fun t12_7 w8 =>
  LoopK2 (Go.Value.slice none 0 0) (Go.Value.int Go.IntKind.i64 0) w8 (@hid _ ⟨fun _ x3_9 x13_10 w11 B12 =>
   BinK Tryd.prog Go.BinOp.lss 3 x13_10 t12_7 (@hid _ ⟨fun t14_13 w14 =>
   BrK t14_13 (@hid _ ⟨
    NilK Tryd.prog x0 (@hid _ ⟨fun t18_15 w16 =>
    FieldAtK Tryd.prog 63 t18_15 0 (@hid _ ⟨fun t19_17 w18 =>
    LoadK Tryd.prog 60 t19_17 (@hid _ ⟨fun t20_19 w20 =>
    CallV Tryd.prog (.func (.func 37) #[] #[]) #[t20_19, x13_10] (@hid _ ⟨fun t22_21 w22 =>
    ExtractK Tryd.prog t22_21 0 (@hid _ ⟨fun t23_23 w24 =>
    ExtractK Tryd.prog t22_21 1 (@hid _ ⟨fun t24_25 w26 =>
    ExtractK Tryd.prog t22_21 2 (@hid _ ⟨fun t25_27 w28 =>
    AllocK Tryd.prog 28 (@hid _ ⟨fun t6_29 w30 =>
    StoreK Tryd.prog 28 t6_29 t24_25 (@hid _ ⟨fun tu_31 w32 =>
    LoadK Tryd.prog 28 t6_29 (@hid _ ⟨fun t27_33 w34 =>
    BuildSliceK Tryd.prog 35 1 #[(0, t27_33)] (@hid _ ⟨fun t28_35 w36 =>
    BuiltinK Tryd.prog Go.Builtin.append #[35, 35] 35 #[false, false] #[x3_9, t28_35] (@hid _ ⟨fun t29_37 w38 =>
    BinK Tryd.prog Go.BinOp.add 3 x13_10 (Go.Value.int Go.IntKind.i64 1) (@hid _ ⟨fun t30_39 w40 =>
    B12 t29_37 t30_39 w40⟩) w38⟩) w36⟩) w34⟩) w32⟩) w30⟩) w28⟩) w26⟩) w24⟩) w22⟩) w20⟩) w18⟩) w16⟩) w14⟩) (@hid _ ⟨
    CallV Tryd.prog (.func (.func 38) #[] #[]) #[x3_9] (@hid _ ⟨fun t32_41 w42 =>
    R t32_41 w42⟩) w14⟩)⟩) w11⟩)⟩) w6⟩) w4⟩) w2⟩) w0
def a19 : Ann := (.seq .no (.seq .no (.seq (.seq .no (.block (.loop [3, 13] [(4, 7), (14, 30)] (.seq .no (.seq (.cond .no .no) (.seq (.block (.seq .no (.seq .no .no))) .no)))))) (.seq .no .no))))
theorem F19_eq (x0 : Value) (R : Value → World → Prop) (w0 : World) : F19 x0 R w0 = vc Tryd.prog (bodyOf Tryd.f19) a19 (retQ Tryd.prog Tryd.f19 R) (envOf 0 [x0]) w0 := by kernel_rfl
theorem F19_calls (x0 : Value) (R : Value → World → Prop) (w0 : World) (h : F19 x0 R w0) : CallK Tryd.prog 19 #[x0] R w0 :=
  calls_vc (c := bodyOf Tryd.f19) Tryd.func19 (by kernel_rfl) (by kernel_rfl) a19 (by kernel_rfl) (by kernel_rfl) [x0] (by rw [Tryd.ntmps19]; exact Nat.le_of_ble_eq_true rfl) w0 R ((F19_eq x0 R w0).mp h)

/-- (*canton/book.Book).Under, its body as a formula. -/
def F20 (x0 x1 : Value) (R : Value → World → Prop) (w0 : World) : Prop :=
  NilK Tryd.prog x0 (@hid _ ⟨fun t9_1 w2 =>
  FieldAtK Tryd.prog 63 t9_1 0 (@hid _ ⟨fun t10_3 w4 =>
  LoadK Tryd.prog 60 t10_3 (@hid _ ⟨fun t11_5 w6 =>
  CallV Tryd.prog (.func (.func 39) #[] #[]) #[t11_5] (@hid _ ⟨fun t12_7 w8 =>
  BuiltinK Tryd.prog Go.Builtin.len #[41] 3 #[false] #[t12_7] (@hid _ ⟨fun t13_9 w10 =>
  LoopK2 (Go.Value.slice none 0 0) (Go.Value.int Go.IntKind.i64 0) w10 (@hid _ ⟨fun _ x5_11 x14_12 w13 B14 =>
   BinK Tryd.prog Go.BinOp.lss 3 x14_12 t13_9 (@hid _ ⟨fun t15_15 w16 =>
   BrK t15_15 (@hid _ ⟨
    IndexAtK Tryd.prog 41 t12_7 x14_12 (@hid _ ⟨fun t16_17 w18 =>
    LoadK Tryd.prog 9 t16_17 (@hid _ ⟨fun t17_19 w20 =>
    CallV Tryd.prog (.func (.func 40) #[] #[]) #[t17_19, x1] (@hid _ ⟨fun t20_21 w22 =>
    BrK t20_21 (@hid _ ⟨
     BuildSliceK Tryd.prog 41 1 #[(0, t17_19)] (@hid _ ⟨fun t23_23 w24 =>
     BuiltinK Tryd.prog Go.Builtin.append #[41, 41] 41 #[false, false] #[x5_11, t23_23] (@hid _ ⟨fun t24_25 w26 =>
     BinK Tryd.prog Go.BinOp.add 3 x14_12 (Go.Value.int Go.IntKind.i64 1) (@hid _ ⟨fun t25_27 w28 =>
     B14 t24_25 t25_27 w28⟩) w26⟩) w24⟩) w22⟩) (@hid _ ⟨
     BinK Tryd.prog Go.BinOp.add 3 x14_12 (Go.Value.int Go.IntKind.i64 1) (@hid _ ⟨fun t25_29 w30 =>
     B14 x5_11 t25_29 w30⟩) w22⟩)⟩) w20⟩) w18⟩) w16⟩) (@hid _ ⟨
    CallV Tryd.prog (.func (.func 35) #[] #[]) #[x5_11] (@hid _ ⟨fun t27_31 w32 =>
    R t27_31 w32⟩) w16⟩)⟩) w13⟩)⟩) w8⟩) w6⟩) w4⟩) w2⟩) w0
def a20 : Ann := (.seq .no (.seq .no (.seq (.seq .no (.block (.loop [5, 14] [(7, 7), (15, 25)] (.seq .no (.seq (.cond .no .no) (.seq (.block (.seq .no (.seq .no (.cond .no .no)))) .no)))))) (.seq .no .no))))
theorem F20_eq (x0 x1 : Value) (R : Value → World → Prop) (w0 : World) : F20 x0 x1 R w0 = vc Tryd.prog (bodyOf Tryd.f20) a20 (retQ Tryd.prog Tryd.f20 R) (envOf 0 [x0, x1]) w0 := by kernel_rfl
theorem F20_calls (x0 x1 : Value) (R : Value → World → Prop) (w0 : World) (h : F20 x0 x1 R w0) : CallK Tryd.prog 20 #[x0, x1] R w0 :=
  calls_vc (c := bodyOf Tryd.f20) Tryd.func20 (by kernel_rfl) (by kernel_rfl) a20 (by kernel_rfl) (by kernel_rfl) [x0, x1] (by rw [Tryd.ntmps20]; exact Nat.le_of_ble_eq_true rfl) w0 R ((F20_eq x0 x1 R w0).mp h)

/-- canton/cantonref21.Under, its body as a formula. -/
def F21 (x0 x1 : Value) (R : Value → World → Prop) (w0 : World) : Prop :=
  LoopK2 (Go.Value.slice none 0 0) (Go.Value.int Go.IntKind.i64 0) w0 (@hid _ ⟨fun _ x5_1 x6_2 w3 B4 =>
   BuiltinK Tryd.prog Go.Builtin.len #[26] 3 #[false] #[x0] (@hid _ ⟨fun t9_5 w6 =>
   BinK Tryd.prog Go.BinOp.lss 3 x6_2 t9_5 (@hid _ ⟨fun t10_7 w8 =>
   BrK t10_7 (@hid _ ⟨
    IndexAtK Tryd.prog 26 x0 x6_2 (@hid _ ⟨fun t15_9 w10 =>
    FieldAtK Tryd.prog 33 t15_9 0 (@hid _ ⟨fun t16_11 w12 =>
    LoadK Tryd.prog 9 t16_11 (@hid _ ⟨fun t17_13 w14 =>
    CallV Tryd.prog (.func (.func 41) #[] #[]) #[t17_13, x1] (@hid _ ⟨fun t19_15 w16 =>
    BrK t19_15 (@hid _ ⟨
     IndexAtK Tryd.prog 26 x0 x6_2 (@hid _ ⟨fun t23_17 w18 =>
     FieldAtK Tryd.prog 33 t23_17 0 (@hid _ ⟨fun t24_19 w20 =>
     LoadK Tryd.prog 9 t24_19 (@hid _ ⟨fun t25_21 w22 =>
     BuildSliceK Tryd.prog 41 1 #[(0, t25_21)] (@hid _ ⟨fun t26_23 w24 =>
     BuiltinK Tryd.prog Go.Builtin.append #[41, 41] 41 #[false, false] #[x5_1, t26_23] (@hid _ ⟨fun t27_25 w26 =>
     BinK Tryd.prog Go.BinOp.add 3 x6_2 (Go.Value.int Go.IntKind.i64 1) (@hid _ ⟨fun t12_27 w28 =>
     B4 t27_25 t12_27 w28⟩) w26⟩) w24⟩) w22⟩) w20⟩) w18⟩) w16⟩) (@hid _ ⟨
     BinK Tryd.prog Go.BinOp.add 3 x6_2 (Go.Value.int Go.IntKind.i64 1) (@hid _ ⟨fun t12_29 w30 =>
     B4 x5_1 t12_29 w30⟩) w16⟩)⟩) w14⟩) w12⟩) w10⟩) w8⟩) (@hid _ ⟨
    R x5_1 w8⟩)⟩) w6⟩) w3⟩)
def a21 : Ann := (.seq .no (.seq .no (.seq (.seq .no (.block (.loop [5, 6] [(7, 27)] (.seq (.seq .no (.cond .no .no)) (.seq (.block (.seq .no (.cond .no .no))) .no))))) (.seq .no .no))))
theorem F21_eq (x0 x1 : Value) (R : Value → World → Prop) (w0 : World) : F21 x0 x1 R w0 = vc Tryd.prog (bodyOf Tryd.f21) a21 (retQ Tryd.prog Tryd.f21 R) (envOf 0 [x0, x1]) w0 := by kernel_rfl
theorem F21_calls (x0 x1 : Value) (R : Value → World → Prop) (w0 : World) (h : F21 x0 x1 R w0) : CallK Tryd.prog 21 #[x0, x1] R w0 :=
  calls_vc (c := bodyOf Tryd.f21) Tryd.func21 (by kernel_rfl) (by kernel_rfl) a21 (by kernel_rfl) (by kernel_rfl) [x0, x1] (by rw [Tryd.ntmps21]; exact Nat.le_of_ble_eq_true rfl) w0 R ((F21_eq x0 x1 R w0).mp h)

/-- canton/cantonlaw16.Few, its body as a formula. -/
def F22 (x0 : Value) (R : Value → World → Prop) (w0 : World) : Prop :=
  BuiltinK Tryd.prog Go.Builtin.len #[35] 3 #[false] #[x0] (@hid _ ⟨fun t5_1 w2 =>
  BinK Tryd.prog Go.BinOp.gtr 3 t5_1 (Go.Value.int Go.IntKind.i64 80) (@hid _ ⟨fun t6_3 w4 =>
  BrK t6_3 (@hid _ ⟨
   R (Go.Value.bool false) w4⟩) (@hid _ ⟨
   LoopK1 (Go.Value.int Go.IntKind.i64 0) w4 (@hid _ ⟨fun _ x3_5 w6 B7 =>
    BuiltinK Tryd.prog Go.Builtin.len #[35] 3 #[false] #[x0] (@hid _ ⟨fun t9_8 w9 =>
    BinK Tryd.prog Go.BinOp.lss 3 x3_5 t9_8 (@hid _ ⟨fun t10_10 w11 =>
    BrK t10_10 (@hid _ ⟨
     IndexAtK Tryd.prog 35 x0 x3_5 (@hid _ ⟨fun t15_12 w13 =>
     FieldAtK Tryd.prog 28 t15_12 0 (@hid _ ⟨fun t16_14 w15 =>
     LoadK Tryd.prog 9 t16_14 (@hid _ ⟨fun t17_16 w17 =>
     BuiltinK Tryd.prog Go.Builtin.len #[9] 3 #[false] #[t17_16] (@hid _ ⟨fun t18_18 w19 =>
     BinK Tryd.prog Go.BinOp.gtr 3 t18_18 (Go.Value.int Go.IntKind.i64 100) (@hid _ ⟨fun t19_20 w21 =>
     BrK t19_20 (@hid _ ⟨
      R (Go.Value.bool false) w21⟩) (@hid _ ⟨
      BinK Tryd.prog Go.BinOp.add 3 x3_5 (Go.Value.int Go.IntKind.i64 1) (@hid _ ⟨fun t12_22 w23 =>
      B7 t12_22 w23⟩) w21⟩)⟩) w19⟩) w17⟩) w15⟩) w13⟩) w11⟩) (@hid _ ⟨
     R (Go.Value.bool true) w11⟩)⟩) w9⟩) w6⟩)⟩)⟩) w2⟩) w0
def a22 : Ann := (.seq .no (.seq (.seq .no (.cond (.seq .no .no) .no)) (.seq (.seq .no (.block (.loop [3] [(2, 2), (7, 19)] (.seq (.seq .no (.cond .no .no)) (.seq (.block (.seq .no (.cond (.seq .no .no) .no))) .no))))) (.seq .no .no))))
theorem F22_eq (x0 : Value) (R : Value → World → Prop) (w0 : World) : F22 x0 R w0 = vc Tryd.prog (bodyOf Tryd.f22) a22 (retQ Tryd.prog Tryd.f22 R) (envOf 0 [x0]) w0 := by kernel_rfl
theorem F22_calls (x0 : Value) (R : Value → World → Prop) (w0 : World) (h : F22 x0 R w0) : CallK Tryd.prog 22 #[x0] R w0 :=
  calls_vc (c := bodyOf Tryd.f22) Tryd.func22 (by kernel_rfl) (by kernel_rfl) a22 (by kernel_rfl) (by kernel_rfl) [x0] (by rw [Tryd.ntmps22]; exact Nat.le_of_ble_eq_true rfl) w0 R ((F22_eq x0 R w0).mp h)

/-- canton/book.Newer, its body as a formula. -/
def F23 (x0 x1 : Value) (R : Value → World → Prop) (w0 : World) : Prop :=
  BoxK Tryd.prog 28 x0 (@hid _ ⟨fun t2_1 w2 =>
  BoxK Tryd.prog 28 x1 (@hid _ ⟨fun t3_3 w4 =>
  DrawK (@hid _ ⟨fun S5 w6 =>
  TakeS Tryd.prog S5 (Instr.fieldAt 28 t2_1 1) (@hid _ ⟨fun t5_7 =>
  TakeS Tryd.prog S5 (Instr.loadAt 2 t5_7) (@hid _ ⟨fun t6_8 =>
  TakeS Tryd.prog S5 (Instr.fieldAt 28 t3_3 1) (@hid _ ⟨fun t7_9 =>
  TakeS Tryd.prog S5 (Instr.loadAt 2 t7_9) (@hid _ ⟨fun t8_10 =>
  TakeS Tryd.prog S5 (Instr.fieldAt 28 t2_1 2) (@hid _ ⟨fun t10_11 =>
  TakeS Tryd.prog S5 (Instr.loadAt 2 t10_11) (@hid _ ⟨fun t11_12 =>
  TakeS Tryd.prog S5 (Instr.fieldAt 28 t3_3 2) (@hid _ ⟨fun t12_13 =>
  TakeS Tryd.prog S5 (Instr.loadAt 2 t12_13) (@hid _ ⟨fun t13_14 =>
  (CallV Tryd.prog (.func (.func 43) #[] #[]) #[t6_8, t8_10] (@hid _ ⟨fun t9_15 w16 =>
  S5 w16 ∧
  (CallV Tryd.prog (.func (.func 43) #[] #[]) #[t11_12, t13_14] (@hid _ ⟨fun t14_17 w18 =>
  S5 w18 ∧
  (BuildSliceK Tryd.prog 93 2 #[(0, t9_15), (1, t14_17)] (@hid _ ⟨fun t15_19 w20 =>
  S5 w20 ∧
  (CallV Tryd.prog (.func (.func 42) #[] #[]) #[t15_19] (@hid _ ⟨fun t16_21 w22 =>
  S5 w22 ∧
  BinT Tryd.prog S5 Go.BinOp.gtr 3 t16_21 (Go.Value.int Go.IntKind.i64 0) (@hid _ ⟨fun t17_23 =>
  R t17_23 w22⟩)⟩) w20) ∧
  True⟩) w18) ∧
  True⟩) w16) ∧
  True⟩) w6) ∧
  True⟩)⟩)⟩)⟩)⟩)⟩)⟩)⟩)⟩) w4⟩) w2⟩) w0
def a23 : Ann := (.seq .no (.seq (.plan (.take 0 (.take 1 (.take 2 (.take 3 (.take 5 (.take 6 (.take 7 (.take 8 (.alt 4 (.alt 9 (.alt 10 (.alt 11 (.take 12 (.take 13 .done)) .nil) .nil) .nil) .nil)))))))))) .no))
theorem F23_eq (x0 x1 : Value) (R : Value → World → Prop) (w0 : World) : F23 x0 x1 R w0 = vc Tryd.prog (bodyOf Tryd.f23) a23 (retQ Tryd.prog Tryd.f23 R) (envOf 0 [x0, x1]) w0 := by kernel_rfl
theorem F23_calls (x0 x1 : Value) (R : Value → World → Prop) (w0 : World) (h : F23 x0 x1 R w0) : CallK Tryd.prog 23 #[x0, x1] R w0 :=
  calls_vc (c := bodyOf Tryd.f23) Tryd.func23 (by kernel_rfl) (by kernel_rfl) a23 (by kernel_rfl) (by kernel_rfl) [x0, x1] (by rw [Tryd.ntmps23]; exact Nat.le_of_ble_eq_true rfl) w0 R ((F23_eq x0 x1 R w0).mp h)

/-- canton/cantonref21.NewerEntry, its body as a formula. -/
def F24 (x0 x1 : Value) (R : Value → World → Prop) (w0 : World) : Prop :=
  BoxK Tryd.prog 33 x0 (@hid _ ⟨fun t2_1 w2 =>
  BoxK Tryd.prog 33 x1 (@hid _ ⟨fun t3_3 w4 =>
  FieldAtK Tryd.prog 33 t2_1 1 (@hid _ ⟨fun t5_5 w6 =>
  LoadK Tryd.prog 2 t5_5 (@hid _ ⟨fun t6_7 w8 =>
  FieldAtK Tryd.prog 33 t3_3 1 (@hid _ ⟨fun t7_9 w10 =>
  LoadK Tryd.prog 2 t7_9 (@hid _ ⟨fun t8_11 w12 =>
  BinK Tryd.prog Go.BinOp.neq 2 t6_7 t8_11 (@hid _ ⟨fun t9_13 w14 =>
  BrK t9_13 (@hid _ ⟨
   FieldAtK Tryd.prog 33 t2_1 1 (@hid _ ⟨fun t10_15 w16 =>
   LoadK Tryd.prog 2 t10_15 (@hid _ ⟨fun t11_17 w18 =>
   FieldAtK Tryd.prog 33 t3_3 1 (@hid _ ⟨fun t12_19 w20 =>
   LoadK Tryd.prog 2 t12_19 (@hid _ ⟨fun t13_21 w22 =>
   BinK Tryd.prog Go.BinOp.gtr 2 t11_17 t13_21 (@hid _ ⟨fun t14_23 w24 =>
   R t14_23 w24⟩) w22⟩) w20⟩) w18⟩) w16⟩) w14⟩) (@hid _ ⟨
   FieldAtK Tryd.prog 33 t2_1 2 (@hid _ ⟨fun t15_25 w26 =>
   LoadK Tryd.prog 2 t15_25 (@hid _ ⟨fun t16_27 w28 =>
   FieldAtK Tryd.prog 33 t3_3 2 (@hid _ ⟨fun t17_29 w30 =>
   LoadK Tryd.prog 2 t17_29 (@hid _ ⟨fun t18_31 w32 =>
   BinK Tryd.prog Go.BinOp.gtr 2 t16_27 t18_31 (@hid _ ⟨fun t19_33 w34 =>
   R t19_33 w34⟩) w32⟩) w30⟩) w28⟩) w26⟩) w14⟩)⟩) w12⟩) w10⟩) w8⟩) w6⟩) w4⟩) w2⟩) w0
def a24 : Ann := (.seq .no (.seq (.seq .no (.cond (.seq .no .no) .no)) (.seq .no .no)))
theorem F24_eq (x0 x1 : Value) (R : Value → World → Prop) (w0 : World) : F24 x0 x1 R w0 = vc Tryd.prog (bodyOf Tryd.f24) a24 (retQ Tryd.prog Tryd.f24 R) (envOf 0 [x0, x1]) w0 := by kernel_rfl
theorem F24_calls (x0 x1 : Value) (R : Value → World → Prop) (w0 : World) (h : F24 x0 x1 R w0) : CallK Tryd.prog 24 #[x0, x1] R w0 :=
  calls_vc (c := bodyOf Tryd.f24) Tryd.func24 (by kernel_rfl) (by kernel_rfl) a24 (by kernel_rfl) (by kernel_rfl) [x0, x1] (by rw [Tryd.ntmps24]; exact Nat.le_of_ble_eq_true rfl) w0 R ((F24_eq x0 x1 R w0).mp h)

/-- canton/book.Check, its body as a formula. -/
def F25 (x0 : Value) (R : Value → World → Prop) (w0 : World) : Prop :=
  BuiltinK Tryd.prog Go.Builtin.len #[35] 3 #[false] #[x0] (@hid _ ⟨fun t7_1 w2 =>
  BinK Tryd.prog Go.BinOp.gtr 3 t7_1 (Go.Value.int Go.IntKind.i64 64) (@hid _ ⟨fun t8_3 w4 =>
  BrK t8_3 (@hid _ ⟨
   R (Go.Value.int Go.IntKind.i64 4) w4⟩) (@hid _ ⟨
   BuiltinK Tryd.prog Go.Builtin.len #[35] 3 #[false] #[x0] (@hid _ ⟨fun t10_5 w6 =>
   LoopK1 (Go.Value.int Go.IntKind.i64 0) w6 (@hid _ ⟨fun _ x11_7 w8 B9 =>
    BinK Tryd.prog Go.BinOp.lss 3 x11_7 t10_5 (@hid _ ⟨fun t12_10 w11 =>
    BrK t12_10 (@hid _ ⟨
     IndexAtK Tryd.prog 35 x0 x11_7 (@hid _ ⟨fun t14_12 w13 =>
     LoadK Tryd.prog 28 t14_12 (@hid _ ⟨fun t15_14 w15 =>
     AllocK Tryd.prog 28 (@hid _ ⟨fun t4_16 w17 =>
     StoreK Tryd.prog 28 t4_16 t15_14 (@hid _ ⟨fun tu_18 w19 =>
     LoadK Tryd.prog 28 t4_16 (@hid _ ⟨fun t16_20 w21 =>
     CallV Tryd.prog (.func (.func 30) #[] #[]) #[t16_20] (@hid _ ⟨fun t17_22 w23 =>
     BinK Tryd.prog Go.BinOp.neq 36 t17_22 (Go.Value.int Go.IntKind.i64 0) (@hid _ ⟨fun t19_24 w25 =>
     BrK t19_24 (@hid _ ⟨
      R t17_22 w25⟩) (@hid _ ⟨
      DrawK (@hid _ ⟨fun S26 w27 =>
      BinT Tryd.prog S26 Go.BinOp.gtr 3 x11_7 (Go.Value.int Go.IntKind.i64 0) (@hid _ ⟨fun t22_28 =>
      TakeG t22_28 true (fun k => k x0) (@hid _ ⟨fun t24_29 =>
      TakeG t22_28 true (fun k => k x11_7) (@hid _ ⟨fun t25_30 =>
      TakeG t22_28 true (fun k => BinT Tryd.prog S26 Go.BinOp.sub 3 t25_30 (Go.Value.int Go.IntKind.i64 1) k) (@hid _ ⟨fun t26_31 =>
      TakeG t22_28 true (fun k => TakeS Tryd.prog S26 (Instr.indexAt 35 t24_29 t26_31) k) (@hid _ ⟨fun t27_32 =>
      TakeG t22_28 true (fun k => TakeS Tryd.prog S26 (Instr.fieldAt 28 t27_32 0) k) (@hid _ ⟨fun t28_33 =>
      TakeG t22_28 true (fun k => TakeS Tryd.prog S26 (Instr.loadAt 9 t28_33) k) (@hid _ ⟨fun t29_34 =>
      TakeG t22_28 true (fun k => TakeS Tryd.prog S26 (Instr.fieldAt 28 t4_16 0) k) (@hid _ ⟨fun t30_35 =>
      TakeG t22_28 true (fun k => TakeS Tryd.prog S26 (Instr.loadAt 9 t30_35) k) (@hid _ ⟨fun t31_36 =>
      TakeG t22_28 true (fun k => BinT Tryd.prog S26 Go.BinOp.geq 9 t29_34 t31_36 k) (@hid _ ⟨fun t32_37 =>
      PickT t22_28 t32_37 (Go.Value.bool false) (@hid _ ⟨fun t33_38 =>
      BrK t33_38 (@hid _ ⟨
       R (Go.Value.int Go.IntKind.i64 6) w27⟩) (@hid _ ⟨
       BinK Tryd.prog Go.BinOp.add 3 x11_7 (Go.Value.int Go.IntKind.i64 1) (@hid _ ⟨fun t34_39 w40 =>
       B9 t34_39 w40⟩) w27⟩)⟩)⟩)⟩)⟩)⟩)⟩)⟩)⟩)⟩)⟩)⟩)⟩) w25⟩)⟩) w23⟩) w21⟩) w19⟩) w17⟩) w15⟩) w13⟩) w11⟩) (@hid _ ⟨
     R (Go.Value.int Go.IntKind.i64 0) w11⟩)⟩) w8⟩)⟩) w4⟩)⟩) w2⟩) w0
def a25 : Ann := (.seq .no (.seq (.seq .no (.cond (.seq .no .no) .no)) (.seq (.seq .no (.block (.loop [11] [(2, 5), (12, 34)] (.seq .no (.seq (.cond .no .no) (.seq (.block (.seq .no (.seq (.seq .no (.seq .no (.cond (.seq .no .no) .no))) (.seq (.plan (.take 0 (.take 1 (.take 2 (.take 3 (.take 4 (.take 5 (.take 6 (.take 7 (.take 8 (.take 9 (.take 10 (.take 11 (.take 12 .done)))))))))))))) (.cond (.seq .no .no) .no))))) .no)))))) (.seq .no .no))))
theorem F25_eq (x0 : Value) (R : Value → World → Prop) (w0 : World) : F25 x0 R w0 = vc Tryd.prog (bodyOf Tryd.f25) a25 (retQ Tryd.prog Tryd.f25 R) (envOf 0 [x0]) w0 := by kernel_rfl
theorem F25_calls (x0 : Value) (R : Value → World → Prop) (w0 : World) (h : F25 x0 R w0) : CallK Tryd.prog 25 #[x0] R w0 :=
  calls_vc (c := bodyOf Tryd.f25) Tryd.func25 (by kernel_rfl) (by kernel_rfl) a25 (by kernel_rfl) (by kernel_rfl) [x0] (by rw [Tryd.ntmps25]; exact Nat.le_of_ble_eq_true rfl) w0 R ((F25_eq x0 R w0).mp h)

/-- canton/cantonref21.CheckBook, its body as a formula. -/
def F26 (x0 : Value) (R : Value → World → Prop) (w0 : World) : Prop :=
  BuiltinK Tryd.prog Go.Builtin.len #[26] 3 #[false] #[x0] (@hid _ ⟨fun t6_1 w2 =>
  BinK Tryd.prog Go.BinOp.gtr 3 t6_1 (Go.Value.int Go.IntKind.i64 64) (@hid _ ⟨fun t7_3 w4 =>
  BrK t7_3 (@hid _ ⟨
   R (Go.Value.int Go.IntKind.i64 4) w4⟩) (@hid _ ⟨
   LoopK1 (Go.Value.int Go.IntKind.i64 0) w4 (@hid _ ⟨fun _ x3_5 w6 B7 =>
    BuiltinK Tryd.prog Go.Builtin.len #[26] 3 #[false] #[x0] (@hid _ ⟨fun t10_8 w9 =>
    BinK Tryd.prog Go.BinOp.lss 3 x3_5 t10_8 (@hid _ ⟨fun t11_10 w11 =>
    BrK t11_10 (@hid _ ⟨
     IndexAtK Tryd.prog 26 x0 x3_5 (@hid _ ⟨fun t16_12 w13 =>
     LoadK Tryd.prog 33 t16_12 (@hid _ ⟨fun t17_14 w15 =>
     CallV Tryd.prog (.func (.func 29) #[] #[]) #[t17_14] (@hid _ ⟨fun t18_16 w17 =>
     BinK Tryd.prog Go.BinOp.neq 3 t18_16 (Go.Value.int Go.IntKind.i64 0) (@hid _ ⟨fun t21_18 w19 =>
     BrK t21_18 (@hid _ ⟨
      R t18_16 w19⟩) (@hid _ ⟨
      DrawK (@hid _ ⟨fun S20 w21 =>
      BinT Tryd.prog S20 Go.BinOp.gtr 3 x3_5 (Go.Value.int Go.IntKind.i64 0) (@hid _ ⟨fun t25_22 =>
      TakeG t25_22 true (fun k => k x0) (@hid _ ⟨fun t27_23 =>
      TakeG t25_22 true (fun k => k x3_5) (@hid _ ⟨fun t28_24 =>
      TakeG t25_22 true (fun k => BinT Tryd.prog S20 Go.BinOp.sub 3 t28_24 (Go.Value.int Go.IntKind.i64 1) k) (@hid _ ⟨fun t29_25 =>
      TakeG t25_22 true (fun k => TakeS Tryd.prog S20 (Instr.indexAt 26 t27_23 t29_25) k) (@hid _ ⟨fun t30_26 =>
      TakeG t25_22 true (fun k => TakeS Tryd.prog S20 (Instr.fieldAt 33 t30_26 0) k) (@hid _ ⟨fun t31_27 =>
      TakeG t25_22 true (fun k => TakeS Tryd.prog S20 (Instr.loadAt 9 t31_27) k) (@hid _ ⟨fun t32_28 =>
      TakeG t25_22 true (fun k => k x0) (@hid _ ⟨fun t33_29 =>
      TakeG t25_22 true (fun k => k x3_5) (@hid _ ⟨fun t34_30 =>
      TakeG t25_22 true (fun k => TakeS Tryd.prog S20 (Instr.indexAt 26 t33_29 t34_30) k) (@hid _ ⟨fun t35_31 =>
      TakeG t25_22 true (fun k => TakeS Tryd.prog S20 (Instr.fieldAt 33 t35_31 0) k) (@hid _ ⟨fun t36_32 =>
      TakeG t25_22 true (fun k => TakeS Tryd.prog S20 (Instr.loadAt 9 t36_32) k) (@hid _ ⟨fun t37_33 =>
      TakeG t25_22 true (fun k => BinT Tryd.prog S20 Go.BinOp.geq 9 t32_28 t37_33 k) (@hid _ ⟨fun t38_34 =>
      PickT t25_22 t38_34 (Go.Value.bool false) (@hid _ ⟨fun t39_35 =>
      BrK t39_35 (@hid _ ⟨
       R (Go.Value.int Go.IntKind.i64 6) w21⟩) (@hid _ ⟨
       BinK Tryd.prog Go.BinOp.add 3 x3_5 (Go.Value.int Go.IntKind.i64 1) (@hid _ ⟨fun t13_36 w37 =>
       B7 t13_36 w37⟩) w21⟩)⟩)⟩)⟩)⟩)⟩)⟩)⟩)⟩)⟩)⟩)⟩)⟩)⟩)⟩)⟩) w19⟩)⟩) w17⟩) w15⟩) w13⟩) w11⟩) (@hid _ ⟨
     R (Go.Value.int Go.IntKind.i64 0) w11⟩)⟩) w9⟩) w6⟩)⟩)⟩) w2⟩) w0
def a26 : Ann := (.seq .no (.seq (.seq .no (.cond (.seq .no .no) .no)) (.seq (.seq .no (.block (.loop [3] [(2, 2), (4, 4), (8, 39)] (.seq (.seq .no (.cond .no .no)) (.seq (.block (.seq .no (.block (.seq .no (.cond (.seq .no .no) (.seq (.plan (.take 0 (.take 1 (.take 2 (.take 3 (.take 4 (.take 5 (.take 6 (.take 7 (.take 8 (.take 9 (.take 10 (.take 11 (.take 12 (.take 13 (.take 14 (.take 15 (.take 16 .done)))))))))))))))))) (.cond (.seq .no .no) .no))))))) .no))))) (.seq .no .no))))
theorem F26_eq (x0 : Value) (R : Value → World → Prop) (w0 : World) : F26 x0 R w0 = vc Tryd.prog (bodyOf Tryd.f26) a26 (retQ Tryd.prog Tryd.f26 R) (envOf 0 [x0]) w0 := by kernel_rfl
theorem F26_calls (x0 : Value) (R : Value → World → Prop) (w0 : World) (h : F26 x0 R w0) : CallK Tryd.prog 26 #[x0] R w0 :=
  calls_vc (c := bodyOf Tryd.f26) Tryd.func26 (by kernel_rfl) (by kernel_rfl) a26 (by kernel_rfl) (by kernel_rfl) [x0] (by rw [Tryd.ntmps26]; exact Nat.le_of_ble_eq_true rfl) w0 R ((F26_eq x0 R w0).mp h)

/-- canton/cantonlaw16.name, its body as a formula. -/
def F27 (x0 : Value) (R : Value → World → Prop) (w0 : World) : Prop :=
  BinK Tryd.prog Go.BinOp.quo 3 x0 (Go.Value.int Go.IntKind.i64 26) (@hid _ ⟨fun t4_1 w2 =>
  BinK Tryd.prog Go.BinOp.add 3 (Go.Value.int Go.IntKind.i64 97) t4_1 (@hid _ ⟨fun t5_3 w4 =>
  ConvK Tryd.prog 3 5 t5_3 (@hid _ ⟨fun t6_5 w6 =>
  BinK Tryd.prog Go.BinOp.rem 3 x0 (Go.Value.int Go.IntKind.i64 26) (@hid _ ⟨fun t8_7 w8 =>
  BinK Tryd.prog Go.BinOp.add 3 (Go.Value.int Go.IntKind.i64 97) t8_7 (@hid _ ⟨fun t9_9 w10 =>
  ConvK Tryd.prog 3 5 t9_9 (@hid _ ⟨fun t10_11 w12 =>
  BuildSliceK Tryd.prog 75 2 #[(0, t6_5), (1, t10_11)] (@hid _ ⟨fun t11_13 w14 =>
  ConvK Tryd.prog 75 9 t11_13 (@hid _ ⟨fun t12_15 w16 =>
  BinK Tryd.prog Go.BinOp.add 9 (Go.Value.string { data := #[47, 113, 47, 110] }) t12_15 (@hid _ ⟨fun t13_17 w18 =>
  R t13_17 w18⟩) w16⟩) w14⟩) w12⟩) w10⟩) w8⟩) w6⟩) w4⟩) w2⟩) w0
def a27 : Ann := (.seq .no (.seq .no .no))
theorem F27_eq (x0 : Value) (R : Value → World → Prop) (w0 : World) : F27 x0 R w0 = vc Tryd.prog (bodyOf Tryd.f27) a27 (retQ Tryd.prog Tryd.f27 R) (envOf 0 [x0]) w0 := by kernel_rfl
theorem F27_calls (x0 : Value) (R : Value → World → Prop) (w0 : World) (h : F27 x0 R w0) : CallK Tryd.prog 27 #[x0] R w0 :=
  calls_vc (c := bodyOf Tryd.f27) Tryd.func27 (by kernel_rfl) (by kernel_rfl) a27 (by kernel_rfl) (by kernel_rfl) [x0] (by rw [Tryd.ntmps27]; exact Nat.le_of_ble_eq_true rfl) w0 R ((F27_eq x0 R w0).mp h)

/-- canton/sorted.New[string,canton/book.Entry], its body as a formula. -/
def F28 (R : Value → World → Prop) (w0 : World) : Prop :=
  BuildK Tryd.prog 78 #[] (@hid _ ⟨fun t1_1 w2 =>
  BoxK Tryd.prog 78 t1_1 (@hid _ ⟨fun t2_3 w4 =>
  R t2_3 w4⟩) w2⟩) w0
def a28 : Ann := (.seq .no (.seq .no .no))
theorem F28_eq (R : Value → World → Prop) (w0 : World) : F28  R w0 = vc Tryd.prog (bodyOf Tryd.f28) a28 (retQ Tryd.prog Tryd.f28 R) (envOf 0 []) w0 := by kernel_rfl
theorem F28_calls (R : Value → World → Prop) (w0 : World) (h : F28  R w0) : CallK Tryd.prog 28 #[] R w0 :=
  calls_vc (c := bodyOf Tryd.f28) Tryd.func28 (by kernel_rfl) (by kernel_rfl) a28 (by kernel_rfl) (by kernel_rfl) [] (by rw [Tryd.ntmps28]; exact Nat.le_of_ble_eq_true rfl) w0 R ((F28_eq  R w0).mp h)

/-- canton/cantonref21.CheckEntry, its body as a formula. -/
def F29 (x0 : Value) (R : Value → World → Prop) (w0 : World) : Prop :=
  BoxK Tryd.prog 33 x0 (@hid _ ⟨fun t1_1 w2 =>
  FieldAtK Tryd.prog 33 t1_1 0 (@hid _ ⟨fun t4_3 w4 =>
  LoadK Tryd.prog 9 t4_3 (@hid _ ⟨fun t5_5 w6 =>
  CallV Tryd.prog (.func (.func 44) #[] #[]) #[t5_5] (@hid _ ⟨fun t6_7 w8 =>
  UnK Tryd.prog Go.UnOp.not t6_7 (@hid _ ⟨fun t7_9 w10 =>
  BrK t7_9 (@hid _ ⟨
   R (Go.Value.int Go.IntKind.i64 5) w10⟩) (@hid _ ⟨
   FieldAtK Tryd.prog 33 t1_1 1 (@hid _ ⟨fun t9_11 w12 =>
   LoadK Tryd.prog 2 t9_11 (@hid _ ⟨fun t10_13 w14 =>
   CallV Tryd.prog (.func (.func 45) #[] #[]) #[t10_13] (@hid _ ⟨fun t11_15 w16 =>
   UnK Tryd.prog Go.UnOp.not t11_15 (@hid _ ⟨fun t12_17 w18 =>
   GuardK t12_17 false (fun k w => FieldAtK Tryd.prog 33 t1_1 2 k w) (@hid _ ⟨fun t14_19 w20 =>
   GuardK t12_17 false (fun k w => LoadK Tryd.prog 2 t14_19 k w) (@hid _ ⟨fun t15_21 w22 =>
   GuardK t12_17 false (fun k w => CallV Tryd.prog (.func (.func 45) #[] #[]) #[t15_21] k w) (@hid _ ⟨fun t16_23 w24 =>
   GuardK t12_17 false (fun k w => UnK Tryd.prog Go.UnOp.not t16_23 k w) (@hid _ ⟨fun t17_25 w26 =>
   PickK Tryd.prog t12_17 (Go.Value.bool true) t17_25 (@hid _ ⟨fun t18_27 w28 =>
   BrK t18_27 (@hid _ ⟨
    R (Go.Value.int Go.IntKind.i64 1) w28⟩) (@hid _ ⟨
    R (Go.Value.int Go.IntKind.i64 0) w28⟩)⟩) w26⟩) w24⟩) w22⟩) w20⟩) w18⟩) w16⟩) w14⟩) w12⟩) w10⟩)⟩) w8⟩) w6⟩) w4⟩) w2⟩) w0
def a29 : Ann := (.seq .no (.seq (.block (.seq .no (.cond (.seq .no .no) (.seq .no (.cond (.seq .no .no) .no))))) (.seq .no .no)))
theorem F29_eq (x0 : Value) (R : Value → World → Prop) (w0 : World) : F29 x0 R w0 = vc Tryd.prog (bodyOf Tryd.f29) a29 (retQ Tryd.prog Tryd.f29 R) (envOf 0 [x0]) w0 := by kernel_rfl
theorem F29_calls (x0 : Value) (R : Value → World → Prop) (w0 : World) (h : F29 x0 R w0) : CallK Tryd.prog 29 #[x0] R w0 :=
  calls_vc (c := bodyOf Tryd.f29) Tryd.func29 (by kernel_rfl) (by kernel_rfl) a29 (by kernel_rfl) (by kernel_rfl) [x0] (by rw [Tryd.ntmps29]; exact Nat.le_of_ble_eq_true rfl) w0 R ((F29_eq x0 R w0).mp h)

/-- canton/book.right, its body as a formula. -/
def F30 (x0 : Value) (R : Value → World → Prop) (w0 : World) : Prop :=
  BoxK Tryd.prog 28 x0 (@hid _ ⟨fun t1_1 w2 =>
  FieldAtK Tryd.prog 28 t1_1 0 (@hid _ ⟨fun t4_3 w4 =>
  LoadK Tryd.prog 9 t4_3 (@hid _ ⟨fun t5_5 w6 =>
  CallV Tryd.prog (.func (.func 46) #[] #[]) #[t5_5] (@hid _ ⟨fun t6_7 w8 =>
  BinK Tryd.prog Go.BinOp.lss 3 t6_7 (Go.Value.int Go.IntKind.i64 1) (@hid _ ⟨fun t7_9 w10 =>
  BrK t7_9 (@hid _ ⟨
   R (Go.Value.int Go.IntKind.i64 5) w10⟩) (@hid _ ⟨
   FieldAtK Tryd.prog 28 t1_1 1 (@hid _ ⟨fun t9_11 w12 =>
   LoadK Tryd.prog 2 t9_11 (@hid _ ⟨fun t10_13 w14 =>
   CallV Tryd.prog (.func (.func 47) #[] #[]) #[t10_13] (@hid _ ⟨fun t11_15 w16 =>
   UnK Tryd.prog Go.UnOp.not t11_15 (@hid _ ⟨fun t12_17 w18 =>
   GuardK t12_17 false (fun k w => FieldAtK Tryd.prog 28 t1_1 2 k w) (@hid _ ⟨fun t14_19 w20 =>
   GuardK t12_17 false (fun k w => LoadK Tryd.prog 2 t14_19 k w) (@hid _ ⟨fun t15_21 w22 =>
   GuardK t12_17 false (fun k w => CallV Tryd.prog (.func (.func 47) #[] #[]) #[t15_21] k w) (@hid _ ⟨fun t16_23 w24 =>
   GuardK t12_17 false (fun k w => UnK Tryd.prog Go.UnOp.not t16_23 k w) (@hid _ ⟨fun t17_25 w26 =>
   PickK Tryd.prog t12_17 (Go.Value.bool true) t17_25 (@hid _ ⟨fun t18_27 w28 =>
   BrK t18_27 (@hid _ ⟨
    R (Go.Value.int Go.IntKind.i64 1) w28⟩) (@hid _ ⟨
    R (Go.Value.int Go.IntKind.i64 0) w28⟩)⟩) w26⟩) w24⟩) w22⟩) w20⟩) w18⟩) w16⟩) w14⟩) w12⟩) w10⟩)⟩) w8⟩) w6⟩) w4⟩) w2⟩) w0
def a30 : Ann := (.seq .no (.seq (.block (.seq .no (.cond (.seq .no .no) (.seq .no (.cond (.seq .no .no) .no))))) (.seq .no .no)))
theorem F30_eq (x0 : Value) (R : Value → World → Prop) (w0 : World) : F30 x0 R w0 = vc Tryd.prog (bodyOf Tryd.f30) a30 (retQ Tryd.prog Tryd.f30 R) (envOf 0 [x0]) w0 := by kernel_rfl
theorem F30_calls (x0 : Value) (R : Value → World → Prop) (w0 : World) (h : F30 x0 R w0) : CallK Tryd.prog 30 #[x0] R w0 :=
  calls_vc (c := bodyOf Tryd.f30) Tryd.func30 (by kernel_rfl) (by kernel_rfl) a30 (by kernel_rfl) (by kernel_rfl) [x0] (by rw [Tryd.ntmps30]; exact Nat.le_of_ble_eq_true rfl) w0 R ((F30_eq x0 R w0).mp h)

/-- (*canton/sorted.Map[string, canton/book.Entry]).Get, its body as a formula. -/
def F31 (x0 x1 : Value) (R : Value → World → Prop) (w0 : World) : Prop :=
  AllocK Tryd.prog 28 (@hid _ ⟨fun t4_1 w2 =>
  CallV Tryd.prog (.func (.func 48) #[] #[]) #[x0, x1] (@hid _ ⟨fun t12_3 w4 =>
  ExtractK Tryd.prog t12_3 0 (@hid _ ⟨fun t13_5 w6 =>
  ExtractK Tryd.prog t12_3 1 (@hid _ ⟨fun t14_7 w8 =>
  UnK Tryd.prog Go.UnOp.not t14_7 (@hid _ ⟨fun t16_9 w10 =>
  BrK t16_9 (@hid _ ⟨
   AllocK Tryd.prog 28 (@hid _ ⟨fun t8_11 w12 =>
   LoadK Tryd.prog 28 t8_11 (@hid _ ⟨fun t17_13 w14 =>
   StoreK Tryd.prog 28 t4_1 t17_13 (@hid _ ⟨fun tu_15 w16 =>
   LoadK Tryd.prog 28 t4_1 (@hid _ ⟨fun c17 w18 => w18 = w16 ∧ R (.tuple #[c17, (Go.Value.bool false)]) w16⟩) w16⟩) w14⟩) w12⟩) w10⟩) (@hid _ ⟨
   NilK Tryd.prog x0 (@hid _ ⟨fun t19_19 w20 =>
   FieldAtK Tryd.prog 78 t19_19 0 (@hid _ ⟨fun t20_21 w22 =>
   LoadK Tryd.prog 76 t20_21 (@hid _ ⟨fun t21_23 w24 =>
   IndexAtK Tryd.prog 76 t21_23 t13_5 (@hid _ ⟨fun t23_25 w26 =>
   FieldAtK Tryd.prog 84 t23_25 1 (@hid _ ⟨fun t24_27 w28 =>
   LoadK Tryd.prog 28 t24_27 (@hid _ ⟨fun t25_29 w30 =>
   StoreK Tryd.prog 28 t4_1 t25_29 (@hid _ ⟨fun tu_31 w32 =>
   LoadK Tryd.prog 28 t4_1 (@hid _ ⟨fun c33 w34 => w34 = w32 ∧ R (.tuple #[c33, (Go.Value.bool true)]) w32⟩) w32⟩) w30⟩) w28⟩) w26⟩) w24⟩) w22⟩) w20⟩) w10⟩)⟩) w8⟩) w6⟩) w4⟩) w2⟩) w0
def a31 : Ann := (.seq .no (.seq .no (.seq (.seq .no (.cond (.seq .no (.seq .no .no)) .no)) (.seq .no .no))))
theorem F31_eq (x0 x1 : Value) (R : Value → World → Prop) (w0 : World) : F31 x0 x1 R w0 = vc Tryd.prog (bodyOf Tryd.f31) a31 (retQ Tryd.prog Tryd.f31 R) (envOf 0 [x0, x1]) w0 := by kernel_rfl
theorem F31_calls (x0 x1 : Value) (R : Value → World → Prop) (w0 : World) (h : F31 x0 x1 R w0) : CallK Tryd.prog 31 #[x0, x1] R w0 :=
  calls_vc (c := bodyOf Tryd.f31) Tryd.func31 (by kernel_rfl) (by kernel_rfl) a31 (by kernel_rfl) (by kernel_rfl) [x0, x1] (by rw [Tryd.ntmps31]; exact Nat.le_of_ble_eq_true rfl) w0 R ((F31_eq x0 x1 R w0).mp h)

/-- (*canton/sorted.Map[string, canton/book.Entry]).Len, its body as a formula. -/
def F32 (x0 : Value) (R : Value → World → Prop) (w0 : World) : Prop :=
  NilK Tryd.prog x0 (@hid _ ⟨fun t4_1 w2 =>
  FieldAtK Tryd.prog 78 t4_1 0 (@hid _ ⟨fun t5_3 w4 =>
  LoadK Tryd.prog 76 t5_3 (@hid _ ⟨fun t6_5 w6 =>
  BuiltinK Tryd.prog Go.Builtin.len #[76] 3 #[false] #[t6_5] (@hid _ ⟨fun t7_7 w8 =>
  R t7_7 w8⟩) w6⟩) w4⟩) w2⟩) w0
def a32 : Ann := (.seq .no (.seq .no .no))
theorem F32_eq (x0 : Value) (R : Value → World → Prop) (w0 : World) : F32 x0 R w0 = vc Tryd.prog (bodyOf Tryd.f32) a32 (retQ Tryd.prog Tryd.f32 R) (envOf 0 [x0]) w0 := by kernel_rfl
theorem F32_calls (x0 : Value) (R : Value → World → Prop) (w0 : World) (h : F32 x0 R w0) : CallK Tryd.prog 32 #[x0] R w0 :=
  calls_vc (c := bodyOf Tryd.f32) Tryd.func32 (by kernel_rfl) (by kernel_rfl) a32 (by kernel_rfl) (by kernel_rfl) [x0] (by rw [Tryd.ntmps32]; exact Nat.le_of_ble_eq_true rfl) w0 R ((F32_eq x0 R w0).mp h)

/-- (*canton/sorted.Map[string, canton/book.Entry]).Put, its body as a formula. -/
def F33 (x0 x1 x2 : Value) (R : Value → World → Prop) (w0 : World) : Prop :=
  BoxK Tryd.prog 28 x2 (@hid _ ⟨fun t5_1 w2 =>
  CallV Tryd.prog (.func (.func 48) #[] #[]) #[x0, x1] (@hid _ ⟨fun t12_3 w4 =>
  ExtractK Tryd.prog t12_3 0 (@hid _ ⟨fun t13_5 w6 =>
  ExtractK Tryd.prog t12_3 1 (@hid _ ⟨fun t14_7 w8 =>
  BrK t14_7 (@hid _ ⟨
   DrawK (@hid _ ⟨fun S9 w10 =>
   TakeO Tryd.prog S9 (nilSem x0) (@hid _ ⟨fun t17_11 =>
   TakeS Tryd.prog S9 (Instr.fieldAt 78 t17_11 0) (@hid _ ⟨fun t18_12 =>
   TakeS Tryd.prog S9 (Instr.loadAt 76 t18_12) (@hid _ ⟨fun t19_13 =>
   TakeS Tryd.prog S9 (Instr.loadAt 28 t5_1) (@hid _ ⟨fun t21_14 =>
   TakeS Tryd.prog S9 (Instr.indexAt 76 t19_13 t13_5) (@hid _ ⟨fun t22_15 =>
   TakeS Tryd.prog S9 (Instr.fieldAt 84 t22_15 1) (@hid _ ⟨fun t23_16 =>
   (StoreK Tryd.prog 28 t23_16 t21_14 (@hid _ ⟨fun tu_17 w18 =>
   S9 w18 ∧
   R (Go.Value.bool false) w18⟩) w10) ∧
   True⟩)⟩)⟩)⟩)⟩)⟩)⟩) w8⟩) (@hid _ ⟨
   DrawK (@hid _ ⟨fun S19 w20 =>
   TakeO Tryd.prog S19 (nilSem x0) (@hid _ ⟨fun t26_21 =>
   TakeS Tryd.prog S19 (Instr.fieldAt 78 t26_21 0) (@hid _ ⟨fun t27_22 =>
   TakeS Tryd.prog S19 (Instr.loadAt 28 t5_1) (@hid _ ⟨fun t31_23 =>
   (LoadK Tryd.prog 76 t27_22 (@hid _ ⟨fun t28_24 w25 =>
   S19 w25 ∧
   (BuildK Tryd.prog 84 #[(0, x1), (1, t31_23)] (@hid _ ⟨fun t32_26 w27 =>
   S19 w27 ∧
   (BuildSliceK Tryd.prog 76 1 #[(0, t32_26)] (@hid _ ⟨fun t33_28 w29 =>
   S19 w29 ∧
   (CallV Tryd.prog (.func (.func 49) #[] #[]) #[t28_24, t13_5, t33_28] (@hid _ ⟨fun t34_30 w31 =>
   S19 w31 ∧
   TakeO Tryd.prog S19 (nilSem x0) (@hid _ ⟨fun t35_32 =>
   TakeS Tryd.prog S19 (Instr.fieldAt 78 t35_32 0) (@hid _ ⟨fun t36_33 =>
   (StoreK Tryd.prog 76 t36_33 t34_30 (@hid _ ⟨fun tu_34 w35 =>
   S19 w35 ∧
   R (Go.Value.bool true) w35⟩) w31) ∧
   True⟩)⟩)⟩) w29) ∧
   True⟩) w27) ∧
   True⟩) w25) ∧
   True⟩) w20) ∧
   (BuildK Tryd.prog 84 #[(0, x1), (1, t31_23)] (@hid _ ⟨fun t32_36 w37 =>
   S19 w37 ∧
   (LoadK Tryd.prog 76 t27_22 (@hid _ ⟨fun t28_38 w39 =>
   S19 w39 ∧
   (BuildSliceK Tryd.prog 76 1 #[(0, t32_36)] (@hid _ ⟨fun t33_40 w41 =>
   S19 w41 ∧
   (CallV Tryd.prog (.func (.func 49) #[] #[]) #[t28_38, t13_5, t33_40] (@hid _ ⟨fun t34_42 w43 =>
   S19 w43 ∧
   TakeO Tryd.prog S19 (nilSem x0) (@hid _ ⟨fun t35_44 =>
   TakeS Tryd.prog S19 (Instr.fieldAt 78 t35_44 0) (@hid _ ⟨fun t36_45 =>
   (StoreK Tryd.prog 76 t36_45 t34_42 (@hid _ ⟨fun tu_46 w47 =>
   S19 w47 ∧
   R (Go.Value.bool true) w47⟩) w43) ∧
   True⟩)⟩)⟩) w41) ∧
   True⟩) w39) ∧
   True⟩) w37) ∧
   (BuildSliceK Tryd.prog 76 1 #[(0, t32_36)] (@hid _ ⟨fun t33_48 w49 =>
   S19 w49 ∧
   (LoadK Tryd.prog 76 t27_22 (@hid _ ⟨fun t28_50 w51 =>
   S19 w51 ∧
   (CallV Tryd.prog (.func (.func 49) #[] #[]) #[t28_50, t13_5, t33_48] (@hid _ ⟨fun t34_52 w53 =>
   S19 w53 ∧
   TakeO Tryd.prog S19 (nilSem x0) (@hid _ ⟨fun t35_54 =>
   TakeS Tryd.prog S19 (Instr.fieldAt 78 t35_54 0) (@hid _ ⟨fun t36_55 =>
   (StoreK Tryd.prog 76 t36_55 t34_52 (@hid _ ⟨fun tu_56 w57 =>
   S19 w57 ∧
   R (Go.Value.bool true) w57⟩) w53) ∧
   True⟩)⟩)⟩) w51) ∧
   True⟩) w49) ∧
   True⟩) w37) ∧
   True⟩) w20) ∧
   True⟩)⟩)⟩)⟩) w8⟩)⟩) w6⟩) w4⟩) w2⟩) w0
def a33 : Ann := (.seq .no (.seq .no (.seq (.seq .no (.cond (.seq (.plan (.take 0 (.take 1 (.take 2 (.take 3 (.take 4 (.take 5 (.take 6 (.take 7 (.alt 8 .done .nil)))))))))) (.seq .no .no)) .no)) (.seq (.plan (.take 0 (.take 1 (.take 2 (.take 3 (.take 5 (.take 6 (.take 7 (.alt 4 (.alt 8 (.alt 9 (.alt 10 (.take 11 (.take 12 (.alt 13 .done .nil))) .nil) .nil) .nil) (.alt 8 (.alt 4 (.alt 9 (.alt 10 (.take 11 (.take 12 (.alt 13 .done .nil))) .nil) .nil) (.alt 9 (.alt 4 (.alt 10 (.take 11 (.take 12 (.alt 13 .done .nil))) .nil) .nil) .nil)) .nil)))))))))) (.seq .no .no)))))
theorem F33_eq (x0 x1 x2 : Value) (R : Value → World → Prop) (w0 : World) : F33 x0 x1 x2 R w0 = vc Tryd.prog (bodyOf Tryd.f33) a33 (retQ Tryd.prog Tryd.f33 R) (envOf 0 [x0, x1, x2]) w0 := by kernel_rfl
theorem F33_calls (x0 x1 x2 : Value) (R : Value → World → Prop) (w0 : World) (h : F33 x0 x1 x2 R w0) : CallK Tryd.prog 33 #[x0, x1, x2] R w0 :=
  calls_vc (c := bodyOf Tryd.f33) Tryd.func33 (by kernel_rfl) (by kernel_rfl) a33 (by kernel_rfl) (by kernel_rfl) [x0, x1, x2] (by rw [Tryd.ntmps33]; exact Nat.le_of_ble_eq_true rfl) w0 R ((F33_eq x0 x1 x2 R w0).mp h)

/-- (*canton/sorted.Map[string, canton/book.Entry]).Drop, its body as a formula. -/
def F34 (x0 x1 : Value) (R : Value → World → Prop) (w0 : World) : Prop :=
  CallV Tryd.prog (.func (.func 48) #[] #[]) #[x0, x1] (@hid _ ⟨fun t10_1 w2 =>
  ExtractK Tryd.prog t10_1 0 (@hid _ ⟨fun t11_3 w4 =>
  ExtractK Tryd.prog t10_1 1 (@hid _ ⟨fun t12_5 w6 =>
  BrK t12_5 (@hid _ ⟨
   NilK Tryd.prog x0 (@hid _ ⟨fun t16_7 w8 =>
   FieldAtK Tryd.prog 78 t16_7 0 (@hid _ ⟨fun t17_9 w10 =>
   LoadK Tryd.prog 76 t17_9 (@hid _ ⟨fun t18_11 w12 =>
   BinK Tryd.prog Go.BinOp.add 3 t11_3 (Go.Value.int Go.IntKind.i64 1) (@hid _ ⟨fun t21_13 w14 =>
   CallV Tryd.prog (.func (.func 50) #[] #[]) #[t18_11, t11_3, t21_13] (@hid _ ⟨fun t22_15 w16 =>
   NilK Tryd.prog x0 (@hid _ ⟨fun t23_17 w18 =>
   FieldAtK Tryd.prog 78 t23_17 0 (@hid _ ⟨fun t24_19 w20 =>
   StoreK Tryd.prog 76 t24_19 t22_15 (@hid _ ⟨fun tu_21 w22 =>
   R t12_5 w22⟩) w20⟩) w18⟩) w16⟩) w14⟩) w12⟩) w10⟩) w8⟩) w6⟩) (@hid _ ⟨
   R t12_5 w6⟩)⟩) w4⟩) w2⟩) w0
def a34 : Ann := (.seq .no (.seq .no (.seq (.seq .no (.cond .no .no)) (.seq .no .no))))
theorem F34_eq (x0 x1 : Value) (R : Value → World → Prop) (w0 : World) : F34 x0 x1 R w0 = vc Tryd.prog (bodyOf Tryd.f34) a34 (retQ Tryd.prog Tryd.f34 R) (envOf 0 [x0, x1]) w0 := by kernel_rfl
theorem F34_calls (x0 x1 : Value) (R : Value → World → Prop) (w0 : World) (h : F34 x0 x1 R w0) : CallK Tryd.prog 34 #[x0, x1] R w0 :=
  calls_vc (c := bodyOf Tryd.f34) Tryd.func34 (by kernel_rfl) (by kernel_rfl) a34 (by kernel_rfl) (by kernel_rfl) [x0, x1] (by rw [Tryd.ntmps34]; exact Nat.le_of_ble_eq_true rfl) w0 R ((F34_eq x0 x1 R w0).mp h)

/-- slices.Clip[[]string,string], its body as a formula. -/
def F35 (x0 : Value) (R : Value → World → Prop) (w0 : World) : Prop :=
  BuiltinK Tryd.prog Go.Builtin.len #[41] 3 #[false] #[x0] (@hid _ ⟨fun t5_1 w2 =>
  BuiltinK Tryd.prog Go.Builtin.len #[41] 3 #[false] #[x0] (@hid _ ⟨fun t7_3 w4 =>
  SliceK Tryd.prog 41 x0 none (some t5_1) (some t7_3) (@hid _ ⟨fun t8_5 w6 =>
  R t8_5 w6⟩) w4⟩) w2⟩) w0
def a35 : Ann := (.seq .no (.seq .no .no))
theorem F35_eq (x0 : Value) (R : Value → World → Prop) (w0 : World) : F35 x0 R w0 = vc Tryd.prog (bodyOf Tryd.f35) a35 (retQ Tryd.prog Tryd.f35 R) (envOf 0 [x0]) w0 := by kernel_rfl
theorem F35_calls (x0 : Value) (R : Value → World → Prop) (w0 : World) (h : F35 x0 R w0) : CallK Tryd.prog 35 #[x0] R w0 :=
  calls_vc (c := bodyOf Tryd.f35) Tryd.func35 (by kernel_rfl) (by kernel_rfl) a35 (by kernel_rfl) (by kernel_rfl) [x0] (by rw [Tryd.ntmps35]; exact Nat.le_of_ble_eq_true rfl) w0 R ((F35_eq x0 R w0).mp h)

/-- (*canton/sorted.Map[string, canton/book.Entry]).Twin, its body as a formula. -/
def F36 (x0 : Value) (R : Value → World → Prop) (w0 : World) : Prop :=
  NilK Tryd.prog x0 (@hid _ ⟨fun t4_1 w2 =>
  FieldAtK Tryd.prog 78 t4_1 0 (@hid _ ⟨fun t5_3 w4 =>
  LoadK Tryd.prog 76 t5_3 (@hid _ ⟨fun t6_5 w6 =>
  CallV Tryd.prog (.func (.func 51) #[] #[]) #[t6_5] (@hid _ ⟨fun t7_7 w8 =>
  BuildK Tryd.prog 78 #[(0, t7_7)] (@hid _ ⟨fun t8_9 w10 =>
  BoxK Tryd.prog 78 t8_9 (@hid _ ⟨fun t9_11 w12 =>
  R t9_11 w12⟩) w10⟩) w8⟩) w6⟩) w4⟩) w2⟩) w0
def a36 : Ann := (.seq .no (.seq .no .no))
theorem F36_eq (x0 : Value) (R : Value → World → Prop) (w0 : World) : F36 x0 R w0 = vc Tryd.prog (bodyOf Tryd.f36) a36 (retQ Tryd.prog Tryd.f36 R) (envOf 0 [x0]) w0 := by kernel_rfl
theorem F36_calls (x0 : Value) (R : Value → World → Prop) (w0 : World) (h : F36 x0 R w0) : CallK Tryd.prog 36 #[x0] R w0 :=
  calls_vc (c := bodyOf Tryd.f36) Tryd.func36 (by kernel_rfl) (by kernel_rfl) a36 (by kernel_rfl) (by kernel_rfl) [x0] (by rw [Tryd.ntmps36]; exact Nat.le_of_ble_eq_true rfl) w0 R ((F36_eq x0 R w0).mp h)

/-- (*canton/sorted.Map[string, canton/book.Entry]).At, its body as a formula. -/
def F37 (x0 x1 : Value) (R : Value → World → Prop) (w0 : World) : Prop :=
  AllocK Tryd.prog 28 (@hid _ ⟨fun t5_1 w2 =>
  BinK Tryd.prog Go.BinOp.lss 3 x1 (Go.Value.int Go.IntKind.i64 0) (@hid _ ⟨fun t9_3 w4 =>
  GuardK t9_3 false (fun k w => k x1 w) (@hid _ ⟨fun t11_5 w6 =>
  GuardK t9_3 false (fun k w => k x0 w) (@hid _ ⟨fun t12_7 w8 =>
  GuardK t9_3 false (fun k w => NilK Tryd.prog t12_7 k w) (@hid _ ⟨fun t13_9 w10 =>
  GuardK t9_3 false (fun k w => FieldAtK Tryd.prog 78 t13_9 0 k w) (@hid _ ⟨fun t14_11 w12 =>
  GuardK t9_3 false (fun k w => LoadK Tryd.prog 76 t14_11 k w) (@hid _ ⟨fun t15_13 w14 =>
  GuardK t9_3 false (fun k w => BuiltinK Tryd.prog Go.Builtin.len #[76] 3 #[false] #[t15_13] k w) (@hid _ ⟨fun t16_15 w16 =>
  GuardK t9_3 false (fun k w => BinK Tryd.prog Go.BinOp.geq 3 t11_5 t16_15 k w) (@hid _ ⟨fun t17_17 w18 =>
  PickK Tryd.prog t9_3 (Go.Value.bool true) t17_17 (@hid _ ⟨fun t18_19 w20 =>
  BrK t18_19 (@hid _ ⟨
   AllocK Tryd.prog 84 (@hid _ ⟨fun t7_21 w22 =>
   DrawK (@hid _ ⟨fun S23 w24 =>
   TakeS Tryd.prog S23 (Instr.fieldAt 84 t7_21 0) (@hid _ ⟨fun t19_25 =>
   TakeS Tryd.prog S23 (Instr.loadAt 9 t19_25) (@hid _ ⟨fun t20_26 =>
   TakeS Tryd.prog S23 (Instr.fieldAt 84 t7_21 1) (@hid _ ⟨fun t21_27 =>
   TakeS Tryd.prog S23 (Instr.loadAt 28 t21_27) (@hid _ ⟨fun t22_28 =>
   (StoreK Tryd.prog 28 t5_1 t22_28 (@hid _ ⟨fun tu_29 w30 =>
   S23 w30 ∧
   LoadK Tryd.prog 28 t5_1 (@hid _ ⟨fun c31 w32 => w32 = w30 ∧ R (.tuple #[t20_26, c31, (Go.Value.bool false)]) w30⟩) w30⟩) w24) ∧
   True⟩)⟩)⟩)⟩)⟩) w22⟩) w20⟩) (@hid _ ⟨
   DrawK (@hid _ ⟨fun S33 w34 =>
   TakeO Tryd.prog S33 (nilSem x0) (@hid _ ⟨fun t24_35 =>
   TakeS Tryd.prog S33 (Instr.fieldAt 78 t24_35 0) (@hid _ ⟨fun t25_36 =>
   TakeS Tryd.prog S33 (Instr.loadAt 76 t25_36) (@hid _ ⟨fun t26_37 =>
   TakeS Tryd.prog S33 (Instr.indexAt 76 t26_37 x1) (@hid _ ⟨fun t28_38 =>
   TakeS Tryd.prog S33 (Instr.fieldAt 84 t28_38 0) (@hid _ ⟨fun t29_39 =>
   TakeS Tryd.prog S33 (Instr.loadAt 9 t29_39) (@hid _ ⟨fun t30_40 =>
   TakeO Tryd.prog S33 (nilSem x0) (@hid _ ⟨fun t32_41 =>
   TakeS Tryd.prog S33 (Instr.fieldAt 78 t32_41 0) (@hid _ ⟨fun t33_42 =>
   TakeS Tryd.prog S33 (Instr.loadAt 76 t33_42) (@hid _ ⟨fun t34_43 =>
   TakeS Tryd.prog S33 (Instr.indexAt 76 t34_43 x1) (@hid _ ⟨fun t36_44 =>
   TakeS Tryd.prog S33 (Instr.fieldAt 84 t36_44 1) (@hid _ ⟨fun t37_45 =>
   TakeS Tryd.prog S33 (Instr.loadAt 28 t37_45) (@hid _ ⟨fun t38_46 =>
   (StoreK Tryd.prog 28 t5_1 t38_46 (@hid _ ⟨fun tu_47 w48 =>
   S33 w48 ∧
   LoadK Tryd.prog 28 t5_1 (@hid _ ⟨fun c49 w50 => w50 = w48 ∧ R (.tuple #[t30_40, c49, (Go.Value.bool true)]) w48⟩) w48⟩) w34) ∧
   True⟩)⟩)⟩)⟩)⟩)⟩)⟩)⟩)⟩)⟩)⟩)⟩)⟩) w20⟩)⟩) w18⟩) w16⟩) w14⟩) w12⟩) w10⟩) w8⟩) w6⟩) w4⟩) w2⟩) w0
def a37 : Ann := (.seq .no (.seq (.seq .no (.cond (.seq .no (.seq (.plan (.take 0 (.take 1 (.take 2 (.take 3 (.take 4 (.alt 5 (.take 6 .done) .nil))))))) .no)) .no)) (.seq (.plan (.take 0 (.take 1 (.take 2 (.take 3 (.take 4 (.take 5 (.take 6 (.take 7 (.take 8 (.take 9 (.take 10 (.take 11 (.take 12 (.take 13 (.take 14 (.take 15 (.take 16 (.alt 17 (.take 18 .done) .nil))))))))))))))))))) .no)))
theorem F37_eq (x0 x1 : Value) (R : Value → World → Prop) (w0 : World) : F37 x0 x1 R w0 = vc Tryd.prog (bodyOf Tryd.f37) a37 (retQ Tryd.prog Tryd.f37 R) (envOf 0 [x0, x1]) w0 := by kernel_rfl
theorem F37_calls (x0 x1 : Value) (R : Value → World → Prop) (w0 : World) (h : F37 x0 x1 R w0) : CallK Tryd.prog 37 #[x0, x1] R w0 :=
  calls_vc (c := bodyOf Tryd.f37) Tryd.func37 (by kernel_rfl) (by kernel_rfl) a37 (by kernel_rfl) (by kernel_rfl) [x0, x1] (by rw [Tryd.ntmps37]; exact Nat.le_of_ble_eq_true rfl) w0 R ((F37_eq x0 x1 R w0).mp h)

/-- slices.Clip[[]canton/book.Entry,canton/book.Entry], its body as a formula. -/
def F38 (x0 : Value) (R : Value → World → Prop) (w0 : World) : Prop :=
  BuiltinK Tryd.prog Go.Builtin.len #[35] 3 #[false] #[x0] (@hid _ ⟨fun t5_1 w2 =>
  BuiltinK Tryd.prog Go.Builtin.len #[35] 3 #[false] #[x0] (@hid _ ⟨fun t7_3 w4 =>
  SliceK Tryd.prog 35 x0 none (some t5_1) (some t7_3) (@hid _ ⟨fun t8_5 w6 =>
  R t8_5 w6⟩) w4⟩) w2⟩) w0
def a38 : Ann := (.seq .no (.seq .no .no))
theorem F38_eq (x0 : Value) (R : Value → World → Prop) (w0 : World) : F38 x0 R w0 = vc Tryd.prog (bodyOf Tryd.f38) a38 (retQ Tryd.prog Tryd.f38 R) (envOf 0 [x0]) w0 := by kernel_rfl
theorem F38_calls (x0 : Value) (R : Value → World → Prop) (w0 : World) (h : F38 x0 R w0) : CallK Tryd.prog 38 #[x0] R w0 :=
  calls_vc (c := bodyOf Tryd.f38) Tryd.func38 (by kernel_rfl) (by kernel_rfl) a38 (by kernel_rfl) (by kernel_rfl) [x0] (by rw [Tryd.ntmps38]; exact Nat.le_of_ble_eq_true rfl) w0 R ((F38_eq x0 R w0).mp h)

/-- (*canton/sorted.Map[string, canton/book.Entry]).Keys, its body as a formula. -/
def F39 (x0 : Value) (R : Value → World → Prop) (w0 : World) : Prop :=
  NilK Tryd.prog x0 (@hid _ ⟨fun t7_1 w2 =>
  FieldAtK Tryd.prog 78 t7_1 0 (@hid _ ⟨fun t8_3 w4 =>
  LoadK Tryd.prog 76 t8_3 (@hid _ ⟨fun t9_5 w6 =>
  BuiltinK Tryd.prog Go.Builtin.len #[76] 3 #[false] #[t9_5] (@hid _ ⟨fun t10_7 w8 =>
  ValK Tryd.prog (Instr.makeSlice 41 (Go.Value.int Go.IntKind.i64 0) t10_7) (@hid _ ⟨fun t11_9 w10 =>
  NilK Tryd.prog x0 (@hid _ ⟨fun t13_11 w12 =>
  FieldAtK Tryd.prog 78 t13_11 0 (@hid _ ⟨fun t14_13 w14 =>
  LoadK Tryd.prog 76 t14_13 (@hid _ ⟨fun t15_15 w16 =>
  BuiltinK Tryd.prog Go.Builtin.len #[76] 3 #[false] #[t15_15] (@hid _ ⟨fun t16_17 w18 =>
  LoopK2 t11_9 (Go.Value.int Go.IntKind.i64 0) w18 (@hid _ ⟨fun _ x3_19 x17_20 w21 B22 =>
   BinK Tryd.prog Go.BinOp.lss 3 x17_20 t16_17 (@hid _ ⟨fun t18_23 w24 =>
   BrK t18_23 (@hid _ ⟨
    IndexAtK Tryd.prog 76 t15_15 x17_20 (@hid _ ⟨fun t19_25 w26 =>
    LoadK Tryd.prog 84 t19_25 (@hid _ ⟨fun t20_27 w28 =>
    AllocK Tryd.prog 84 (@hid _ ⟨fun t5_29 w30 =>
    StoreK Tryd.prog 84 t5_29 t20_27 (@hid _ ⟨fun tu_31 w32 =>
    FieldAtK Tryd.prog 84 t5_29 0 (@hid _ ⟨fun t22_33 w34 =>
    LoadK Tryd.prog 9 t22_33 (@hid _ ⟨fun t23_35 w36 =>
    BuildSliceK Tryd.prog 41 1 #[(0, t23_35)] (@hid _ ⟨fun t24_37 w38 =>
    BuiltinK Tryd.prog Go.Builtin.append #[41, 41] 41 #[false, false] #[x3_19, t24_37] (@hid _ ⟨fun t25_39 w40 =>
    BinK Tryd.prog Go.BinOp.add 3 x17_20 (Go.Value.int Go.IntKind.i64 1) (@hid _ ⟨fun t26_41 w42 =>
    B22 t25_39 t26_41 w42⟩) w40⟩) w38⟩) w36⟩) w34⟩) w32⟩) w30⟩) w28⟩) w26⟩) w24⟩) (@hid _ ⟨
    R x3_19 w24⟩)⟩) w21⟩)⟩) w16⟩) w14⟩) w12⟩) w10⟩) w8⟩) w6⟩) w4⟩) w2⟩) w0
def a39 : Ann := (.seq .no (.seq .no (.seq (.seq .no (.block (.loop [3, 17] [(5, 5), (18, 26)] (.seq .no (.seq (.cond .no .no) (.seq (.block (.seq .no .no)) .no)))))) (.seq .no .no))))
theorem F39_eq (x0 : Value) (R : Value → World → Prop) (w0 : World) : F39 x0 R w0 = vc Tryd.prog (bodyOf Tryd.f39) a39 (retQ Tryd.prog Tryd.f39 R) (envOf 0 [x0]) w0 := by kernel_rfl
theorem F39_calls (x0 : Value) (R : Value → World → Prop) (w0 : World) (h : F39 x0 R w0) : CallK Tryd.prog 39 #[x0] R w0 :=
  calls_vc (c := bodyOf Tryd.f39) Tryd.func39 (by kernel_rfl) (by kernel_rfl) a39 (by kernel_rfl) (by kernel_rfl) [x0] (by rw [Tryd.ntmps39]; exact Nat.le_of_ble_eq_true rfl) w0 R ((F39_eq x0 R w0).mp h)

/-- canton/path.Under, its body as a formula. -/
def F40 (x0 x1 : Value) (R : Value → World → Prop) (w0 : World) : Prop :=
  CallV Tryd.prog (.func (.func 52) #[] #[]) #[x0] (@hid _ ⟨fun t11_1 w2 =>
  ExtractK Tryd.prog t11_1 0 (@hid _ ⟨fun t12_3 w4 =>
  ExtractK Tryd.prog t11_1 1 (@hid _ ⟨fun t13_5 w6 =>
  CallV Tryd.prog (.func (.func 52) #[] #[]) #[x1] (@hid _ ⟨fun t16_7 w8 =>
  ExtractK Tryd.prog t16_7 0 (@hid _ ⟨fun t17_9 w10 =>
  ExtractK Tryd.prog t16_7 1 (@hid _ ⟨fun t18_11 w12 =>
  BinK Tryd.prog Go.BinOp.eql 36 t13_5 (Go.Value.int Go.IntKind.i64 0) (@hid _ ⟨fun t20_13 w14 =>
  GuardK t20_13 true (fun k w => k t18_11 w) (@hid _ ⟨fun t22_15 w16 =>
  GuardK t20_13 true (fun k w => BinK Tryd.prog Go.BinOp.eql 36 t22_15 (Go.Value.int Go.IntKind.i64 0) k w) (@hid _ ⟨fun t23_17 w18 =>
  PickK Tryd.prog t20_13 t23_17 (Go.Value.bool false) (@hid _ ⟨fun t24_19 w20 =>
  GuardK t24_19 true (fun k w => k t12_3 w) (@hid _ ⟨fun t26_21 w22 =>
  GuardK t24_19 true (fun k w => k t17_9 w) (@hid _ ⟨fun t27_23 w24 =>
  GuardK t24_19 true (fun k w => CallV Tryd.prog (.func (.func 53) #[] #[]) #[t26_21, t27_23] k w) (@hid _ ⟨fun t28_25 w26 =>
  GuardK t24_19 true (fun k w => k t17_9 w) (@hid _ ⟨fun t29_27 w28 =>
  GuardK t24_19 true (fun k w => BuiltinK Tryd.prog Go.Builtin.len #[41] 3 #[false] #[t29_27] k w) (@hid _ ⟨fun t30_29 w30 =>
  GuardK t24_19 true (fun k w => BinK Tryd.prog Go.BinOp.eql 3 t28_25 t30_29 k w) (@hid _ ⟨fun t31_31 w32 =>
  PickK Tryd.prog t24_19 t31_31 (Go.Value.bool false) (@hid _ ⟨fun t32_33 w34 =>
  R t32_33 w34⟩) w32⟩) w30⟩) w28⟩) w26⟩) w24⟩) w22⟩) w20⟩) w18⟩) w16⟩) w14⟩) w12⟩) w10⟩) w8⟩) w6⟩) w4⟩) w2⟩) w0
def a40 : Ann := (.seq .no (.seq .no (.seq .no (.seq .no .no))))
theorem F40_eq (x0 x1 : Value) (R : Value → World → Prop) (w0 : World) : F40 x0 x1 R w0 = vc Tryd.prog (bodyOf Tryd.f40) a40 (retQ Tryd.prog Tryd.f40 R) (envOf 0 [x0, x1]) w0 := by kernel_rfl
theorem F40_calls (x0 x1 : Value) (R : Value → World → Prop) (w0 : World) (h : F40 x0 x1 R w0) : CallK Tryd.prog 40 #[x0, x1] R w0 :=
  calls_vc (c := bodyOf Tryd.f40) Tryd.func40 (by kernel_rfl) (by kernel_rfl) a40 (by kernel_rfl) (by kernel_rfl) [x0, x1] (by rw [Tryd.ntmps40]; exact Nat.le_of_ble_eq_true rfl) w0 R ((F40_eq x0 x1 R w0).mp h)

/-- canton/cantonref7.Under, its body as a formula. -/
def F41 (x0 x1 : Value) (R : Value → World → Prop) (w0 : World) : Prop :=
  CallV Tryd.prog (.func (.func 54) #[] #[]) #[x0] (@hid _ ⟨fun t12_1 w2 =>
  ExtractK Tryd.prog t12_1 0 (@hid _ ⟨fun t13_3 w4 =>
  ExtractK Tryd.prog t12_1 1 (@hid _ ⟨fun t14_5 w6 =>
  CallV Tryd.prog (.func (.func 54) #[] #[]) #[x1] (@hid _ ⟨fun t17_7 w8 =>
  ExtractK Tryd.prog t17_7 0 (@hid _ ⟨fun t18_9 w10 =>
  ExtractK Tryd.prog t17_7 1 (@hid _ ⟨fun t19_11 w12 =>
  BinK Tryd.prog Go.BinOp.neq 3 t14_5 (Go.Value.int Go.IntKind.i64 0) (@hid _ ⟨fun t21_13 w14 =>
  GuardK t21_13 false (fun k w => k t19_11 w) (@hid _ ⟨fun t23_15 w16 =>
  GuardK t21_13 false (fun k w => BinK Tryd.prog Go.BinOp.neq 3 t23_15 (Go.Value.int Go.IntKind.i64 0) k w) (@hid _ ⟨fun t24_17 w18 =>
  PickK Tryd.prog t21_13 (Go.Value.bool true) t24_17 (@hid _ ⟨fun t25_19 w20 =>
  GuardK t25_19 false (fun k w => k t18_9 w) (@hid _ ⟨fun t27_21 w22 =>
  GuardK t25_19 false (fun k w => BuiltinK Tryd.prog Go.Builtin.len #[41] 3 #[false] #[t27_21] k w) (@hid _ ⟨fun t28_23 w24 =>
  GuardK t25_19 false (fun k w => k t13_3 w) (@hid _ ⟨fun t29_25 w26 =>
  GuardK t25_19 false (fun k w => BuiltinK Tryd.prog Go.Builtin.len #[41] 3 #[false] #[t29_25] k w) (@hid _ ⟨fun t30_27 w28 =>
  GuardK t25_19 false (fun k w => BinK Tryd.prog Go.BinOp.gtr 3 t28_23 t30_27 k w) (@hid _ ⟨fun t31_29 w30 =>
  PickK Tryd.prog t25_19 (Go.Value.bool true) t31_29 (@hid _ ⟨fun t32_31 w32 =>
  BrK t32_31 (@hid _ ⟨
   R (Go.Value.bool false) w32⟩) (@hid _ ⟨
   LoopK1 (Go.Value.int Go.IntKind.i64 0) w32 (@hid _ ⟨fun _ x9_33 w34 B35 =>
    BuiltinK Tryd.prog Go.Builtin.len #[41] 3 #[false] #[t18_9] (@hid _ ⟨fun t35_36 w37 =>
    BinK Tryd.prog Go.BinOp.lss 3 x9_33 t35_36 (@hid _ ⟨fun t36_38 w39 =>
    BrK t36_38 (@hid _ ⟨
     DrawK (@hid _ ⟨fun S40 w41 =>
     TakeS Tryd.prog S40 (Instr.indexAt 41 t13_3 x9_33) (@hid _ ⟨fun t41_42 =>
     TakeS Tryd.prog S40 (Instr.loadAt 9 t41_42) (@hid _ ⟨fun t42_43 =>
     TakeS Tryd.prog S40 (Instr.indexAt 41 t18_9 x9_33) (@hid _ ⟨fun t45_44 =>
     TakeS Tryd.prog S40 (Instr.loadAt 9 t45_44) (@hid _ ⟨fun t46_45 =>
     BinT Tryd.prog S40 Go.BinOp.neq 9 t42_43 t46_45 (@hid _ ⟨fun t47_46 =>
     BrK t47_46 (@hid _ ⟨
      R (Go.Value.bool false) w41⟩) (@hid _ ⟨
      BinK Tryd.prog Go.BinOp.add 3 x9_33 (Go.Value.int Go.IntKind.i64 1) (@hid _ ⟨fun t38_47 w48 =>
      B35 t38_47 w48⟩) w41⟩)⟩)⟩)⟩)⟩)⟩)⟩) w39⟩) (@hid _ ⟨
     R (Go.Value.bool true) w39⟩)⟩) w37⟩) w34⟩)⟩)⟩) w30⟩) w28⟩) w26⟩) w24⟩) w22⟩) w20⟩) w18⟩) w16⟩) w14⟩) w12⟩) w10⟩) w8⟩) w6⟩) w4⟩) w2⟩) w0
def a41 : Ann := (.seq .no (.seq .no (.seq .no (.seq (.seq .no (.cond (.seq .no .no) .no)) (.seq (.seq .no (.block (.loop [9] [(4, 4), (33, 47)] (.seq (.seq .no (.cond .no .no)) (.seq (.block (.seq (.plan (.take 0 (.take 1 (.take 2 (.take 3 (.take 4 (.take 5 (.take 6 (.take 7 (.take 8 .done)))))))))) (.cond (.seq .no .no) .no))) .no))))) (.seq .no .no))))))
theorem F41_eq (x0 x1 : Value) (R : Value → World → Prop) (w0 : World) : F41 x0 x1 R w0 = vc Tryd.prog (bodyOf Tryd.f41) a41 (retQ Tryd.prog Tryd.f41 R) (envOf 0 [x0, x1]) w0 := by kernel_rfl
theorem F41_calls (x0 x1 : Value) (R : Value → World → Prop) (w0 : World) (h : F41 x0 x1 R w0) : CallK Tryd.prog 41 #[x0, x1] R w0 :=
  calls_vc (c := bodyOf Tryd.f41) Tryd.func41 (by kernel_rfl) (by kernel_rfl) a41 (by kernel_rfl) (by kernel_rfl) [x0, x1] (by rw [Tryd.ntmps41]; exact Nat.le_of_ble_eq_true rfl) w0 R ((F41_eq x0 x1 R w0).mp h)

/-- cmp.Or[int], its body as a formula. -/
def F42 (x0 : Value) (R : Value → World → Prop) (w0 : World) : Prop :=
  BuiltinK Tryd.prog Go.Builtin.len #[93] 3 #[false] #[x0] (@hid _ ⟨fun t7_1 w2 =>
  LoopK1 (Go.Value.int Go.IntKind.i64 0) w2 (@hid _ ⟨fun _ x8_3 w4 B5 =>
   BinK Tryd.prog Go.BinOp.lss 3 x8_3 t7_1 (@hid _ ⟨fun t9_6 w7 =>
   BrK t9_6 (@hid _ ⟨
    IndexAtK Tryd.prog 93 x0 x8_3 (@hid _ ⟨fun t10_8 w9 =>
    LoadK Tryd.prog 3 t10_8 (@hid _ ⟨fun t11_10 w11 =>
    BinK Tryd.prog Go.BinOp.neq 3 t11_10 (Go.Value.int Go.IntKind.i64 0) (@hid _ ⟨fun t14_12 w13 =>
    BrK t14_12 (@hid _ ⟨
     R t11_10 w13⟩) (@hid _ ⟨
     BinK Tryd.prog Go.BinOp.add 3 x8_3 (Go.Value.int Go.IntKind.i64 1) (@hid _ ⟨fun t16_14 w15 =>
     B5 t16_14 w15⟩) w13⟩)⟩) w11⟩) w9⟩) w7⟩) (@hid _ ⟨
    R (Go.Value.int Go.IntKind.i64 0) w7⟩)⟩) w4⟩)⟩) w0
def a42 : Ann := (.seq .no (.seq .no (.seq (.seq .no (.block (.loop [8] [(2, 2), (5, 5), (9, 16)] (.seq .no (.seq (.cond .no .no) (.seq (.block (.seq .no (.seq .no (.cond (.seq .no .no) .no)))) .no)))))) (.seq .no .no))))
theorem F42_eq (x0 : Value) (R : Value → World → Prop) (w0 : World) : F42 x0 R w0 = vc Tryd.prog (bodyOf Tryd.f42) a42 (retQ Tryd.prog Tryd.f42 R) (envOf 0 [x0]) w0 := by kernel_rfl
theorem F42_calls (x0 : Value) (R : Value → World → Prop) (w0 : World) (h : F42 x0 R w0) : CallK Tryd.prog 42 #[x0] R w0 :=
  calls_vc (c := bodyOf Tryd.f42) Tryd.func42 (by kernel_rfl) (by kernel_rfl) a42 (by kernel_rfl) (by kernel_rfl) [x0] (by rw [Tryd.ntmps42]; exact Nat.le_of_ble_eq_true rfl) w0 R ((F42_eq x0 R w0).mp h)

/-- cmp.Compare[int64], its body as a formula. -/
def F43 (x0 x1 : Value) (R : Value → World → Prop) (w0 : World) : Prop :=
  CallV Tryd.prog (.func (.func 55) #[] #[]) #[x0] (@hid _ ⟨fun t8_1 w2 =>
  CallV Tryd.prog (.func (.func 55) #[] #[]) #[x1] (@hid _ ⟨fun t10_3 w4 =>
  BrK t8_1 (@hid _ ⟨
   BrK t10_3 (@hid _ ⟨
    R (Go.Value.int Go.IntKind.i64 0) w4⟩) (@hid _ ⟨
    R (Go.Value.int Go.IntKind.i64 (-1)) w4⟩)⟩) (@hid _ ⟨
   BrK t10_3 (@hid _ ⟨
    R (Go.Value.int Go.IntKind.i64 1) w4⟩) (@hid _ ⟨
    BinK Tryd.prog Go.BinOp.lss 2 x0 x1 (@hid _ ⟨fun t16_5 w6 =>
    BrK t16_5 (@hid _ ⟨
     R (Go.Value.int Go.IntKind.i64 (-1)) w6⟩) (@hid _ ⟨
     BinK Tryd.prog Go.BinOp.gtr 2 x0 x1 (@hid _ ⟨fun t19_7 w8 =>
     BrK t19_7 (@hid _ ⟨
      R (Go.Value.int Go.IntKind.i64 1) w8⟩) (@hid _ ⟨
      R (Go.Value.int Go.IntKind.i64 0) w8⟩)⟩) w6⟩)⟩) w4⟩)⟩)⟩) w2⟩) w0
def a43 : Ann := (.seq .no (.seq .no (.seq .no (.seq (.seq .no (.cond (.seq (.seq .no (.cond (.seq .no .no) .no)) (.seq .no .no)) .no)) (.seq (.seq .no (.cond (.seq .no .no) .no)) (.seq (.seq .no (.cond (.seq .no .no) .no)) (.seq (.seq .no (.cond (.seq .no .no) .no)) (.seq .no .no))))))))
theorem F43_eq (x0 x1 : Value) (R : Value → World → Prop) (w0 : World) : F43 x0 x1 R w0 = vc Tryd.prog (bodyOf Tryd.f43) a43 (retQ Tryd.prog Tryd.f43 R) (envOf 0 [x0, x1]) w0 := by kernel_rfl
theorem F43_calls (x0 x1 : Value) (R : Value → World → Prop) (w0 : World) (h : F43 x0 x1 R w0) : CallK Tryd.prog 43 #[x0, x1] R w0 :=
  calls_vc (c := bodyOf Tryd.f43) Tryd.func43 (by kernel_rfl) (by kernel_rfl) a43 (by kernel_rfl) (by kernel_rfl) [x0, x1] (by rw [Tryd.ntmps43]; exact Nat.le_of_ble_eq_true rfl) w0 R ((F43_eq x0 x1 R w0).mp h)

/-- canton/cantonref7.Node, its body as a formula. -/
def F44 (x0 : Value) (R : Value → World → Prop) (w0 : World) : Prop :=
  CallV Tryd.prog (.func (.func 56) #[] #[]) #[x0] (@hid _ ⟨fun t4_1 w2 =>
  GuardK t4_1 true (fun k w => k x0 w) (@hid _ ⟨fun t6_3 w4 =>
  GuardK t4_1 true (fun k w => BinK Tryd.prog Go.BinOp.neq 9 t6_3 (Go.Value.string { data := #[47] }) k w) (@hid _ ⟨fun t7_5 w6 =>
  PickK Tryd.prog t4_1 t7_5 (Go.Value.bool false) (@hid _ ⟨fun t8_7 w8 =>
  R t8_7 w8⟩) w6⟩) w4⟩) w2⟩) w0
def a44 : Ann := (.seq .no (.seq .no .no))
theorem F44_eq (x0 : Value) (R : Value → World → Prop) (w0 : World) : F44 x0 R w0 = vc Tryd.prog (bodyOf Tryd.f44) a44 (retQ Tryd.prog Tryd.f44 R) (envOf 0 [x0]) w0 := by kernel_rfl
theorem F44_calls (x0 : Value) (R : Value → World → Prop) (w0 : World) (h : F44 x0 R w0) : CallK Tryd.prog 44 #[x0] R w0 :=
  calls_vc (c := bodyOf Tryd.f44) Tryd.func44 (by kernel_rfl) (by kernel_rfl) a44 (by kernel_rfl) (by kernel_rfl) [x0] (by rw [Tryd.ntmps44]; exact Nat.le_of_ble_eq_true rfl) w0 R ((F44_eq x0 R w0).mp h)

/-- canton/cantonref7.In, its body as a formula. -/
def F45 (x0 : Value) (R : Value → World → Prop) (w0 : World) : Prop :=
  BinK Tryd.prog Go.BinOp.geq 2 x0 (Go.Value.int Go.IntKind.i64 0) (@hid _ ⟨fun t4_1 w2 =>
  GuardK t4_1 true (fun k w => k x0 w) (@hid _ ⟨fun t6_3 w4 =>
  GuardK t4_1 true (fun k w => BinK Tryd.prog Go.BinOp.leq 2 t6_3 (Go.Value.int Go.IntKind.i64 1000000000) k w) (@hid _ ⟨fun t7_5 w6 =>
  PickK Tryd.prog t4_1 t7_5 (Go.Value.bool false) (@hid _ ⟨fun t8_7 w8 =>
  R t8_7 w8⟩) w6⟩) w4⟩) w2⟩) w0
def a45 : Ann := (.seq .no (.seq .no .no))
theorem F45_eq (x0 : Value) (R : Value → World → Prop) (w0 : World) : F45 x0 R w0 = vc Tryd.prog (bodyOf Tryd.f45) a45 (retQ Tryd.prog Tryd.f45 R) (envOf 0 [x0]) w0 := by kernel_rfl
theorem F45_calls (x0 : Value) (R : Value → World → Prop) (w0 : World) (h : F45 x0 R w0) : CallK Tryd.prog 45 #[x0] R w0 :=
  calls_vc (c := bodyOf Tryd.f45) Tryd.func45 (by kernel_rfl) (by kernel_rfl) a45 (by kernel_rfl) (by kernel_rfl) [x0] (by rw [Tryd.ntmps45]; exact Nat.le_of_ble_eq_true rfl) w0 R ((F45_eq x0 R w0).mp h)

/-- canton/path.Depth, its body as a formula. -/
def F46 (x0 : Value) (R : Value → World → Prop) (w0 : World) : Prop :=
  CallV Tryd.prog (.func (.func 52) #[] #[]) #[x0] (@hid _ ⟨fun t7_1 w2 =>
  ExtractK Tryd.prog t7_1 0 (@hid _ ⟨fun t8_3 w4 =>
  ExtractK Tryd.prog t7_1 1 (@hid _ ⟨fun t9_5 w6 =>
  BinK Tryd.prog Go.BinOp.neq 36 t9_5 (Go.Value.int Go.IntKind.i64 0) (@hid _ ⟨fun t11_7 w8 =>
  BrK t11_7 (@hid _ ⟨
   R (Go.Value.int Go.IntKind.i64 (-1)) w8⟩) (@hid _ ⟨
   BuiltinK Tryd.prog Go.Builtin.len #[41] 3 #[false] #[t8_3] (@hid _ ⟨fun t13_9 w10 =>
   R t13_9 w10⟩) w8⟩)⟩) w6⟩) w4⟩) w2⟩) w0
def a46 : Ann := (.seq .no (.seq .no (.seq (.seq .no (.cond (.seq .no .no) .no)) (.seq .no .no))))
theorem F46_eq (x0 : Value) (R : Value → World → Prop) (w0 : World) : F46 x0 R w0 = vc Tryd.prog (bodyOf Tryd.f46) a46 (retQ Tryd.prog Tryd.f46 R) (envOf 0 [x0]) w0 := by kernel_rfl
theorem F46_calls (x0 : Value) (R : Value → World → Prop) (w0 : World) (h : F46 x0 R w0) : CallK Tryd.prog 46 #[x0] R w0 :=
  calls_vc (c := bodyOf Tryd.f46) Tryd.func46 (by kernel_rfl) (by kernel_rfl) a46 (by kernel_rfl) (by kernel_rfl) [x0] (by rw [Tryd.ntmps46]; exact Nat.le_of_ble_eq_true rfl) w0 R ((F46_eq x0 R w0).mp h)

/-- canton/book.in, its body as a formula. -/
def F47 (x0 : Value) (R : Value → World → Prop) (w0 : World) : Prop :=
  BinK Tryd.prog Go.BinOp.geq 2 x0 (Go.Value.int Go.IntKind.i64 0) (@hid _ ⟨fun t4_1 w2 =>
  GuardK t4_1 true (fun k w => k x0 w) (@hid _ ⟨fun t6_3 w4 =>
  GuardK t4_1 true (fun k w => BinK Tryd.prog Go.BinOp.leq 2 t6_3 (Go.Value.int Go.IntKind.i64 1000000000) k w) (@hid _ ⟨fun t7_5 w6 =>
  PickK Tryd.prog t4_1 t7_5 (Go.Value.bool false) (@hid _ ⟨fun t8_7 w8 =>
  R t8_7 w8⟩) w6⟩) w4⟩) w2⟩) w0
def a47 : Ann := (.seq .no (.seq .no .no))
theorem F47_eq (x0 : Value) (R : Value → World → Prop) (w0 : World) : F47 x0 R w0 = vc Tryd.prog (bodyOf Tryd.f47) a47 (retQ Tryd.prog Tryd.f47 R) (envOf 0 [x0]) w0 := by kernel_rfl
theorem F47_calls (x0 : Value) (R : Value → World → Prop) (w0 : World) (h : F47 x0 R w0) : CallK Tryd.prog 47 #[x0] R w0 :=
  calls_vc (c := bodyOf Tryd.f47) Tryd.func47 (by kernel_rfl) (by kernel_rfl) a47 (by kernel_rfl) (by kernel_rfl) [x0] (by rw [Tryd.ntmps47]; exact Nat.le_of_ble_eq_true rfl) w0 R ((F47_eq x0 R w0).mp h)

/-- (*canton/sorted.Map[string, canton/book.Entry]).find, its body as a formula. -/
def F48 (x0 x1 : Value) (R : Value → World → Prop) (w0 : World) : Prop :=
  NilK Tryd.prog x0 (@hid _ ⟨fun t7_1 w2 =>
  FieldAtK Tryd.prog 78 t7_1 0 (@hid _ ⟨fun t8_3 w4 =>
  LoadK Tryd.prog 76 t8_3 (@hid _ ⟨fun t9_5 w6 =>
  CallV Tryd.prog (.func (.func 57) #[] #[]) #[t9_5, x1, (.func (.func 58) #[] #[])] (@hid _ ⟨fun t11_7 w8 =>
  ExtractK Tryd.prog t11_7 0 (@hid _ ⟨fun t12_9 w10 =>
  ExtractK Tryd.prog t11_7 1 (@hid _ ⟨fun t13_11 w12 =>
  R (.tuple #[t12_9, t13_11]) w12⟩) w10⟩) w8⟩) w6⟩) w4⟩) w2⟩) w0
def a48 : Ann := (.seq .no (.seq .no .no))
theorem F48_eq (x0 x1 : Value) (R : Value → World → Prop) (w0 : World) : F48 x0 x1 R w0 = vc Tryd.prog (bodyOf Tryd.f48) a48 (retQ Tryd.prog Tryd.f48 R) (envOf 0 [x0, x1]) w0 := by kernel_rfl
theorem F48_calls (x0 x1 : Value) (R : Value → World → Prop) (w0 : World) (h : F48 x0 x1 R w0) : CallK Tryd.prog 48 #[x0, x1] R w0 :=
  calls_vc (c := bodyOf Tryd.f48) Tryd.func48 (by kernel_rfl) (by kernel_rfl) a48 (by kernel_rfl) (by kernel_rfl) [x0, x1] (by rw [Tryd.ntmps48]; exact Nat.le_of_ble_eq_true rfl) w0 R ((F48_eq x0 x1 R w0).mp h)

/-- slices.Insert[[]canton/sorted.pair[string, canton/book.Entry],canton/sorted.pair[string, canton/book.Entry]], its body as a formula. -/
def F49 (x0 x1 x2 : Value) (R : Value → World → Prop) (w0 : World) : Prop :=
  SliceK Tryd.prog 76 x0 (some x1) none none (@hid _ ⟨fun t12_1 w2 =>
  BuiltinK Tryd.prog Go.Builtin.len #[76] 3 #[false] #[x2] (@hid _ ⟨fun t14_3 w4 =>
  BinK Tryd.prog Go.BinOp.eql 3 t14_3 (Go.Value.int Go.IntKind.i64 0) (@hid _ ⟨fun t16_5 w6 =>
  BrK t16_5 (@hid _ ⟨
   R x0 w6⟩) (@hid _ ⟨
   BuiltinK Tryd.prog Go.Builtin.len #[76] 3 #[false] #[x0] (@hid _ ⟨fun t19_7 w8 =>
   BinK Tryd.prog Go.BinOp.eql 3 x1 t19_7 (@hid _ ⟨fun t22_9 w10 =>
   BrK t22_9 (@hid _ ⟨
    BuiltinK Tryd.prog Go.Builtin.append #[76, 76] 76 #[false, false] #[x0, x2] (@hid _ ⟨fun t25_11 w12 =>
    R t25_11 w12⟩) w10⟩) (@hid _ ⟨
    BinK Tryd.prog Go.BinOp.add 3 t19_7 t14_3 (@hid _ ⟨fun t28_13 w14 =>
    BuiltinK Tryd.prog Go.Builtin.cap #[76] 3 #[false] #[x0] (@hid _ ⟨fun t30_15 w16 =>
    BinK Tryd.prog Go.BinOp.gtr 3 t28_13 t30_15 (@hid _ ⟨fun t31_17 w18 =>
    BrK t31_17 (@hid _ ⟨
     SliceK Tryd.prog 76 x0 none (some x1) none (@hid _ ⟨fun t34_19 w20 =>
     BinK Tryd.prog Go.BinOp.add 3 t19_7 t14_3 (@hid _ ⟨fun t37_21 w22 =>
     BinK Tryd.prog Go.BinOp.sub 3 t37_21 x1 (@hid _ ⟨fun t39_23 w24 =>
     BuiltinK Tryd.prog Go.Builtin.append #[76, 3] 76 #[false, false] #[t34_19, t39_23] (@hid _ ⟨fun t40_25 w26 =>
     SliceK Tryd.prog 76 t40_25 (some x1) none none (@hid _ ⟨fun t43_27 w28 =>
     BuiltinK Tryd.prog Go.Builtin.copy #[76, 76] 3 #[false, false] #[t43_27, x2] (@hid _ ⟨fun t45_29 w30 =>
     DrawK (@hid _ ⟨fun S31 w32 =>
     BinT Tryd.prog S31 Go.BinOp.add 3 x1 t14_3 (@hid _ ⟨fun t49_33 =>
     TakeS Tryd.prog S31 (Instr.sliceAt 76 t40_25 (some t49_33) none none) (@hid _ ⟨fun t50_34 =>
     TakeS Tryd.prog S31 (Instr.sliceAt 76 x0 (some x1) none none) (@hid _ ⟨fun t53_35 =>
     (BuiltinK Tryd.prog Go.Builtin.copy #[76, 76] 3 #[false, false] #[t50_34, t53_35] (@hid _ ⟨fun t54_36 w37 =>
     S31 w37 ∧
     R t40_25 w37⟩) w32) ∧
     True⟩)⟩)⟩)⟩) w30⟩) w28⟩) w26⟩) w24⟩) w22⟩) w20⟩) w18⟩) (@hid _ ⟨
     BinK Tryd.prog Go.BinOp.add 3 t19_7 t14_3 (@hid _ ⟨fun t59_38 w39 =>
     SliceK Tryd.prog 76 x0 none (some t59_38) none (@hid _ ⟨fun t60_40 w41 =>
     BinK Tryd.prog Go.BinOp.add 3 x1 t14_3 (@hid _ ⟨fun t65_42 w43 =>
     SliceK Tryd.prog 76 t60_40 (some t65_42) none none (@hid _ ⟨fun t66_44 w45 =>
     CallV Tryd.prog (.func (.func 60) #[] #[]) #[x2, t66_44] (@hid _ ⟨fun t67_46 w47 =>
     UnK Tryd.prog Go.UnOp.not t67_46 (@hid _ ⟨fun t68_48 w49 =>
     BrK t68_48 (@hid _ ⟨
      DrawK (@hid _ ⟨fun S50 w51 =>
      BinT Tryd.prog S50 Go.BinOp.add 3 x1 t14_3 (@hid _ ⟨fun t72_52 =>
      TakeS Tryd.prog S50 (Instr.sliceAt 76 t60_40 (some t72_52) none none) (@hid _ ⟨fun t73_53 =>
      TakeS Tryd.prog S50 (Instr.sliceAt 76 t60_40 (some x1) none none) (@hid _ ⟨fun t76_54 =>
      (BuiltinK Tryd.prog Go.Builtin.copy #[76, 76] 3 #[false, false] #[t73_53, t76_54] (@hid _ ⟨fun t77_55 w56 =>
      S50 w56 ∧
      SliceK Tryd.prog 76 t60_40 (some x1) none none (@hid _ ⟨fun t80_57 w58 =>
      BuiltinK Tryd.prog Go.Builtin.copy #[76, 76] 3 #[false, false] #[t80_57, x2] (@hid _ ⟨fun t82_59 w60 =>
      R t60_40 w60⟩) w58⟩) w56⟩) w51) ∧
      True⟩)⟩)⟩)⟩) w49⟩) (@hid _ ⟨
      SliceK Tryd.prog 76 t60_40 (some t19_7) none none (@hid _ ⟨fun t86_61 w62 =>
      BuiltinK Tryd.prog Go.Builtin.copy #[76, 76] 3 #[false, false] #[t86_61, x2] (@hid _ ⟨fun t88_63 w64 =>
      SliceK Tryd.prog 76 t60_40 (some x1) none none (@hid _ ⟨fun t91_65 w66 =>
      CallV Tryd.prog (.func (.func 61) #[] #[]) #[t91_65, t14_3] (@hid _ ⟨fun t93_67 w68 =>
      R t60_40 w68⟩) w66⟩) w64⟩) w62⟩) w49⟩)⟩) w47⟩) w45⟩) w43⟩) w41⟩) w39⟩) w18⟩)⟩) w16⟩) w14⟩) w10⟩)⟩) w8⟩) w6⟩)⟩) w4⟩) w2⟩) w0
def a49 : Ann := (.seq .no (.seq .no (.seq .no (.seq (.seq .no (.cond (.seq .no .no) .no)) (.seq .no (.seq (.seq .no (.cond (.seq .no .no) .no)) (.seq (.seq .no (.cond (.seq .no (.seq .no (.seq (.plan (.take 0 (.take 1 (.take 2 (.take 3 (.take 4 (.take 5 (.take 6 (.take 7 (.alt 8 .done .nil)))))))))) (.seq .no .no)))) .no)) (.seq .no (.seq (.seq .no (.cond (.seq (.plan (.take 0 (.take 1 (.take 2 (.take 3 (.take 4 (.take 5 (.take 6 (.take 7 (.alt 8 .done .nil)))))))))) (.seq .no (.seq .no .no))) .no)) (.seq .no (.seq .no (.seq .no .no))))))))))))
theorem F49_eq (x0 x1 x2 : Value) (R : Value → World → Prop) (w0 : World) : F49 x0 x1 x2 R w0 = vc Tryd.prog (bodyOf Tryd.f49) a49 (retQ Tryd.prog Tryd.f49 R) (envOf 0 [x0, x1, x2]) w0 := by kernel_rfl
theorem F49_calls (x0 x1 x2 : Value) (R : Value → World → Prop) (w0 : World) (h : F49 x0 x1 x2 R w0) : CallK Tryd.prog 49 #[x0, x1, x2] R w0 :=
  calls_vc (c := bodyOf Tryd.f49) Tryd.func49 (by kernel_rfl) (by kernel_rfl) a49 (by kernel_rfl) (by kernel_rfl) [x0, x1, x2] (by rw [Tryd.ntmps49]; exact Nat.le_of_ble_eq_true rfl) w0 R ((F49_eq x0 x1 x2 R w0).mp h)

/-- slices.Delete[[]canton/sorted.pair[string, canton/book.Entry],canton/sorted.pair[string, canton/book.Entry]], its body as a formula. -/
def F50 (x0 x1 x2 : Value) (R : Value → World → Prop) (w0 : World) : Prop :=
  BuiltinK Tryd.prog Go.Builtin.len #[76] 3 #[false] #[x0] (@hid _ ⟨fun t12_1 w2 =>
  SliceK Tryd.prog 76 x0 (some x1) (some x2) (some t12_1) (@hid _ ⟨fun t13_3 w4 =>
  BinK Tryd.prog Go.BinOp.eql 3 x1 x2 (@hid _ ⟨fun t16_5 w6 =>
  BrK t16_5 (@hid _ ⟨
   R x0 w6⟩) (@hid _ ⟨
   BuiltinK Tryd.prog Go.Builtin.len #[76] 3 #[false] #[x0] (@hid _ ⟨fun t19_7 w8 =>
   DrawK (@hid _ ⟨fun S9 w10 =>
   TakeS Tryd.prog S9 (Instr.sliceAt 76 x0 none (some x1) none) (@hid _ ⟨fun t22_11 =>
   TakeS Tryd.prog S9 (Instr.sliceAt 76 x0 (some x2) none none) (@hid _ ⟨fun t25_12 =>
   (BuiltinK Tryd.prog Go.Builtin.append #[76, 76] 76 #[false, false] #[t22_11, t25_12] (@hid _ ⟨fun t26_13 w14 =>
   S9 w14 ∧
   BuiltinK Tryd.prog Go.Builtin.len #[76] 3 #[false] #[t26_13] (@hid _ ⟨fun t29_15 w16 =>
   SliceK Tryd.prog 76 t26_13 (some t29_15) (some t19_7) none (@hid _ ⟨fun t31_17 w18 =>
   BuiltinK Tryd.prog Go.Builtin.clear #[76] 0 #[false] #[t31_17] (@hid _ ⟨fun tu_19 w20 =>
   R t26_13 w20⟩) w18⟩) w16⟩) w14⟩) w10) ∧
   True⟩)⟩)⟩) w8⟩) w6⟩)⟩) w4⟩) w2⟩) w0
def a50 : Ann := (.seq .no (.seq .no (.seq (.seq .no (.cond (.seq .no .no) .no)) (.seq .no (.seq (.plan (.take 0 (.take 1 (.take 2 (.take 3 (.take 4 (.take 5 (.alt 6 (.take 7 .done) .nil)))))))) (.seq .no (.seq .no .no)))))))
theorem F50_eq (x0 x1 x2 : Value) (R : Value → World → Prop) (w0 : World) : F50 x0 x1 x2 R w0 = vc Tryd.prog (bodyOf Tryd.f50) a50 (retQ Tryd.prog Tryd.f50 R) (envOf 0 [x0, x1, x2]) w0 := by kernel_rfl
theorem F50_calls (x0 x1 x2 : Value) (R : Value → World → Prop) (w0 : World) (h : F50 x0 x1 x2 R w0) : CallK Tryd.prog 50 #[x0, x1, x2] R w0 :=
  calls_vc (c := bodyOf Tryd.f50) Tryd.func50 (by kernel_rfl) (by kernel_rfl) a50 (by kernel_rfl) (by kernel_rfl) [x0, x1, x2] (by rw [Tryd.ntmps50]; exact Nat.le_of_ble_eq_true rfl) w0 R ((F50_eq x0 x1 x2 R w0).mp h)

/-- slices.Clone[[]canton/sorted.pair[string, canton/book.Entry],canton/sorted.pair[string, canton/book.Entry]], its body as a formula. -/
def F51 (x0 : Value) (R : Value → World → Prop) (w0 : World) : Prop :=
  BinK Tryd.prog Go.BinOp.eql 76 x0 (Go.Value.slice none 0 0) (@hid _ ⟨fun t4_1 w2 =>
  BrK t4_1 (@hid _ ⟨
   R (Go.Value.slice none 0 0) w2⟩) (@hid _ ⟨
   BuildSliceK Tryd.prog 76 0 #[] (@hid _ ⟨fun t5_3 w4 =>
   BuiltinK Tryd.prog Go.Builtin.append #[76, 76] 76 #[false, false] #[t5_3, x0] (@hid _ ⟨fun t7_5 w6 =>
   R t7_5 w6⟩) w4⟩) w2⟩)⟩) w0
def a51 : Ann := (.seq .no (.seq (.seq .no (.cond (.seq .no .no) .no)) (.seq .no .no)))
theorem F51_eq (x0 : Value) (R : Value → World → Prop) (w0 : World) : F51 x0 R w0 = vc Tryd.prog (bodyOf Tryd.f51) a51 (retQ Tryd.prog Tryd.f51 R) (envOf 0 [x0]) w0 := by kernel_rfl
theorem F51_calls (x0 : Value) (R : Value → World → Prop) (w0 : World) (h : F51 x0 R w0) : CallK Tryd.prog 51 #[x0] R w0 :=
  calls_vc (c := bodyOf Tryd.f51) Tryd.func51 (by kernel_rfl) (by kernel_rfl) a51 (by kernel_rfl) (by kernel_rfl) [x0] (by rw [Tryd.ntmps51]; exact Nat.le_of_ble_eq_true rfl) w0 R ((F51_eq x0 R w0).mp h)

/-- canton/path.Parse, its body as a formula. -/
def F52 (x0 : Value) (R : Value → World → Prop) (w0 : World) : Prop :=
  CallV Tryd.prog (.func (.func 62) #[] #[]) #[x0] (@hid _ ⟨fun t8_1 w2 =>
  ExtractK Tryd.prog t8_1 0 (@hid _ ⟨fun t9_3 w4 =>
  ExtractK Tryd.prog t8_1 1 (@hid _ ⟨fun t10_5 w6 =>
  UnK Tryd.prog Go.UnOp.not t10_5 (@hid _ ⟨fun t13_7 w8 =>
  GuardK t13_7 false (fun k w => k t9_3 w) (@hid _ ⟨fun t15_9 w10 =>
  GuardK t13_7 false (fun k w => CallV Tryd.prog (.func (.func 63) #[] #[]) #[t15_9, (.func (.func 64) #[] #[])] k w) (@hid _ ⟨fun t16_11 w12 =>
  PickK Tryd.prog t13_7 (Go.Value.bool true) t16_11 (@hid _ ⟨fun t17_13 w14 =>
  BrK t17_13 (@hid _ ⟨
   R (.tuple #[(Go.Value.slice none 0 0), (Go.Value.int Go.IntKind.i64 2)]) w14⟩) (@hid _ ⟨
   BuiltinK Tryd.prog Go.Builtin.len #[41] 3 #[false] #[t9_3] (@hid _ ⟨fun t20_15 w16 =>
   BinK Tryd.prog Go.BinOp.gtr 3 t20_15 (Go.Value.int Go.IntKind.i64 4) (@hid _ ⟨fun t21_17 w18 =>
   BrK t21_17 (@hid _ ⟨
    R (.tuple #[(Go.Value.slice none 0 0), (Go.Value.int Go.IntKind.i64 4)]) w18⟩) (@hid _ ⟨
    R (.tuple #[t9_3, (Go.Value.int Go.IntKind.i64 0)]) w18⟩)⟩) w16⟩) w14⟩)⟩) w12⟩) w10⟩) w8⟩) w6⟩) w4⟩) w2⟩) w0
def a52 : Ann := (.seq .no (.seq .no (.seq (.block (.seq .no (.cond (.seq .no .no) (.seq .no (.cond (.seq .no .no) .no))))) (.seq .no .no))))
theorem F52_eq (x0 : Value) (R : Value → World → Prop) (w0 : World) : F52 x0 R w0 = vc Tryd.prog (bodyOf Tryd.f52) a52 (retQ Tryd.prog Tryd.f52 R) (envOf 0 [x0]) w0 := by kernel_rfl
theorem F52_calls (x0 : Value) (R : Value → World → Prop) (w0 : World) (h : F52 x0 R w0) : CallK Tryd.prog 52 #[x0] R w0 :=
  calls_vc (c := bodyOf Tryd.f52) Tryd.func52 (by kernel_rfl) (by kernel_rfl) a52 (by kernel_rfl) (by kernel_rfl) [x0] (by rw [Tryd.ntmps52]; exact Nat.le_of_ble_eq_true rfl) w0 R ((F52_eq x0 R w0).mp h)

/-- canton/path.shared, its body as a formula. -/
def F53 (x0 x1 : Value) (R : Value → World → Prop) (w0 : World) : Prop :=
  LoopK1 (Go.Value.int Go.IntKind.i64 0) w0 (@hid _ ⟨fun _ x5_1 w2 B3 =>
   DrawK (@hid _ ⟨fun S4 w5 =>
   TakeO Tryd.prog S4 (builtin Go.Builtin.len #[41] 3 #[false] #[x0]) (@hid _ ⟨fun t8_6 =>
   TakeO Tryd.prog S4 (builtin Go.Builtin.len #[41] 3 #[false] #[x1]) (@hid _ ⟨fun t10_7 =>
   TakeO Tryd.prog S4 (builtin Go.Builtin.min #[3, 3] 3 #[false, false] #[t8_6, t10_7]) (@hid _ ⟨fun t11_8 =>
   BinT Tryd.prog S4 Go.BinOp.lss 3 x5_1 t11_8 (@hid _ ⟨fun t12_9 =>
   TakeG t12_9 true (fun k => k x0) (@hid _ ⟨fun t14_10 =>
   TakeG t12_9 true (fun k => k x5_1) (@hid _ ⟨fun t15_11 =>
   TakeG t12_9 true (fun k => TakeS Tryd.prog S4 (Instr.indexAt 41 t14_10 t15_11) k) (@hid _ ⟨fun t16_12 =>
   TakeG t12_9 true (fun k => TakeS Tryd.prog S4 (Instr.loadAt 9 t16_12) k) (@hid _ ⟨fun t17_13 =>
   TakeG t12_9 true (fun k => k x1) (@hid _ ⟨fun t18_14 =>
   TakeG t12_9 true (fun k => k x5_1) (@hid _ ⟨fun t19_15 =>
   TakeG t12_9 true (fun k => TakeS Tryd.prog S4 (Instr.indexAt 41 t18_14 t19_15) k) (@hid _ ⟨fun t20_16 =>
   TakeG t12_9 true (fun k => TakeS Tryd.prog S4 (Instr.loadAt 9 t20_16) k) (@hid _ ⟨fun t21_17 =>
   TakeG t12_9 true (fun k => BinT Tryd.prog S4 Go.BinOp.eql 9 t17_13 t21_17 k) (@hid _ ⟨fun t22_18 =>
   PickT t12_9 t22_18 (Go.Value.bool false) (@hid _ ⟨fun t23_19 =>
   BrK t23_19 (@hid _ ⟨
    BinK Tryd.prog Go.BinOp.add 3 x5_1 (Go.Value.int Go.IntKind.i64 1) (@hid _ ⟨fun t25_20 w21 =>
    B3 t25_20 w21⟩) w5⟩) (@hid _ ⟨
    R x5_1 w5⟩)⟩)⟩)⟩)⟩)⟩)⟩)⟩)⟩)⟩)⟩)⟩)⟩)⟩)⟩)⟩) w2⟩)
def a53 : Ann := (.seq .no (.seq .no (.seq (.block (.loop [5] [(6, 25)] (.seq (.seq (.plan (.take 0 (.take 1 (.take 2 (.take 3 (.take 4 (.take 5 (.take 6 (.take 7 (.take 8 (.take 9 (.take 10 (.take 11 (.take 12 (.take 13 (.take 14 (.take 15 (.take 16 (.take 17 .done))))))))))))))))))) (.cond .no .no)) (.block .no)))) (.seq .no .no))))
theorem F53_eq (x0 x1 : Value) (R : Value → World → Prop) (w0 : World) : F53 x0 x1 R w0 = vc Tryd.prog (bodyOf Tryd.f53) a53 (retQ Tryd.prog Tryd.f53 R) (envOf 0 [x0, x1]) w0 := by kernel_rfl
theorem F53_calls (x0 x1 : Value) (R : Value → World → Prop) (w0 : World) (h : F53 x0 x1 R w0) : CallK Tryd.prog 53 #[x0, x1] R w0 :=
  calls_vc (c := bodyOf Tryd.f53) Tryd.func53 (by kernel_rfl) (by kernel_rfl) a53 (by kernel_rfl) (by kernel_rfl) [x0, x1] (by rw [Tryd.ntmps53]; exact Nat.le_of_ble_eq_true rfl) w0 R ((F53_eq x0 x1 R w0).mp h)

/-- canton/cantonref7.Parse, its body as a formula. -/
def F54 (x0 : Value) (R : Value → World → Prop) (w0 : World) : Prop :=
  CallV Tryd.prog (.func (.func 66) #[] #[]) #[x0] (@hid _ ⟨fun t9_1 w2 =>
  ExtractK Tryd.prog t9_1 0 (@hid _ ⟨fun t10_3 w4 =>
  ExtractK Tryd.prog t9_1 1 (@hid _ ⟨fun t11_5 w6 =>
  UnK Tryd.prog Go.UnOp.not t11_5 (@hid _ ⟨fun t13_7 w8 =>
  BrK t13_7 (@hid _ ⟨
   R (.tuple #[(Go.Value.slice none 0 0), (Go.Value.int Go.IntKind.i64 2)]) w8⟩) (@hid _ ⟨
   LoopK1 (Go.Value.int Go.IntKind.i64 0) w8 (@hid _ ⟨fun _ x6_9 w10 B11 =>
    BuiltinK Tryd.prog Go.Builtin.len #[41] 3 #[false] #[t10_3] (@hid _ ⟨fun t16_12 w13 =>
    BinK Tryd.prog Go.BinOp.lss 3 x6_9 t16_12 (@hid _ ⟨fun t17_14 w15 =>
    BrK t17_14 (@hid _ ⟨
     IndexAtK Tryd.prog 41 t10_3 x6_9 (@hid _ ⟨fun t22_16 w17 =>
     LoadK Tryd.prog 9 t22_16 (@hid _ ⟨fun t23_18 w19 =>
     CallV Tryd.prog (.func (.func 67) #[] #[]) #[t23_18] (@hid _ ⟨fun t24_20 w21 =>
     UnK Tryd.prog Go.UnOp.not t24_20 (@hid _ ⟨fun t25_22 w23 =>
     BrK t25_22 (@hid _ ⟨
      R (.tuple #[(Go.Value.slice none 0 0), (Go.Value.int Go.IntKind.i64 2)]) w23⟩) (@hid _ ⟨
      BinK Tryd.prog Go.BinOp.add 3 x6_9 (Go.Value.int Go.IntKind.i64 1) (@hid _ ⟨fun t19_24 w25 =>
      B11 t19_24 w25⟩) w23⟩)⟩) w21⟩) w19⟩) w17⟩) w15⟩) (@hid _ ⟨
     BuiltinK Tryd.prog Go.Builtin.len #[41] 3 #[false] #[t10_3] (@hid _ ⟨fun t27_26 w27 =>
     BinK Tryd.prog Go.BinOp.gtr 3 t27_26 (Go.Value.int Go.IntKind.i64 4) (@hid _ ⟨fun t28_28 w29 =>
     BrK t28_28 (@hid _ ⟨
      R (.tuple #[(Go.Value.slice none 0 0), (Go.Value.int Go.IntKind.i64 4)]) w29⟩) (@hid _ ⟨
      R (.tuple #[t10_3, (Go.Value.int Go.IntKind.i64 0)]) w29⟩)⟩) w27⟩) w15⟩)⟩) w13⟩) w10⟩)⟩)⟩) w6⟩) w4⟩) w2⟩) w0
def a54 : Ann := (.seq .no (.seq .no (.seq (.seq .no (.cond (.seq .no .no) .no)) (.seq (.seq .no (.block (.loop [6] [(2, 3), (14, 25)] (.seq (.seq .no (.cond .no .no)) (.seq (.block (.seq .no (.cond (.seq .no .no) .no))) .no))))) (.seq (.seq .no (.cond (.seq .no .no) .no)) (.seq .no .no))))))
theorem F54_eq (x0 : Value) (R : Value → World → Prop) (w0 : World) : F54 x0 R w0 = vc Tryd.prog (bodyOf Tryd.f54) a54 (retQ Tryd.prog Tryd.f54 R) (envOf 0 [x0]) w0 := by kernel_rfl
theorem F54_calls (x0 : Value) (R : Value → World → Prop) (w0 : World) (h : F54 x0 R w0) : CallK Tryd.prog 54 #[x0] R w0 :=
  calls_vc (c := bodyOf Tryd.f54) Tryd.func54 (by kernel_rfl) (by kernel_rfl) a54 (by kernel_rfl) (by kernel_rfl) [x0] (by rw [Tryd.ntmps54]; exact Nat.le_of_ble_eq_true rfl) w0 R ((F54_eq x0 R w0).mp h)

/-- cmp.isNaN[int64], its body as a formula. -/
def F55 (x0 : Value) (R : Value → World → Prop) (w0 : World) : Prop :=
  BinK Tryd.prog Go.BinOp.neq 2 x0 x0 (@hid _ ⟨fun t5_1 w2 =>
  R t5_1 w2⟩) w0
def a55 : Ann := (.seq .no (.seq .no .no))
theorem F55_eq (x0 : Value) (R : Value → World → Prop) (w0 : World) : F55 x0 R w0 = vc Tryd.prog (bodyOf Tryd.f55) a55 (retQ Tryd.prog Tryd.f55 R) (envOf 0 [x0]) w0 := by kernel_rfl
theorem F55_calls (x0 : Value) (R : Value → World → Prop) (w0 : World) (h : F55 x0 R w0) : CallK Tryd.prog 55 #[x0] R w0 :=
  calls_vc (c := bodyOf Tryd.f55) Tryd.func55 (by kernel_rfl) (by kernel_rfl) a55 (by kernel_rfl) (by kernel_rfl) [x0] (by rw [Tryd.ntmps55]; exact Nat.le_of_ble_eq_true rfl) w0 R ((F55_eq x0 R w0).mp h)

/-- canton/cantonref7.Path, its body as a formula. -/
def F56 (x0 : Value) (R : Value → World → Prop) (w0 : World) : Prop :=
  CallV Tryd.prog (.func (.func 54) #[] #[]) #[x0] (@hid _ ⟨fun t7_1 w2 =>
  ExtractK Tryd.prog t7_1 0 (@hid _ ⟨fun t8_3 w4 =>
  ExtractK Tryd.prog t7_1 1 (@hid _ ⟨fun t9_5 w6 =>
  BinK Tryd.prog Go.BinOp.eql 3 t9_5 (Go.Value.int Go.IntKind.i64 0) (@hid _ ⟨fun t11_7 w8 =>
  R t11_7 w8⟩) w6⟩) w4⟩) w2⟩) w0
def a56 : Ann := (.seq .no (.seq .no (.seq .no .no)))
theorem F56_eq (x0 : Value) (R : Value → World → Prop) (w0 : World) : F56 x0 R w0 = vc Tryd.prog (bodyOf Tryd.f56) a56 (retQ Tryd.prog Tryd.f56 R) (envOf 0 [x0]) w0 := by kernel_rfl
theorem F56_calls (x0 : Value) (R : Value → World → Prop) (w0 : World) (h : F56 x0 R w0) : CallK Tryd.prog 56 #[x0] R w0 :=
  calls_vc (c := bodyOf Tryd.f56) Tryd.func56 (by kernel_rfl) (by kernel_rfl) a56 (by kernel_rfl) (by kernel_rfl) [x0] (by rw [Tryd.ntmps56]; exact Nat.le_of_ble_eq_true rfl) w0 R ((F56_eq x0 R w0).mp h)

/-- slices.BinarySearchFunc[[]canton/sorted.pair[string, canton/book.Entry],canton/sorted.pair[string, canton/book.Entry],string], its body as a formula. -/
def F57 (x0 x1 x2 : Value) (R : Value → World → Prop) (w0 : World) : Prop :=
  BuiltinK Tryd.prog Go.Builtin.len #[76] 3 #[false] #[x0] (@hid _ ⟨fun t13_1 w2 =>
  LoopK2 (Go.Value.int Go.IntKind.i64 0) t13_1 w2 (@hid _ ⟨fun _ x9_3 x10_4 w5 B6 =>
   BinK Tryd.prog Go.BinOp.lss 3 x9_3 x10_4 (@hid _ ⟨fun t17_7 w8 =>
   BrK t17_7 (@hid _ ⟨
    BinK Tryd.prog Go.BinOp.add 3 x9_3 x10_4 (@hid _ ⟨fun t20_9 w10 =>
    ConvK Tryd.prog 3 102 t20_9 (@hid _ ⟨fun t21_11 w12 =>
    BinK Tryd.prog Go.BinOp.shr 102 t21_11 (Go.Value.int Go.IntKind.u64 1) (@hid _ ⟨fun t22_13 w14 =>
    ConvK Tryd.prog 102 3 t22_13 (@hid _ ⟨fun t23_15 w16 =>
    IndexAtK Tryd.prog 76 x0 t23_15 (@hid _ ⟨fun t27_17 w18 =>
    LoadK Tryd.prog 84 t27_17 (@hid _ ⟨fun t28_19 w20 =>
    CallV Tryd.prog x2 #[t28_19, x1] (@hid _ ⟨fun t30_21 w22 =>
    BinK Tryd.prog Go.BinOp.lss 3 t30_21 (Go.Value.int Go.IntKind.i64 0) (@hid _ ⟨fun t31_23 w24 =>
    BrK t31_23 (@hid _ ⟨
     BinK Tryd.prog Go.BinOp.add 3 t23_15 (Go.Value.int Go.IntKind.i64 1) (@hid _ ⟨fun t33_25 w26 =>
     B6 t33_25 x10_4 w26⟩) w24⟩) (@hid _ ⟨
     B6 x9_3 t23_15 w24⟩)⟩) w22⟩) w20⟩) w18⟩) w16⟩) w14⟩) w12⟩) w10⟩) w8⟩) (@hid _ ⟨
    BinK Tryd.prog Go.BinOp.lss 3 x9_3 t13_1 (@hid _ ⟨fun t38_27 w28 =>
    GuardK t38_27 true (fun k w => k x2 w) (@hid _ ⟨fun t40_29 w30 =>
    GuardK t38_27 true (fun k w => k x0 w) (@hid _ ⟨fun t41_31 w32 =>
    GuardK t38_27 true (fun k w => k x9_3 w) (@hid _ ⟨fun t42_33 w34 =>
    GuardK t38_27 true (fun k w => IndexAtK Tryd.prog 76 t41_31 t42_33 k w) (@hid _ ⟨fun t43_35 w36 =>
    GuardK t38_27 true (fun k w => LoadK Tryd.prog 84 t43_35 k w) (@hid _ ⟨fun t44_37 w38 =>
    GuardK t38_27 true (fun k w => k x1 w) (@hid _ ⟨fun t45_39 w40 =>
    GuardK t38_27 true (fun k w => CallV Tryd.prog t40_29 #[t44_37, t45_39] k w) (@hid _ ⟨fun t46_41 w42 =>
    GuardK t38_27 true (fun k w => BinK Tryd.prog Go.BinOp.eql 3 t46_41 (Go.Value.int Go.IntKind.i64 0) k w) (@hid _ ⟨fun t47_43 w44 =>
    PickK Tryd.prog t38_27 t47_43 (Go.Value.bool false) (@hid _ ⟨fun t48_45 w46 =>
    R (.tuple #[x9_3, t48_45]) w46⟩) w44⟩) w42⟩) w40⟩) w38⟩) w36⟩) w34⟩) w32⟩) w30⟩) w28⟩) w8⟩)⟩) w5⟩)⟩) w0
def a57 : Ann := (.seq .no (.seq .no (.seq .no (.seq (.block (.loop [9, 10] [(11, 11), (15, 34)] (.seq (.seq .no (.cond .no .no)) (.block (.seq .no (.seq .no (.cond .no .no))))))) (.seq .no .no)))))
theorem F57_eq (x0 x1 x2 : Value) (R : Value → World → Prop) (w0 : World) : F57 x0 x1 x2 R w0 = vc Tryd.prog (bodyOf Tryd.f57) a57 (retQ Tryd.prog Tryd.f57 R) (envOf 0 [x0, x1, x2]) w0 := by kernel_rfl
theorem F57_calls (x0 x1 x2 : Value) (R : Value → World → Prop) (w0 : World) (h : F57 x0 x1 x2 R w0) : CallK Tryd.prog 57 #[x0, x1, x2] R w0 :=
  calls_vc (c := bodyOf Tryd.f57) Tryd.func57 (by kernel_rfl) (by kernel_rfl) a57 (by kernel_rfl) (by kernel_rfl) [x0, x1, x2] (by rw [Tryd.ntmps57]; exact Nat.le_of_ble_eq_true rfl) w0 R ((F57_eq x0 x1 x2 R w0).mp h)

/-- (*canton/sorted.Map[string, canton/book.Entry]).find$1, its body as a formula. -/
def F58 (x0 x1 : Value) (R : Value → World → Prop) (w0 : World) : Prop :=
  BoxK Tryd.prog 84 x0 (@hid _ ⟨fun t2_1 w2 =>
  FieldAtK Tryd.prog 84 t2_1 0 (@hid _ ⟨fun t5_3 w4 =>
  LoadK Tryd.prog 9 t5_3 (@hid _ ⟨fun t6_5 w6 =>
  CallV Tryd.prog (.func (.func 59) #[] #[]) #[t6_5, x1] (@hid _ ⟨fun t8_7 w8 =>
  R t8_7 w8⟩) w6⟩) w4⟩) w2⟩) w0
def a58 : Ann := (.seq .no (.seq .no .no))
theorem F58_eq (x0 x1 : Value) (R : Value → World → Prop) (w0 : World) : F58 x0 x1 R w0 = vc Tryd.prog (bodyOf Tryd.f58) a58 (retQ Tryd.prog Tryd.f58 R) (envOf 0 [x0, x1]) w0 := by kernel_rfl
theorem F58_calls (x0 x1 : Value) (R : Value → World → Prop) (w0 : World) (h : F58 x0 x1 R w0) : CallK Tryd.prog 58 #[x0, x1] R w0 :=
  calls_vc (c := bodyOf Tryd.f58) Tryd.func58 (by kernel_rfl) (by kernel_rfl) a58 (by kernel_rfl) (by kernel_rfl) [x0, x1] (by rw [Tryd.ntmps58]; exact Nat.le_of_ble_eq_true rfl) w0 R ((F58_eq x0 x1 R w0).mp h)

/-- cmp.Compare[string], its body as a formula. -/
def F59 (x0 x1 : Value) (R : Value → World → Prop) (w0 : World) : Prop :=
  CallV Tryd.prog (.func (.func 68) #[] #[]) #[x0] (@hid _ ⟨fun t8_1 w2 =>
  CallV Tryd.prog (.func (.func 68) #[] #[]) #[x1] (@hid _ ⟨fun t10_3 w4 =>
  BrK t8_1 (@hid _ ⟨
   BrK t10_3 (@hid _ ⟨
    R (Go.Value.int Go.IntKind.i64 0) w4⟩) (@hid _ ⟨
    R (Go.Value.int Go.IntKind.i64 (-1)) w4⟩)⟩) (@hid _ ⟨
   BrK t10_3 (@hid _ ⟨
    R (Go.Value.int Go.IntKind.i64 1) w4⟩) (@hid _ ⟨
    BinK Tryd.prog Go.BinOp.lss 9 x0 x1 (@hid _ ⟨fun t16_5 w6 =>
    BrK t16_5 (@hid _ ⟨
     R (Go.Value.int Go.IntKind.i64 (-1)) w6⟩) (@hid _ ⟨
     BinK Tryd.prog Go.BinOp.gtr 9 x0 x1 (@hid _ ⟨fun t19_7 w8 =>
     BrK t19_7 (@hid _ ⟨
      R (Go.Value.int Go.IntKind.i64 1) w8⟩) (@hid _ ⟨
      R (Go.Value.int Go.IntKind.i64 0) w8⟩)⟩) w6⟩)⟩) w4⟩)⟩)⟩) w2⟩) w0
def a59 : Ann := (.seq .no (.seq .no (.seq .no (.seq (.seq .no (.cond (.seq (.seq .no (.cond (.seq .no .no) .no)) (.seq .no .no)) .no)) (.seq (.seq .no (.cond (.seq .no .no) .no)) (.seq (.seq .no (.cond (.seq .no .no) .no)) (.seq (.seq .no (.cond (.seq .no .no) .no)) (.seq .no .no))))))))
theorem F59_eq (x0 x1 : Value) (R : Value → World → Prop) (w0 : World) : F59 x0 x1 R w0 = vc Tryd.prog (bodyOf Tryd.f59) a59 (retQ Tryd.prog Tryd.f59 R) (envOf 0 [x0, x1]) w0 := by kernel_rfl
theorem F59_calls (x0 x1 : Value) (R : Value → World → Prop) (w0 : World) (h : F59 x0 x1 R w0) : CallK Tryd.prog 59 #[x0, x1] R w0 :=
  calls_vc (c := bodyOf Tryd.f59) Tryd.func59 (by kernel_rfl) (by kernel_rfl) a59 (by kernel_rfl) (by kernel_rfl) [x0, x1] (by rw [Tryd.ntmps59]; exact Nat.le_of_ble_eq_true rfl) w0 R ((F59_eq x0 x1 R w0).mp h)

/-- canton/path.Cut, its body as a formula. -/
def F62 (x0 : Value) (R : Value → World → Prop) (w0 : World) : Prop :=
  CallV Tryd.prog (.func (.func 70) #[] #[]) #[x0, (Go.Value.string { data := #[47] })] (@hid _ ⟨fun t8_1 w2 =>
  ExtractK Tryd.prog t8_1 0 (@hid _ ⟨fun t9_3 w4 =>
  ExtractK Tryd.prog t8_1 1 (@hid _ ⟨fun t10_5 w6 =>
  UnK Tryd.prog Go.UnOp.not t10_5 (@hid _ ⟨fun t12_7 w8 =>
  BrK t12_7 (@hid _ ⟨
   R (.tuple #[(Go.Value.slice none 0 0), (Go.Value.bool false)]) w8⟩) (@hid _ ⟨
   BinK Tryd.prog Go.BinOp.eql 9 t9_3 (Go.Value.string { data := #[] }) (@hid _ ⟨fun t14_9 w10 =>
   BrK t14_9 (@hid _ ⟨
    R (.tuple #[(Go.Value.slice none 0 0), (Go.Value.bool true)]) w10⟩) (@hid _ ⟨
    CallV Tryd.prog (.func (.func 71) #[] #[]) #[t9_3, (Go.Value.string { data := #[47] })] (@hid _ ⟨fun t16_11 w12 =>
    R (.tuple #[t16_11, (Go.Value.bool true)]) w12⟩) w10⟩)⟩) w8⟩)⟩) w6⟩) w4⟩) w2⟩) w0
def a62 : Ann := (.seq .no (.seq .no (.seq (.seq .no (.cond (.seq .no .no) .no)) (.seq (.seq .no (.cond (.seq .no .no) .no)) (.seq .no .no)))))
theorem F62_eq (x0 : Value) (R : Value → World → Prop) (w0 : World) : F62 x0 R w0 = vc Tryd.prog (bodyOf Tryd.f62) a62 (retQ Tryd.prog Tryd.f62 R) (envOf 0 [x0]) w0 := by kernel_rfl
theorem F62_calls (x0 : Value) (R : Value → World → Prop) (w0 : World) (h : F62 x0 R w0) : CallK Tryd.prog 62 #[x0] R w0 :=
  calls_vc (c := bodyOf Tryd.f62) Tryd.func62 (by kernel_rfl) (by kernel_rfl) a62 (by kernel_rfl) (by kernel_rfl) [x0] (by rw [Tryd.ntmps62]; exact Nat.le_of_ble_eq_true rfl) w0 R ((F62_eq x0 R w0).mp h)

/-- slices.ContainsFunc[[]string,string], its body as a formula. -/
def F63 (x0 x1 : Value) (R : Value → World → Prop) (w0 : World) : Prop :=
  CallV Tryd.prog (.func (.func 72) #[] #[]) #[x0, x1] (@hid _ ⟨fun t7_1 w2 =>
  BinK Tryd.prog Go.BinOp.geq 3 t7_1 (Go.Value.int Go.IntKind.i64 0) (@hid _ ⟨fun t8_3 w4 =>
  R t8_3 w4⟩) w2⟩) w0
def a63 : Ann := (.seq .no (.seq .no .no))
theorem F63_eq (x0 x1 : Value) (R : Value → World → Prop) (w0 : World) : F63 x0 x1 R w0 = vc Tryd.prog (bodyOf Tryd.f63) a63 (retQ Tryd.prog Tryd.f63 R) (envOf 0 [x0, x1]) w0 := by kernel_rfl
theorem F63_calls (x0 x1 : Value) (R : Value → World → Prop) (w0 : World) (h : F63 x0 x1 R w0) : CallK Tryd.prog 63 #[x0, x1] R w0 :=
  calls_vc (c := bodyOf Tryd.f63) Tryd.func63 (by kernel_rfl) (by kernel_rfl) a63 (by kernel_rfl) (by kernel_rfl) [x0, x1] (by rw [Tryd.ntmps63]; exact Nat.le_of_ble_eq_true rfl) w0 R ((F63_eq x0 x1 R w0).mp h)

/-- canton/path.Parse$1, its body as a formula. -/
def F64 (x0 : Value) (R : Value → World → Prop) (w0 : World) : Prop :=
  CallV Tryd.prog (.func (.func 65) #[] #[]) #[x0] (@hid _ ⟨fun t4_1 w2 =>
  UnK Tryd.prog Go.UnOp.not t4_1 (@hid _ ⟨fun t5_3 w4 =>
  R t5_3 w4⟩) w2⟩) w0
def a64 : Ann := (.seq .no (.seq .no .no))
theorem F64_eq (x0 : Value) (R : Value → World → Prop) (w0 : World) : F64 x0 R w0 = vc Tryd.prog (bodyOf Tryd.f64) a64 (retQ Tryd.prog Tryd.f64 R) (envOf 0 [x0]) w0 := by kernel_rfl
theorem F64_calls (x0 : Value) (R : Value → World → Prop) (w0 : World) (h : F64 x0 R w0) : CallK Tryd.prog 64 #[x0] R w0 :=
  calls_vc (c := bodyOf Tryd.f64) Tryd.func64 (by kernel_rfl) (by kernel_rfl) a64 (by kernel_rfl) (by kernel_rfl) [x0] (by rw [Tryd.ntmps64]; exact Nat.le_of_ble_eq_true rfl) w0 R ((F64_eq x0 R w0).mp h)

/-- canton/row.Name, its body as a formula. -/
def F65 (x0 : Value) (R : Value → World → Prop) (w0 : World) : Prop :=
  BinK Tryd.prog Go.BinOp.eql 9 x0 (Go.Value.string { data := #[] }) (@hid _ ⟨fun t5_1 w2 =>
  GuardK t5_1 false (fun k w => k x0 w) (@hid _ ⟨fun t7_3 w4 =>
  GuardK t5_1 false (fun k w => BuiltinK Tryd.prog Go.Builtin.len #[9] 3 #[false] #[t7_3] k w) (@hid _ ⟨fun t8_5 w6 =>
  GuardK t5_1 false (fun k w => BinK Tryd.prog Go.BinOp.gtr 3 t8_5 (Go.Value.int Go.IntKind.i64 8) k w) (@hid _ ⟨fun t9_7 w8 =>
  PickK Tryd.prog t5_1 (Go.Value.bool true) t9_7 (@hid _ ⟨fun t10_9 w10 =>
  GuardK t10_9 false (fun k w => k x0 w) (@hid _ ⟨fun t12_11 w12 =>
  GuardK t10_9 false (fun k w => ValK Tryd.prog (Instr.index 9 t12_11 (Go.Value.int Go.IntKind.i64 0)) k w) (@hid _ ⟨fun t13_13 w14 =>
  GuardK t10_9 false (fun k w => BinK Tryd.prog Go.BinOp.lss 5 t13_13 (Go.Value.int Go.IntKind.u8 97) k w) (@hid _ ⟨fun t14_15 w16 =>
  PickK Tryd.prog t10_9 (Go.Value.bool true) t14_15 (@hid _ ⟨fun t15_17 w18 =>
  BrK t15_17 (@hid _ ⟨
   R (Go.Value.bool false) w18⟩) (@hid _ ⟨
   BuiltinK Tryd.prog Go.Builtin.len #[9] 3 #[false] #[x0] (@hid _ ⟨fun t17_19 w20 =>
   LoopK1 (Go.Value.int Go.IntKind.i64 0) w20 (@hid _ ⟨fun _ x18_21 w22 B23 =>
    BinK Tryd.prog Go.BinOp.lss 3 x18_21 t17_19 (@hid _ ⟨fun t19_24 w25 =>
    BrK t19_24 (@hid _ ⟨
     ValK Tryd.prog (Instr.index 9 x0 x18_21) (@hid _ ⟨fun t23_26 w27 =>
     BinK Tryd.prog Go.BinOp.lss 5 t23_26 (Go.Value.int Go.IntKind.u8 97) (@hid _ ⟨fun t24_28 w29 =>
     GuardK t24_28 false (fun k w => k x0 w) (@hid _ ⟨fun t26_30 w31 =>
     GuardK t24_28 false (fun k w => k x18_21 w) (@hid _ ⟨fun t27_32 w33 =>
     GuardK t24_28 false (fun k w => ValK Tryd.prog (Instr.index 9 t26_30 t27_32) k w) (@hid _ ⟨fun t28_34 w35 =>
     GuardK t24_28 false (fun k w => BinK Tryd.prog Go.BinOp.gtr 5 t28_34 (Go.Value.int Go.IntKind.u8 122) k w) (@hid _ ⟨fun t29_36 w37 =>
     PickK Tryd.prog t24_28 (Go.Value.bool true) t29_36 (@hid _ ⟨fun t30_38 w39 =>
     GuardK t30_38 true (fun k w => k x0 w) (@hid _ ⟨fun t32_40 w41 =>
     GuardK t30_38 true (fun k w => k x18_21 w) (@hid _ ⟨fun t33_42 w43 =>
     GuardK t30_38 true (fun k w => ValK Tryd.prog (Instr.index 9 t32_40 t33_42) k w) (@hid _ ⟨fun t34_44 w45 =>
     GuardK t30_38 true (fun k w => BinK Tryd.prog Go.BinOp.lss 5 t34_44 (Go.Value.int Go.IntKind.u8 48) k w) (@hid _ ⟨fun t35_46 w47 =>
     GuardK t30_38 true (fun k w => k t35_46 w) (@hid _ ⟨fun t36_48 w49 =>
     GuardK t36_48 false (fun k w => k x0 w) (@hid _ ⟨fun t37_50 w51 =>
     GuardK t36_48 false (fun k w => k x18_21 w) (@hid _ ⟨fun t38_52 w53 =>
     GuardK t36_48 false (fun k w => ValK Tryd.prog (Instr.index 9 t37_50 t38_52) k w) (@hid _ ⟨fun t39_54 w55 =>
     GuardK t36_48 false (fun k w => BinK Tryd.prog Go.BinOp.gtr 5 t39_54 (Go.Value.int Go.IntKind.u8 57) k w) (@hid _ ⟨fun t40_56 w57 =>
     GuardK t30_38 true (fun k w => PickK Tryd.prog t36_48 (Go.Value.bool true) t40_56 k w) (@hid _ ⟨fun t41_58 w59 =>
     PickK Tryd.prog t30_38 t41_58 (Go.Value.bool false) (@hid _ ⟨fun t42_60 w61 =>
     BrK t42_60 (@hid _ ⟨
      R (Go.Value.bool false) w61⟩) (@hid _ ⟨
      BinK Tryd.prog Go.BinOp.add 3 x18_21 (Go.Value.int Go.IntKind.i64 1) (@hid _ ⟨fun t43_62 w63 =>
      B23 t43_62 w63⟩) w61⟩)⟩) w59⟩) w57⟩) w55⟩) w53⟩) w51⟩) w49⟩) w47⟩) w45⟩) w43⟩) w41⟩) w39⟩) w37⟩) w35⟩) w33⟩) w31⟩) w29⟩) w27⟩) w25⟩) (@hid _ ⟨
     R (Go.Value.bool true) w25⟩)⟩) w22⟩)⟩) w18⟩)⟩) w16⟩) w14⟩) w12⟩) w10⟩) w8⟩) w6⟩) w4⟩) w2⟩) w0
def a65 : Ann := (.seq .no (.seq (.seq .no (.cond (.seq .no .no) .no)) (.seq (.seq .no (.block (.loop [18] [(2, 3), (19, 43)] (.seq .no (.seq (.cond .no .no) (.seq (.block (.seq .no (.seq .no (.cond (.seq .no .no) .no)))) .no)))))) (.seq .no .no))))
theorem F65_eq (x0 : Value) (R : Value → World → Prop) (w0 : World) : F65 x0 R w0 = vc Tryd.prog (bodyOf Tryd.f65) a65 (retQ Tryd.prog Tryd.f65 R) (envOf 0 [x0]) w0 := by kernel_rfl
theorem F65_calls (x0 : Value) (R : Value → World → Prop) (w0 : World) (h : F65 x0 R w0) : CallK Tryd.prog 65 #[x0] R w0 :=
  calls_vc (c := bodyOf Tryd.f65) Tryd.func65 (by kernel_rfl) (by kernel_rfl) a65 (by kernel_rfl) (by kernel_rfl) [x0] (by rw [Tryd.ntmps65]; exact Nat.le_of_ble_eq_true rfl) w0 R ((F65_eq x0 R w0).mp h)

/-- canton/cantonref7.cut, its body as a formula. -/
def F66 (x0 : Value) (R : Value → World → Prop) (w0 : World) : Prop :=
  BinK Tryd.prog Go.BinOp.eql 9 x0 (Go.Value.string { data := #[] }) (@hid _ ⟨fun t7_1 w2 =>
  GuardK t7_1 false (fun k w => k x0 w) (@hid _ ⟨fun t9_3 w4 =>
  GuardK t7_1 false (fun k w => ValK Tryd.prog (Instr.index 9 t9_3 (Go.Value.int Go.IntKind.i64 0)) k w) (@hid _ ⟨fun t10_5 w6 =>
  GuardK t7_1 false (fun k w => BinK Tryd.prog Go.BinOp.neq 5 t10_5 (Go.Value.int Go.IntKind.u8 47) k w) (@hid _ ⟨fun t11_7 w8 =>
  PickK Tryd.prog t7_1 (Go.Value.bool true) t11_7 (@hid _ ⟨fun t12_9 w10 =>
  BrK t12_9 (@hid _ ⟨
   R (.tuple #[(Go.Value.slice none 0 0), (Go.Value.bool false)]) w10⟩) (@hid _ ⟨
   BinK Tryd.prog Go.BinOp.eql 9 x0 (Go.Value.string { data := #[47] }) (@hid _ ⟨fun t14_11 w12 =>
   BrK t14_11 (@hid _ ⟨
    R (.tuple #[(Go.Value.slice none 0 0), (Go.Value.bool true)]) w12⟩) (@hid _ ⟨
    BuildSliceK Tryd.prog 41 1 #[(0, (Go.Value.string { data := #[] }))] (@hid _ ⟨fun t15_13 w14 =>
    LoopK2 t15_13 (Go.Value.int Go.IntKind.i64 1) w14 (@hid _ ⟨fun _ x4_15 x5_16 w17 B18 =>
     BuiltinK Tryd.prog Go.Builtin.len #[9] 3 #[false] #[x0] (@hid _ ⟨fun t18_19 w20 =>
     BinK Tryd.prog Go.BinOp.lss 3 x5_16 t18_19 (@hid _ ⟨fun t19_21 w22 =>
     BrK t19_21 (@hid _ ⟨
      ValK Tryd.prog (Instr.index 9 x0 x5_16) (@hid _ ⟨fun t24_23 w24 =>
      BinK Tryd.prog Go.BinOp.eql 5 t24_23 (Go.Value.int Go.IntKind.u8 47) (@hid _ ⟨fun t25_25 w26 =>
      BrK t25_25 (@hid _ ⟨
       BuildSliceK Tryd.prog 41 1 #[(0, (Go.Value.string { data := #[] }))] (@hid _ ⟨fun t27_27 w28 =>
       BuiltinK Tryd.prog Go.Builtin.append #[41, 41] 41 #[false, false] #[x4_15, t27_27] (@hid _ ⟨fun t28_29 w30 =>
       BinK Tryd.prog Go.BinOp.add 3 x5_16 (Go.Value.int Go.IntKind.i64 1) (@hid _ ⟨fun t21_31 w32 =>
       B18 t28_29 t21_31 w32⟩) w30⟩) w28⟩) w26⟩) (@hid _ ⟨
       DrawK (@hid _ ⟨fun S33 w34 =>
       TakeO Tryd.prog S33 (builtin Go.Builtin.len #[41] 3 #[false] #[x4_15]) (@hid _ ⟨fun t31_35 =>
       BinT Tryd.prog S33 Go.BinOp.sub 3 t31_35 (Go.Value.int Go.IntKind.i64 1) (@hid _ ⟨fun t32_36 =>
       TakeO Tryd.prog S33 (builtin Go.Builtin.len #[41] 3 #[false] #[x4_15]) (@hid _ ⟨fun t35_37 =>
       BinT Tryd.prog S33 Go.BinOp.sub 3 t35_37 (Go.Value.int Go.IntKind.i64 1) (@hid _ ⟨fun t36_38 =>
       TakeS Tryd.prog S33 (Instr.indexAt 41 x4_15 t36_38) (@hid _ ⟨fun t37_39 =>
       BinT Tryd.prog S33 Go.BinOp.add 3 x5_16 (Go.Value.int Go.IntKind.i64 1) (@hid _ ⟨fun t42_40 =>
       TakeS Tryd.prog S33 (Instr.sliceAt 9 x0 (some x5_16) (some t42_40) none) (@hid _ ⟨fun t43_41 =>
       (LoadK Tryd.prog 9 t37_39 (@hid _ ⟨fun t38_42 w43 =>
       S33 w43 ∧
       BinT Tryd.prog S33 Go.BinOp.add 9 t38_42 t43_41 (@hid _ ⟨fun t44_44 =>
       TakeS Tryd.prog S33 (Instr.indexAt 41 x4_15 t32_36) (@hid _ ⟨fun t45_45 =>
       (StoreK Tryd.prog 9 t45_45 t44_44 (@hid _ ⟨fun tu_46 w47 =>
       S33 w47 ∧
       BinK Tryd.prog Go.BinOp.add 3 x5_16 (Go.Value.int Go.IntKind.i64 1) (@hid _ ⟨fun t21_48 w49 =>
       B18 x4_15 t21_48 w49⟩) w47⟩) w43) ∧
       True⟩)⟩)⟩) w34) ∧
       True⟩)⟩)⟩)⟩)⟩)⟩)⟩)⟩) w26⟩)⟩) w24⟩) w22⟩) (@hid _ ⟨
      R (.tuple #[x4_15, (Go.Value.bool true)]) w22⟩)⟩) w20⟩) w17⟩)⟩) w12⟩)⟩) w10⟩)⟩) w8⟩) w6⟩) w4⟩) w2⟩) w0
def a66 : Ann := (.seq .no (.seq (.seq .no (.cond (.seq .no .no) .no)) (.seq (.seq .no (.cond (.seq .no .no) .no)) (.seq .no (.seq (.seq .no (.block (.loop [4, 5] [(16, 45)] (.seq (.seq .no (.cond .no .no)) (.seq (.block (.seq (.seq .no (.cond (.seq .no .no) .no)) (.plan (.take 0 (.take 1 (.take 2 (.take 3 (.take 4 (.take 5 (.take 6 (.take 7 (.take 8 (.take 10 (.take 11 (.take 12 (.take 13 (.take 14 (.alt 9 (.take 15 (.take 16 (.alt 17 .done .nil))) .nil)))))))))))))))))) .no))))) (.seq .no .no))))))
theorem F66_eq (x0 : Value) (R : Value → World → Prop) (w0 : World) : F66 x0 R w0 = vc Tryd.prog (bodyOf Tryd.f66) a66 (retQ Tryd.prog Tryd.f66 R) (envOf 0 [x0]) w0 := by kernel_rfl
theorem F66_calls (x0 : Value) (R : Value → World → Prop) (w0 : World) (h : F66 x0 R w0) : CallK Tryd.prog 66 #[x0] R w0 :=
  calls_vc (c := bodyOf Tryd.f66) Tryd.func66 (by kernel_rfl) (by kernel_rfl) a66 (by kernel_rfl) (by kernel_rfl) [x0] (by rw [Tryd.ntmps66]; exact Nat.le_of_ble_eq_true rfl) w0 R ((F66_eq x0 R w0).mp h)

/-- canton/cantonref7.Name, its body as a formula. -/
def F67 (x0 : Value) (R : Value → World → Prop) (w0 : World) : Prop :=
  BuiltinK Tryd.prog Go.Builtin.len #[9] 3 #[false] #[x0] (@hid _ ⟨fun t5_1 w2 =>
  BinK Tryd.prog Go.BinOp.lss 3 t5_1 (Go.Value.int Go.IntKind.i64 1) (@hid _ ⟨fun t6_3 w4 =>
  GuardK t6_3 false (fun k w => k x0 w) (@hid _ ⟨fun t8_5 w6 =>
  GuardK t6_3 false (fun k w => BuiltinK Tryd.prog Go.Builtin.len #[9] 3 #[false] #[t8_5] k w) (@hid _ ⟨fun t9_7 w8 =>
  GuardK t6_3 false (fun k w => BinK Tryd.prog Go.BinOp.gtr 3 t9_7 (Go.Value.int Go.IntKind.i64 8) k w) (@hid _ ⟨fun t10_9 w10 =>
  PickK Tryd.prog t6_3 (Go.Value.bool true) t10_9 (@hid _ ⟨fun t11_11 w12 =>
  GuardK t11_11 false (fun k w => k x0 w) (@hid _ ⟨fun t13_13 w14 =>
  GuardK t11_11 false (fun k w => ValK Tryd.prog (Instr.index 9 t13_13 (Go.Value.int Go.IntKind.i64 0)) k w) (@hid _ ⟨fun t14_15 w16 =>
  GuardK t11_11 false (fun k w => BinK Tryd.prog Go.BinOp.lss 5 t14_15 (Go.Value.int Go.IntKind.u8 97) k w) (@hid _ ⟨fun t15_17 w18 =>
  PickK Tryd.prog t11_11 (Go.Value.bool true) t15_17 (@hid _ ⟨fun t16_19 w20 =>
  GuardK t16_19 false (fun k w => k x0 w) (@hid _ ⟨fun t18_21 w22 =>
  GuardK t16_19 false (fun k w => ValK Tryd.prog (Instr.index 9 t18_21 (Go.Value.int Go.IntKind.i64 0)) k w) (@hid _ ⟨fun t19_23 w24 =>
  GuardK t16_19 false (fun k w => BinK Tryd.prog Go.BinOp.gtr 5 t19_23 (Go.Value.int Go.IntKind.u8 122) k w) (@hid _ ⟨fun t20_25 w26 =>
  PickK Tryd.prog t16_19 (Go.Value.bool true) t20_25 (@hid _ ⟨fun t21_27 w28 =>
  BrK t21_27 (@hid _ ⟨
   R (Go.Value.bool false) w28⟩) (@hid _ ⟨
   LoopK1 (Go.Value.int Go.IntKind.i64 0) w28 (@hid _ ⟨fun _ x3_29 w30 B31 =>
    BuiltinK Tryd.prog Go.Builtin.len #[9] 3 #[false] #[x0] (@hid _ ⟨fun t24_32 w33 =>
    BinK Tryd.prog Go.BinOp.lss 3 x3_29 t24_32 (@hid _ ⟨fun t25_34 w35 =>
    BrK t25_34 (@hid _ ⟨
     ValK Tryd.prog (Instr.index 9 x0 x3_29) (@hid _ ⟨fun t30_36 w37 =>
     BinK Tryd.prog Go.BinOp.lss 5 t30_36 (Go.Value.int Go.IntKind.u8 97) (@hid _ ⟨fun t31_38 w39 =>
     GuardK t31_38 false (fun k w => k x0 w) (@hid _ ⟨fun t33_40 w41 =>
     GuardK t31_38 false (fun k w => k x3_29 w) (@hid _ ⟨fun t34_42 w43 =>
     GuardK t31_38 false (fun k w => ValK Tryd.prog (Instr.index 9 t33_40 t34_42) k w) (@hid _ ⟨fun t35_44 w45 =>
     GuardK t31_38 false (fun k w => BinK Tryd.prog Go.BinOp.gtr 5 t35_44 (Go.Value.int Go.IntKind.u8 122) k w) (@hid _ ⟨fun t36_46 w47 =>
     PickK Tryd.prog t31_38 (Go.Value.bool true) t36_46 (@hid _ ⟨fun t37_48 w49 =>
     GuardK t37_48 true (fun k w => k x0 w) (@hid _ ⟨fun t39_50 w51 =>
     GuardK t37_48 true (fun k w => k x3_29 w) (@hid _ ⟨fun t40_52 w53 =>
     GuardK t37_48 true (fun k w => ValK Tryd.prog (Instr.index 9 t39_50 t40_52) k w) (@hid _ ⟨fun t41_54 w55 =>
     GuardK t37_48 true (fun k w => BinK Tryd.prog Go.BinOp.lss 5 t41_54 (Go.Value.int Go.IntKind.u8 48) k w) (@hid _ ⟨fun t42_56 w57 =>
     GuardK t37_48 true (fun k w => k t42_56 w) (@hid _ ⟨fun t43_58 w59 =>
     GuardK t43_58 false (fun k w => k x0 w) (@hid _ ⟨fun t44_60 w61 =>
     GuardK t43_58 false (fun k w => k x3_29 w) (@hid _ ⟨fun t45_62 w63 =>
     GuardK t43_58 false (fun k w => ValK Tryd.prog (Instr.index 9 t44_60 t45_62) k w) (@hid _ ⟨fun t46_64 w65 =>
     GuardK t43_58 false (fun k w => BinK Tryd.prog Go.BinOp.gtr 5 t46_64 (Go.Value.int Go.IntKind.u8 57) k w) (@hid _ ⟨fun t47_66 w67 =>
     GuardK t37_48 true (fun k w => PickK Tryd.prog t43_58 (Go.Value.bool true) t47_66 k w) (@hid _ ⟨fun t48_68 w69 =>
     PickK Tryd.prog t37_48 t48_68 (Go.Value.bool false) (@hid _ ⟨fun t49_70 w71 =>
     BrK t49_70 (@hid _ ⟨
      R (Go.Value.bool false) w71⟩) (@hid _ ⟨
      BinK Tryd.prog Go.BinOp.add 3 x3_29 (Go.Value.int Go.IntKind.i64 1) (@hid _ ⟨fun t27_72 w73 =>
      B31 t27_72 w73⟩) w71⟩)⟩) w69⟩) w67⟩) w65⟩) w63⟩) w61⟩) w59⟩) w57⟩) w55⟩) w53⟩) w51⟩) w49⟩) w47⟩) w45⟩) w43⟩) w41⟩) w39⟩) w37⟩) w35⟩) (@hid _ ⟨
     R (Go.Value.bool true) w35⟩)⟩) w33⟩) w30⟩)⟩)⟩) w26⟩) w24⟩) w22⟩) w20⟩) w18⟩) w16⟩) w14⟩) w12⟩) w10⟩) w8⟩) w6⟩) w4⟩) w2⟩) w0
def a67 : Ann := (.seq .no (.seq (.seq .no (.cond (.seq .no .no) .no)) (.seq (.seq .no (.block (.loop [3] [(2, 2), (22, 49)] (.seq (.seq .no (.cond .no .no)) (.seq (.block (.seq .no (.cond (.seq .no .no) .no))) .no))))) (.seq .no .no))))
theorem F67_eq (x0 : Value) (R : Value → World → Prop) (w0 : World) : F67 x0 R w0 = vc Tryd.prog (bodyOf Tryd.f67) a67 (retQ Tryd.prog Tryd.f67 R) (envOf 0 [x0]) w0 := by kernel_rfl
theorem F67_calls (x0 : Value) (R : Value → World → Prop) (w0 : World) (h : F67 x0 R w0) : CallK Tryd.prog 67 #[x0] R w0 :=
  calls_vc (c := bodyOf Tryd.f67) Tryd.func67 (by kernel_rfl) (by kernel_rfl) a67 (by kernel_rfl) (by kernel_rfl) [x0] (by rw [Tryd.ntmps67]; exact Nat.le_of_ble_eq_true rfl) w0 R ((F67_eq x0 R w0).mp h)

/-- cmp.isNaN[string], its body as a formula. -/
def F68 (x0 : Value) (R : Value → World → Prop) (w0 : World) : Prop :=
  BinK Tryd.prog Go.BinOp.neq 9 x0 x0 (@hid _ ⟨fun t5_1 w2 =>
  R t5_1 w2⟩) w0
def a68 : Ann := (.seq .no (.seq .no .no))
theorem F68_eq (x0 : Value) (R : Value → World → Prop) (w0 : World) : F68 x0 R w0 = vc Tryd.prog (bodyOf Tryd.f68) a68 (retQ Tryd.prog Tryd.f68 R) (envOf 0 [x0]) w0 := by kernel_rfl
theorem F68_calls (x0 : Value) (R : Value → World → Prop) (w0 : World) (h : F68 x0 R w0) : CallK Tryd.prog 68 #[x0] R w0 :=
  calls_vc (c := bodyOf Tryd.f68) Tryd.func68 (by kernel_rfl) (by kernel_rfl) a68 (by kernel_rfl) (by kernel_rfl) [x0] (by rw [Tryd.ntmps68]; exact Nat.le_of_ble_eq_true rfl) w0 R ((F68_eq x0 R w0).mp h)

/-- strings.CutPrefix, its body as a formula. -/
def F70 (x0 x1 : Value) (R : Value → World → Prop) (w0 : World) : Prop :=
  CallV Tryd.prog (.func (.func 74) #[] #[]) #[x0, x1] (@hid _ ⟨fun t8_1 w2 =>
  ExtractK Tryd.prog t8_1 0 (@hid _ ⟨fun t9_3 w4 =>
  ExtractK Tryd.prog t8_1 1 (@hid _ ⟨fun t10_5 w6 =>
  R (.tuple #[t9_3, t10_5]) w6⟩) w4⟩) w2⟩) w0
def a70 : Ann := (.seq .no (.seq .no .no))
theorem F70_eq (x0 x1 : Value) (R : Value → World → Prop) (w0 : World) : F70 x0 x1 R w0 = vc Tryd.prog (bodyOf Tryd.f70) a70 (retQ Tryd.prog Tryd.f70 R) (envOf 0 [x0, x1]) w0 := by kernel_rfl
theorem F70_calls (x0 x1 : Value) (R : Value → World → Prop) (w0 : World) (h : F70 x0 x1 R w0) : CallK Tryd.prog 70 #[x0, x1] R w0 :=
  calls_vc (c := bodyOf Tryd.f70) Tryd.func70 (by kernel_rfl) (by kernel_rfl) a70 (by kernel_rfl) (by kernel_rfl) [x0, x1] (by rw [Tryd.ntmps70]; exact Nat.le_of_ble_eq_true rfl) w0 R ((F70_eq x0 x1 R w0).mp h)

/-- slices.IndexFunc[[]string,string], its body as a formula. -/
def F72 (x0 x1 : Value) (R : Value → World → Prop) (w0 : World) : Prop :=
  BuiltinK Tryd.prog Go.Builtin.len #[41] 3 #[false] #[x0] (@hid _ ⟨fun t7_1 w2 =>
  LoopK1 (Go.Value.int Go.IntKind.i64 0) w2 (@hid _ ⟨fun _ x8_3 w4 B5 =>
   BinK Tryd.prog Go.BinOp.lss 3 x8_3 t7_1 (@hid _ ⟨fun t9_6 w7 =>
   BrK t9_6 (@hid _ ⟨
    IndexAtK Tryd.prog 41 x0 x8_3 (@hid _ ⟨fun t14_8 w9 =>
    LoadK Tryd.prog 9 t14_8 (@hid _ ⟨fun t15_10 w11 =>
    CallV Tryd.prog x1 #[t15_10] (@hid _ ⟨fun t16_12 w13 =>
    BrK t16_12 (@hid _ ⟨
     R x8_3 w13⟩) (@hid _ ⟨
     BinK Tryd.prog Go.BinOp.add 3 x8_3 (Go.Value.int Go.IntKind.i64 1) (@hid _ ⟨fun t18_14 w15 =>
     B5 t18_14 w15⟩) w13⟩)⟩) w11⟩) w9⟩) w7⟩) (@hid _ ⟨
    R (Go.Value.int Go.IntKind.i64 (-1)) w7⟩)⟩) w4⟩)⟩) w0
def a72 : Ann := (.seq .no (.seq (.seq .no (.block (.loop [8] [(4, 5), (9, 18)] (.seq .no (.seq (.cond .no .no) (.seq (.block (.seq .no (.seq .no (.cond (.seq .no .no) .no)))) .no)))))) (.seq .no .no)))
theorem F72_eq (x0 x1 : Value) (R : Value → World → Prop) (w0 : World) : F72 x0 x1 R w0 = vc Tryd.prog (bodyOf Tryd.f72) a72 (retQ Tryd.prog Tryd.f72 R) (envOf 0 [x0, x1]) w0 := by kernel_rfl
theorem F72_calls (x0 x1 : Value) (R : Value → World → Prop) (w0 : World) (h : F72 x0 x1 R w0) : CallK Tryd.prog 72 #[x0, x1] R w0 :=
  calls_vc (c := bodyOf Tryd.f72) Tryd.func72 (by kernel_rfl) (by kernel_rfl) a72 (by kernel_rfl) (by kernel_rfl) [x0, x1] (by rw [Tryd.ntmps72]; exact Nat.le_of_ble_eq_true rfl) w0 R ((F72_eq x0 x1 R w0).mp h)

/-- internal/stringslite.CutPrefix, its body as a formula. -/
def F74 (x0 x1 : Value) (R : Value → World → Prop) (w0 : World) : Prop :=
  CallV Tryd.prog (.func (.func 76) #[] #[]) #[x0, x1] (@hid _ ⟨fun t8_1 w2 =>
  UnK Tryd.prog Go.UnOp.not t8_1 (@hid _ ⟨fun t9_3 w4 =>
  BrK t9_3 (@hid _ ⟨
   R (.tuple #[x0, (Go.Value.bool false)]) w4⟩) (@hid _ ⟨
   BuiltinK Tryd.prog Go.Builtin.len #[9] 3 #[false] #[x1] (@hid _ ⟨fun t13_5 w6 =>
   SliceK Tryd.prog 9 x0 (some t13_5) none none (@hid _ ⟨fun t14_7 w8 =>
   R (.tuple #[t14_7, (Go.Value.bool true)]) w8⟩) w6⟩) w4⟩)⟩) w2⟩) w0
def a74 : Ann := (.seq .no (.seq (.seq .no (.cond (.seq .no .no) .no)) (.seq .no .no)))
theorem F74_eq (x0 x1 : Value) (R : Value → World → Prop) (w0 : World) : F74 x0 x1 R w0 = vc Tryd.prog (bodyOf Tryd.f74) a74 (retQ Tryd.prog Tryd.f74 R) (envOf 0 [x0, x1]) w0 := by kernel_rfl
theorem F74_calls (x0 x1 : Value) (R : Value → World → Prop) (w0 : World) (h : F74 x0 x1 R w0) : CallK Tryd.prog 74 #[x0, x1] R w0 :=
  calls_vc (c := bodyOf Tryd.f74) Tryd.func74 (by kernel_rfl) (by kernel_rfl) a74 (by kernel_rfl) (by kernel_rfl) [x0, x1] (by rw [Tryd.ntmps74]; exact Nat.le_of_ble_eq_true rfl) w0 R ((F74_eq x0 x1 R w0).mp h)

/-- internal/stringslite.HasPrefix, its body as a formula. -/
def F76 (x0 x1 : Value) (R : Value → World → Prop) (w0 : World) : Prop :=
  BuiltinK Tryd.prog Go.Builtin.len #[9] 3 #[false] #[x0] (@hid _ ⟨fun t6_1 w2 =>
  BuiltinK Tryd.prog Go.Builtin.len #[9] 3 #[false] #[x1] (@hid _ ⟨fun t8_3 w4 =>
  BinK Tryd.prog Go.BinOp.geq 3 t6_1 t8_3 (@hid _ ⟨fun t9_5 w6 =>
  GuardK t9_5 true (fun k w => k x0 w) (@hid _ ⟨fun t11_7 w8 =>
  GuardK t9_5 true (fun k w => k x1 w) (@hid _ ⟨fun t12_9 w10 =>
  GuardK t9_5 true (fun k w => BuiltinK Tryd.prog Go.Builtin.len #[9] 3 #[false] #[t12_9] k w) (@hid _ ⟨fun t13_11 w12 =>
  GuardK t9_5 true (fun k w => SliceK Tryd.prog 9 t11_7 none (some t13_11) none k w) (@hid _ ⟨fun t14_13 w14 =>
  GuardK t9_5 true (fun k w => k x1 w) (@hid _ ⟨fun t15_15 w16 =>
  GuardK t9_5 true (fun k w => BinK Tryd.prog Go.BinOp.eql 9 t14_13 t15_15 k w) (@hid _ ⟨fun t16_17 w18 =>
  PickK Tryd.prog t9_5 t16_17 (Go.Value.bool false) (@hid _ ⟨fun t17_19 w20 =>
  R t17_19 w20⟩) w18⟩) w16⟩) w14⟩) w12⟩) w10⟩) w8⟩) w6⟩) w4⟩) w2⟩) w0
def a76 : Ann := (.seq .no (.seq .no .no))
theorem F76_eq (x0 x1 : Value) (R : Value → World → Prop) (w0 : World) : F76 x0 x1 R w0 = vc Tryd.prog (bodyOf Tryd.f76) a76 (retQ Tryd.prog Tryd.f76 R) (envOf 0 [x0, x1]) w0 := by kernel_rfl
theorem F76_calls (x0 x1 : Value) (R : Value → World → Prop) (w0 : World) (h : F76 x0 x1 R w0) : CallK Tryd.prog 76 #[x0, x1] R w0 :=
  calls_vc (c := bodyOf Tryd.f76) Tryd.func76 (by kernel_rfl) (by kernel_rfl) a76 (by kernel_rfl) (by kernel_rfl) [x0, x1] (by rw [Tryd.ntmps76]; exact Nat.le_of_ble_eq_true rfl) w0 R ((F76_eq x0 x1 R w0).mp h)

end Go.Proofs.YtbkficgmjgbbeaaDoor