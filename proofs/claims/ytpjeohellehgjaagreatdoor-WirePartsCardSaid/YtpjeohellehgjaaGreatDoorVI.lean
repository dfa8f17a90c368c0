import Derived.Test.YtpjeohellehgjaaGreatDoorRows
import Derived.Test.YtpjeohellehgjaaGreatDoorV6
set_option linter.unusedVariables false
set_option linter.unusedSimpArgs false
set_option maxRecDepth 100000
namespace Go.Proofs.YtpjeohellehgjaaGreatDoor
open Go.RowKit Go.Cn
theorem kbx26 (v_0 : ByteArray) (v_1_0 : Int) (v_1_1 : Int) (v_1_2 : Int) (v_1_3 : ByteArray) (v_2A : Option Addr) (v_2n v_2c : Nat) (K : Value → World → Prop) (w : World) : BoxK Tryz.prog 26 (.agg #[(.string v_0), (.int .i64 v_1_0), (.int .i64 v_1_1), (.int .i64 v_1_2), (.string v_1_3), (.slice v_2A v_2n v_2c)]) K w = K (.pointer (some ⟨w.heap.size, 0, none⟩)) (w.alloc (.cells #[(.string v_0), (.int .i64 v_1_0), (.int .i64 v_1_1), (.int .i64 v_1_2), (.string v_1_3), (.slice v_2A v_2n v_2c)] 26)) := by
  unfold BoxK; (first | (go_simp; rfl) | (go_simp; done))

theorem kld26 (g o : Nat) (K : Value → World → Prop) (w : World) : LoadK Tryz.prog 26 (.pointer (some ⟨g, o, none⟩)) K w = OptK (w.cell? ⟨g, o, none⟩) (@hid _ ⟨fun v0 => OptK (w.cell? ⟨g, o + 1, none⟩) (@hid _ ⟨fun v1 => OptK (w.cell? ⟨g, o + 2, none⟩) (@hid _ ⟨fun v2 => OptK (w.cell? ⟨g, o + 3, none⟩) (@hid _ ⟨fun v3 => OptK (w.cell? ⟨g, o + 4, none⟩) (@hid _ ⟨fun v4 => OptK (w.cell? ⟨g, o + 5, none⟩) (@hid _ ⟨fun v5 => K (.agg #[v0, v1, v2, v3, v4, v5]) w⟩) (LoadRaw Tryz.prog 26 ⟨g, o, none⟩ K w)⟩) (LoadRaw Tryz.prog 26 ⟨g, o, none⟩ K w)⟩) (LoadRaw Tryz.prog 26 ⟨g, o, none⟩ K w)⟩) (LoadRaw Tryz.prog 26 ⟨g, o, none⟩ K w)⟩) (LoadRaw Tryz.prog 26 ⟨g, o, none⟩ K w)⟩) (LoadRaw Tryz.prog 26 ⟨g, o, none⟩ K w) := by
  cases h0 : w.cell? ⟨g, o, none⟩ with
  | none => rfl
  | some v0 =>
  cases h1 : w.cell? ⟨g, o + 1, none⟩ with
  | none => rfl
  | some v1 =>
  cases h2 : w.cell? ⟨g, o + 2, none⟩ with
  | none => rfl
  | some v2 =>
  cases h3 : w.cell? ⟨g, o + 3, none⟩ with
  | none => rfl
  | some v3 =>
  cases h4 : w.cell? ⟨g, o + 4, none⟩ with
  | none => rfl
  | some v4 =>
  cases h5 : w.cell? ⟨g, o + 5, none⟩ with
  | none => rfl
  | some v5 =>
  simp only [optK_some]
  unfold LoadK; (first | (go_simp; rfl) | (go_simp; done))

theorem kbneq3 (x y : Int) (K : Value → World → Prop) (w : World) : BinK Tryz.prog .neq 3 (.int .i64 x) (.int .i64 y) K w = K (.bool (x != y)) w := by
  unfold BinK; (first | (go_simp; rfl) | (go_simp; done))

theorem kbneq9 (x y : ByteArray) (K : Value → World → Prop) (w : World) : BinK Tryz.prog .neq 9 (.string x) (.string y) K w = K (.bool (!(x.toList == y.toList))) w := by
  unfold BinK; (first | (go_simp; rfl) | (go_simp; done))

theorem kal26 (K : Value → World → Prop) (w : World) : AllocK Tryz.prog 26 K w = K (.pointer (some ⟨w.heap.size, 0, none⟩)) (w.alloc (.cells #[.string ByteArray.empty, .int .i64 0, .int .i64 0, .int .i64 0, .string ByteArray.empty, .slice none 0 0] 26)) := by
  unfold AllocK; (first | (go_simp; rfl) | (go_simp; done))

theorem kst26f (v_0 : ByteArray) (v_1_0 : Int) (v_1_1 : Int) (v_1_2 : Int) (v_1_3 : ByteArray) (v_2A : Option Addr) (v_2n v_2c : Nat) (z0 z1 z2 z3 z4 z5 : Value) (K : Value → World → Prop) (w : World) : StoreK Tryz.prog 26 (.pointer (some ⟨w.heap.size, 0, none⟩)) (.agg #[(.string v_0), (.int .i64 v_1_0), (.int .i64 v_1_1), (.int .i64 v_1_2), (.string v_1_3), (.slice v_2A v_2n v_2c)]) K (w.alloc (.cells #[z0, z1, z2, z3, z4, z5] 26)) = K undef (w.alloc (.cells #[(.string v_0), (.int .i64 v_1_0), (.int .i64 v_1_1), (.int .i64 v_1_2), (.string v_1_3), (.slice v_2A v_2n v_2c)] 26)) := by
  unfold StoreK; (first | (go_simp; rfl) | (go_simp; done))

theorem kbeql3 (x y : Int) (K : Value → World → Prop) (w : World) : BinK Tryz.prog .eql 3 (.int .i64 x) (.int .i64 y) K w = K (.bool (x == y)) w := by
  unfold BinK; (first | (go_simp; rfl) | (go_simp; done))

theorem klen29 (A : Option Addr) (n c : Nat) (K : Value → World → Prop) (w : World) : BuiltinK Tryz.prog .len #[29] 3 #[false] #[(.slice A n c)] K w = K (.int .i64 (n : Int)) w := by
  unfold BuiltinK; (first | (go_simp; rfl) | (go_simp; done))

theorem hlen29 (A : Option Addr) (n c : Nat) {K : Value → Prop} {w1 : World} : TakeO Tryz.prog (fun w' => w' = w1) (builtin .len #[29] 3 #[false] #[(.slice A n c)]) K = K (.int .i64 (n : Int)) := by
  exact here_o (fun w => by (first | (go_simp; rfl) | (go_simp; done)))

theorem kbgtr3 (x y : Int) (K : Value → World → Prop) (w : World) : BinK Tryz.prog .gtr 3 (.int .i64 x) (.int .i64 y) K w = K (.bool (decide (y < x))) w := by
  unfold BinK; (first | (go_simp; rfl) | (go_simp; done))

theorem kbs53_2_0_1 (v0A : Option Addr) (v0n v0c : Nat) (v1A : Option Addr) (v1n v1c : Nat) (K : Value → World → Prop) (w : World) : BuildSliceK Tryz.prog 53 2 #[(0, (.slice v0A v0n v0c)), (1, (.slice v1A v1n v1c))] K w = K (.slice (some ⟨w.heap.size, 0, none⟩) 2 2) (w.alloc (.cells #[(.slice v0A v0n v0c), (.slice v1A v1n v1c)] 29)) := by
  unfold BuildSliceK; (first | (go_simp; rfl) | (go_simp; done))

theorem kblss3 (x y : Int) (K : Value → World → Prop) (w : World) : BinK Tryz.prog .lss 3 (.int .i64 x) (.int .i64 y) K w = K (.bool (decide (x < y))) w := by
  unfold BinK; (first | (go_simp; rfl) | (go_simp; done))

theorem kia53 (g o n c : Nat) (i : Int) (h : 0 ≤ i ∧ i < (n : Int)) (K : Value → World → Prop) (w : World) : IndexAtK Tryz.prog 53 (.slice (some ⟨g, o, none⟩) n c) (.int .i64 i) K w = K (.pointer (some ⟨g, o + i.toNat, none⟩)) w := by
  obtain ⟨h0, h1⟩ := h
  unfold IndexAtK; (first | (go_simp; rfl) | (go_simp; done))

theorem kld29 (a : Addr) (K : Value → World → Prop) (w : World) : LoadK Tryz.prog 29 (.pointer (some a)) K w = OptK (w.cell? a) (@hid _ ⟨fun v => K v w⟩) (LoadRaw Tryz.prog 29 a K w) := by
  exact loadK_eq Tryz.underlying29 rfl a K w

theorem kal38 (K : Value → World → Prop) (w : World) : AllocK Tryz.prog 38 K w = K (.pointer (some ⟨w.heap.size, 0, none⟩)) (w.alloc (.cells #[.string ByteArray.empty, .int .i64 0, .int .i64 0, .int .i64 0, .string ByteArray.empty, .slice none 0 0] 38)) := by
  unfold AllocK; (first | (go_simp; rfl) | (go_simp; done))

theorem kst38f (v_0 : ByteArray) (v_1_0 : Int) (v_1_1 : Int) (v_1_2 : Int) (v_1_3 : ByteArray) (v_2A : Option Addr) (v_2n v_2c : Nat) (z0 z1 z2 z3 z4 z5 : Value) (K : Value → World → Prop) (w : World) : StoreK Tryz.prog 38 (.pointer (some ⟨w.heap.size, 0, none⟩)) (.agg #[(.string v_0), (.int .i64 v_1_0), (.int .i64 v_1_1), (.int .i64 v_1_2), (.string v_1_3), (.slice v_2A v_2n v_2c)]) K (w.alloc (.cells #[z0, z1, z2, z3, z4, z5] 38)) = K undef (w.alloc (.cells #[(.string v_0), (.int .i64 v_1_0), (.int .i64 v_1_1), (.int .i64 v_1_2), (.string v_1_3), (.slice v_2A v_2n v_2c)] 38)) := by
  unfold StoreK; (first | (go_simp; rfl) | (go_simp; done))

theorem kld38 (g o : Nat) (K : Value → World → Prop) (w : World) : LoadK Tryz.prog 38 (.pointer (some ⟨g, o, none⟩)) K w = OptK (w.cell? ⟨g, o, none⟩) (@hid _ ⟨fun v0 => OptK (w.cell? ⟨g, o + 1, none⟩) (@hid _ ⟨fun v1 => OptK (w.cell? ⟨g, o + 2, none⟩) (@hid _ ⟨fun v2 => OptK (w.cell? ⟨g, o + 3, none⟩) (@hid _ ⟨fun v3 => OptK (w.cell? ⟨g, o + 4, none⟩) (@hid _ ⟨fun v4 => OptK (w.cell? ⟨g, o + 5, none⟩) (@hid _ ⟨fun v5 => K (.agg #[v0, v1, v2, v3, v4, v5]) w⟩) (LoadRaw Tryz.prog 38 ⟨g, o, none⟩ K w)⟩) (LoadRaw Tryz.prog 38 ⟨g, o, none⟩ K w)⟩) (LoadRaw Tryz.prog 38 ⟨g, o, none⟩ K w)⟩) (LoadRaw Tryz.prog 38 ⟨g, o, none⟩ K w)⟩) (LoadRaw Tryz.prog 38 ⟨g, o, none⟩ K w)⟩) (LoadRaw Tryz.prog 38 ⟨g, o, none⟩ K w) := by
  cases h0 : w.cell? ⟨g, o, none⟩ with
  | none => rfl
  | some v0 =>
  cases h1 : w.cell? ⟨g, o + 1, none⟩ with
  | none => rfl
  | some v1 =>
  cases h2 : w.cell? ⟨g, o + 2, none⟩ with
  | none => rfl
  | some v2 =>
  cases h3 : w.cell? ⟨g, o + 3, none⟩ with
  | none => rfl
  | some v3 =>
  cases h4 : w.cell? ⟨g, o + 4, none⟩ with
  | none => rfl
  | some v4 =>
  cases h5 : w.cell? ⟨g, o + 5, none⟩ with
  | none => rfl
  | some v5 =>
  simp only [optK_some]
  unfold LoadK; (first | (go_simp; rfl) | (go_simp; done))

theorem kbadd3 (x y : Int) (K : Value → World → Prop) (w : World) : BinK Tryz.prog .add 3 (.int .i64 x) (.int .i64 y) K w = K (.int .i64 (IntKind.i64.wrap (x + y))) w := by
  unfold BinK; (first | (go_simp; rfl) | (go_simp; done))

theorem kbx61 (v_0 : Int) (v_1 : Int) (v_2 : ByteArray) (v_3A : Option Addr) (v_3n v_3c : Nat) (K : Value → World → Prop) (w : World) : BoxK Tryz.prog 61 (.agg #[(.int .i64 v_0), (.int .i64 v_1), (.string v_2), (.slice v_3A v_3n v_3c)]) K w = K (.pointer (some ⟨w.heap.size, 0, none⟩)) (w.alloc (.cells #[(.int .i64 v_0), (.int .i64 v_1), (.string v_2), (.slice v_3A v_3n v_3c)] 61)) := by
  unfold BoxK; (first | (go_simp; rfl) | (go_simp; done))

theorem kbx23 (v_0 : Int) (v_1 : Int) (v_2 : Int) (v_3 : ByteArray) (K : Value → World → Prop) (w : World) : BoxK Tryz.prog 23 (.agg #[(.int .i64 v_0), (.int .i64 v_1), (.int .i64 v_2), (.string v_3)]) K w = K (.pointer (some ⟨w.heap.size, 0, none⟩)) (w.alloc (.cells #[(.int .i64 v_0), (.int .i64 v_1), (.int .i64 v_2), (.string v_3)] 23)) := by
  unfold BoxK; (first | (go_simp; rfl) | (go_simp; done))

theorem kld61 (g o : Nat) (K : Value → World → Prop) (w : World) : LoadK Tryz.prog 61 (.pointer (some ⟨g, o, none⟩)) K w = OptK (w.cell? ⟨g, o, none⟩) (@hid _ ⟨fun v0 => OptK (w.cell? ⟨g, o + 1, none⟩) (@hid _ ⟨fun v1 => OptK (w.cell? ⟨g, o + 2, none⟩) (@hid _ ⟨fun v2 => OptK (w.cell? ⟨g, o + 3, none⟩) (@hid _ ⟨fun v3 => K (.agg #[v0, v1, v2, v3]) w⟩) (LoadRaw Tryz.prog 61 ⟨g, o, none⟩ K w)⟩) (LoadRaw Tryz.prog 61 ⟨g, o, none⟩ K w)⟩) (LoadRaw Tryz.prog 61 ⟨g, o, none⟩ K w)⟩) (LoadRaw Tryz.prog 61 ⟨g, o, none⟩ K w) := by
  cases h0 : w.cell? ⟨g, o, none⟩ with
  | none => rfl
  | some v0 =>
  cases h1 : w.cell? ⟨g, o + 1, none⟩ with
  | none => rfl
  | some v1 =>
  cases h2 : w.cell? ⟨g, o + 2, none⟩ with
  | none => rfl
  | some v2 =>
  cases h3 : w.cell? ⟨g, o + 3, none⟩ with
  | none => rfl
  | some v3 =>
  simp only [optK_some]
  unfold LoadK; (first | (go_simp; rfl) | (go_simp; done))

theorem kfa61_3 (g o : Nat) (K : Value → World → Prop) (w : World) : FieldAtK Tryz.prog 61 (.pointer (some ⟨g, o, none⟩)) 3 K w = K (.pointer (some ⟨g, o + 3, none⟩)) w := by
  unfold FieldAtK; (first | (go_simp; rfl) | (go_simp; done))

theorem kld59 (a : Addr) (K : Value → World → Prop) (w : World) : LoadK Tryz.prog 59 (.pointer (some a)) K w = OptK (w.cell? a) (@hid _ ⟨fun v => K v w⟩) (LoadRaw Tryz.prog 59 a K w) := by
  exact loadK_eq Tryz.underlying59 rfl a K w

theorem klen59 (A : Option Addr) (n c : Nat) (K : Value → World → Prop) (w : World) : BuiltinK Tryz.prog .len #[59] 3 #[false] #[(.slice A n c)] K w = K (.int .i64 (n : Int)) w := by
  unfold BuiltinK; (first | (go_simp; rfl) | (go_simp; done))

theorem hlen59 (A : Option Addr) (n c : Nat) {K : Value → Prop} {w1 : World} : TakeO Tryz.prog (fun w' => w' = w1) (builtin .len #[59] 3 #[false] #[(.slice A n c)]) K = K (.int .i64 (n : Int)) := by
  exact here_o (fun w => by (first | (go_simp; rfl) | (go_simp; done)))

theorem kfa23_3 (g o : Nat) (K : Value → World → Prop) (w : World) : FieldAtK Tryz.prog 23 (.pointer (some ⟨g, o, none⟩)) 3 K w = K (.pointer (some ⟨g, o + 3, none⟩)) w := by
  unfold FieldAtK; (first | (go_simp; rfl) | (go_simp; done))

theorem kld9 (a : Addr) (K : Value → World → Prop) (w : World) : LoadK Tryz.prog 9 (.pointer (some a)) K w = OptK (w.cell? a) (@hid _ ⟨fun v => K v w⟩) (LoadRaw Tryz.prog 9 a K w) := by
  exact loadK_eq Tryz.underlying9 rfl a K w

theorem klen9 (s : ByteArray) (K : Value → World → Prop) (w : World) : BuiltinK Tryz.prog .len #[9] 3 #[false] #[(.string s)] K w = K (.int .i64 (s.size : Int)) w := by
  unfold BuiltinK; (first | (go_simp; rfl) | (go_simp; done))

theorem hlen9 (s : ByteArray) {K : Value → Prop} {w1 : World} : TakeO Tryz.prog (fun w' => w' = w1) (builtin .len #[9] 3 #[false] #[(.string s)]) K = K (.int .i64 (s.size : Int)) := by
  exact here_o (fun w => by (first | (go_simp; rfl) | (go_simp; done)))

theorem kfa26_2 (g o : Nat) (K : Value → World → Prop) (w : World) : FieldAtK Tryz.prog 26 (.pointer (some ⟨g, o, none⟩)) 2 K w = K (.pointer (some ⟨g, o + 5, none⟩)) w := by
  unfold FieldAtK; (first | (go_simp; rfl) | (go_simp; done))

theorem kld24 (a : Addr) (K : Value → World → Prop) (w : World) : LoadK Tryz.prog 24 (.pointer (some a)) K w = OptK (w.cell? a) (@hid _ ⟨fun v => K v w⟩) (LoadRaw Tryz.prog 24 a K w) := by
  exact loadK_eq Tryz.underlying24 rfl a K w

theorem klen24 (A : Option Addr) (n c : Nat) (K : Value → World → Prop) (w : World) : BuiltinK Tryz.prog .len #[24] 3 #[false] #[(.slice A n c)] K w = K (.int .i64 (n : Int)) w := by
  unfold BuiltinK; (first | (go_simp; rfl) | (go_simp; done))

theorem hlen24 (A : Option Addr) (n c : Nat) {K : Value → Prop} {w1 : World} : TakeO Tryz.prog (fun w' => w' = w1) (builtin .len #[24] 3 #[false] #[(.slice A n c)]) K = K (.int .i64 (n : Int)) := by
  exact here_o (fun w => by (first | (go_simp; rfl) | (go_simp; done)))

theorem kia24 (g o n c : Nat) (i : Int) (h : 0 ≤ i ∧ i < (n : Int)) (K : Value → World → Prop) (w : World) : IndexAtK Tryz.prog 24 (.slice (some ⟨g, o, none⟩) n c) (.int .i64 i) K w = K (.pointer (some ⟨g, o + i.toNat * 5, none⟩)) w := by
  obtain ⟨h0, h1⟩ := h
  unfold IndexAtK; (first | (go_simp; rfl) | (go_simp; done))

theorem kfa64_1 (g o : Nat) (K : Value → World → Prop) (w : World) : FieldAtK Tryz.prog 64 (.pointer (some ⟨g, o, none⟩)) 1 K w = K (.pointer (some ⟨g, o + 1, none⟩)) w := by
  unfold FieldAtK; (first | (go_simp; rfl) | (go_simp; done))

theorem kbd67_  (K : Value → World → Prop) (w : World) : BuildK Tryz.prog 67 #[] K w = K (.agg #[.slice none 0 0]) w := by
  unfold BuildK; (first | (go_simp; rfl) | (go_simp; done))

theorem kbx67 (v_0A : Option Addr) (v_0n v_0c : Nat) (K : Value → World → Prop) (w : World) : BoxK Tryz.prog 67 (.agg #[(.slice v_0A v_0n v_0c)]) K w = K (.pointer (some ⟨w.heap.size, 0, none⟩)) (w.alloc (.cells #[(.slice v_0A v_0n v_0c)] 67)) := by
  unfold BoxK; (first | (go_simp; rfl) | (go_simp; done))

theorem kld23 (g o : Nat) (K : Value → World → Prop) (w : World) : LoadK Tryz.prog 23 (.pointer (some ⟨g, o, none⟩)) K w = OptK (w.cell? ⟨g, o, none⟩) (@hid _ ⟨fun v0 => OptK (w.cell? ⟨g, o + 1, none⟩) (@hid _ ⟨fun v1 => OptK (w.cell? ⟨g, o + 2, none⟩) (@hid _ ⟨fun v2 => OptK (w.cell? ⟨g, o + 3, none⟩) (@hid _ ⟨fun v3 => K (.agg #[v0, v1, v2, v3]) w⟩) (LoadRaw Tryz.prog 23 ⟨g, o, none⟩ K w)⟩) (LoadRaw Tryz.prog 23 ⟨g, o, none⟩ K w)⟩) (LoadRaw Tryz.prog 23 ⟨g, o, none⟩ K w)⟩) (LoadRaw Tryz.prog 23 ⟨g, o, none⟩ K w) := by
  cases h0 : w.cell? ⟨g, o, none⟩ with
  | none => rfl
  | some v0 =>
  cases h1 : w.cell? ⟨g, o + 1, none⟩ with
  | none => rfl
  | some v1 =>
  cases h2 : w.cell? ⟨g, o + 2, none⟩ with
  | none => rfl
  | some v2 =>
  cases h3 : w.cell? ⟨g, o + 3, none⟩ with
  | none => rfl
  | some v3 =>
  simp only [optK_some]
  unfold LoadK; (first | (go_simp; rfl) | (go_simp; done))

theorem kal61 (K : Value → World → Prop) (w : World) : AllocK Tryz.prog 61 K w = K (.pointer (some ⟨w.heap.size, 0, none⟩)) (w.alloc (.cells #[.int .i64 0, .int .i64 0, .string ByteArray.empty, .slice none 0 0] 61)) := by
  unfold AllocK; (first | (go_simp; rfl) | (go_simp; done))

theorem kst61f (v_0 : Int) (v_1 : Int) (v_2 : ByteArray) (v_3A : Option Addr) (v_3n v_3c : Nat) (z0 z1 z2 z3 : Value) (K : Value → World → Prop) (w : World) : StoreK Tryz.prog 61 (.pointer (some ⟨w.heap.size, 0, none⟩)) (.agg #[(.int .i64 v_0), (.int .i64 v_1), (.string v_2), (.slice v_3A v_3n v_3c)]) K (w.alloc (.cells #[z0, z1, z2, z3] 61)) = K undef (w.alloc (.cells #[(.int .i64 v_0), (.int .i64 v_1), (.string v_2), (.slice v_3A v_3n v_3c)] 61)) := by
  unfold StoreK; (first | (go_simp; rfl) | (go_simp; done))

theorem kal23 (K : Value → World → Prop) (w : World) : AllocK Tryz.prog 23 K w = K (.pointer (some ⟨w.heap.size, 0, none⟩)) (w.alloc (.cells #[.int .i64 0, .int .i64 0, .int .i64 0, .string ByteArray.empty] 23)) := by
  unfold AllocK; (first | (go_simp; rfl) | (go_simp; done))

theorem kst23f (v_0 : Int) (v_1 : Int) (v_2 : Int) (v_3 : ByteArray) (z0 z1 z2 z3 : Value) (K : Value → World → Prop) (w : World) : StoreK Tryz.prog 23 (.pointer (some ⟨w.heap.size, 0, none⟩)) (.agg #[(.int .i64 v_0), (.int .i64 v_1), (.int .i64 v_2), (.string v_3)]) K (w.alloc (.cells #[z0, z1, z2, z3] 23)) = K undef (w.alloc (.cells #[(.int .i64 v_0), (.int .i64 v_1), (.int .i64 v_2), (.string v_3)] 23)) := by
  unfold StoreK; (first | (go_simp; rfl) | (go_simp; done))

theorem kfa61_0 (g o : Nat) (K : Value → World → Prop) (w : World) : FieldAtK Tryz.prog 61 (.pointer (some ⟨g, o, none⟩)) 0 K w = K (.pointer (some ⟨g, o, none⟩)) w := by
  unfold FieldAtK; (first | (go_simp; rfl) | (go_simp; done))

theorem kld3 (a : Addr) (K : Value → World → Prop) (w : World) : LoadK Tryz.prog 3 (.pointer (some a)) K w = OptK (w.cell? a) (@hid _ ⟨fun v => K v w⟩) (LoadRaw Tryz.prog 3 a K w) := by
  exact loadK_eq Tryz.underlying3 rfl a K w

theorem kbeql5 (x y : Int) (K : Value → World → Prop) (w : World) : BinK Tryz.prog .eql 5 (.int .u8 x) (.int .u8 y) K w = K (.bool (x == y)) w := by
  unfold BinK; (first | (go_simp; rfl) | (go_simp; done))

theorem kcv87_3 (x : Int) (K : Value → World → Prop) (w : World) : ConvK Tryz.prog 87 3 (.int .u16 x) K w = K (.int .i64 (IntKind.i64.wrap x)) w := by
  unfold ConvK; (first | (go_simp; rfl) | (go_simp; done))

theorem kbrem3 (x y : Int) (h : 0 ≤ x ∧ 1 ≤ y ∧ x ≤ 9223372036854775807) (K : Value → World → Prop) (w : World) : BinK Tryz.prog .rem 3 (.int .i64 x) (.int .i64 y) K w = K (.int .i64 (x % y)) w := by
  obtain ⟨h0, h1, h2⟩ := h
  have h3 : ¬ y = 0 := by omega
  have h4 : x.tmod y = x % y := Int.tmod_eq_emod_of_nonneg h0
  have h5 : x.tdiv y = x / y := Int.tdiv_eq_ediv_of_nonneg h0
  have h6 : 0 ≤ x / y := Int.ediv_nonneg h0 (by omega)
  have h7 : x / y ≤ x := Int.ediv_le_self y h0
  unfold BinK; (first | (go_simp; rw [wrap_in (by omega)]; exact Iff.rfl) | (go_simp; rfl) | (go_simp; done))

theorem kbs29_0  (K : Value → World → Prop) (w : World) : BuildSliceK Tryz.prog 29 0 #[] K w = K (.slice (some ⟨w.heap.size, 0, none⟩) 0 0) (w.alloc (.cells #[] 5)) := by
  unfold BuildSliceK; (first | (go_simp; rfl) | (go_simp; done))

theorem kia29 (g o n c : Nat) (i : Int) (h : 0 ≤ i ∧ i < (n : Int)) (K : Value → World → Prop) (w : World) : IndexAtK Tryz.prog 29 (.slice (some ⟨g, o, none⟩) n c) (.int .i64 i) K w = K (.pointer (some ⟨g, o + i.toNat, none⟩)) w := by
  obtain ⟨h0, h1⟩ := h
  unfold IndexAtK; (first | (go_simp; rfl) | (go_simp; done))

theorem kld5 (a : Addr) (K : Value → World → Prop) (w : World) : LoadK Tryz.prog 5 (.pointer (some a)) K w = OptK (w.cell? a) (@hid _ ⟨fun v => K v w⟩) (LoadRaw Tryz.prog 5 a K w) := by
  exact loadK_eq Tryz.underlying5 rfl a K w

theorem kbxor5 (x y : Int) (K : Value → World → Prop) (w : World) : BinK Tryz.prog .xor 5 (.int .u8 x) (.int .u8 y) K w = K (.int .u8 (bits .xor .u8 x y)) w := by
  unfold BinK; (first | (go_simp; rfl) | (go_simp; done))

theorem kst5 (g o : Nat) (v : Int) (K : Value → World → Prop) (w : World) : StoreK Tryz.prog 5 (.pointer (some ⟨g, o, none⟩)) (.int .u8 v) K w = OptK (w.cell? ⟨g, o, none⟩) (@hid _ ⟨fun _ => FzK (w.frozen? ⟨g, o, none⟩) (@hid _ ⟨K undef (w.setCell ⟨g, o, none⟩ (.int .u8 v))⟩) (StoreRaw Tryz.prog 5 ⟨g, o, none⟩ (.int .u8 v) K w)⟩) (StoreRaw Tryz.prog 5 ⟨g, o, none⟩ (.int .u8 v) K w) := by
  cases h0 : w.cell? ⟨g, o, none⟩ with
  | none => rfl
  | some x =>
  cases f0 : w.frozen? ⟨g, o, none⟩ with
  | true => rfl
  | false =>
  simp only [optK_some, fzK_false]
  unfold StoreK; (first | (go_simp; rfl) | (go_simp; done))

theorem kfa26_0 (g o : Nat) (K : Value → World → Prop) (w : World) : FieldAtK Tryz.prog 26 (.pointer (some ⟨g, o, none⟩)) 0 K w = K (.pointer (some ⟨g, o, none⟩)) w := by
  unfold FieldAtK; (first | (go_simp; rfl) | (go_simp; done))

theorem kbeql9 (x y : ByteArray) (K : Value → World → Prop) (w : World) : BinK Tryz.prog .eql 9 (.string x) (.string y) K w = K (.bool (x.toList == y.toList)) w := by
  unfold BinK; (first | (go_simp; rfl) | (go_simp; done))

theorem kbd23_0_3 (v0 : Int) (v3 : ByteArray) (K : Value → World → Prop) (w : World) : BuildK Tryz.prog 23 #[(0, (.int .i64 v0)), (3, (.string v3))] K w = K (.agg #[(.int .i64 v0), .int .i64 0, .int .i64 0, (.string v3)]) w := by
  unfold BuildK; (first | (go_simp; rfl) | (go_simp; done))

theorem kbs59_2_0_1 (v0 : Int) (v1 : Int) (K : Value → World → Prop) (w : World) : BuildSliceK Tryz.prog 59 2 #[(0, (.int .i64 v0)), (1, (.int .i64 v1))] K w = K (.slice (some ⟨w.heap.size, 0, none⟩) 2 2) (w.alloc (.cells #[(.int .i64 v0), (.int .i64 v1)] 2)) := by
  unfold BuildSliceK; (first | (go_simp; rfl) | (go_simp; done))

theorem kbd61_0_3 (v0 : Int) (v3A : Option Addr) (v3n v3c : Nat) (K : Value → World → Prop) (w : World) : BuildK Tryz.prog 61 #[(0, (.int .i64 v0)), (3, (.slice v3A v3n v3c))] K w = K (.agg #[(.int .i64 v0), .int .i64 0, .string ByteArray.empty, (.slice v3A v3n v3c)]) w := by
  unfold BuildK; (first | (go_simp; rfl) | (go_simp; done))

theorem kbd64_0_1 (v0 : ByteArray) (v1_0 : Int) (v1_1 : Int) (v1_2 : ByteArray) (v1_3A : Option Addr) (v1_3n v1_3c : Nat) (K : Value → World → Prop) (w : World) : BuildK Tryz.prog 64 #[(0, (.string v0)), (1, .agg #[(.int .i64 v1_0), (.int .i64 v1_1), (.string v1_2), (.slice v1_3A v1_3n v1_3c)])] K w = K (.agg #[(.string v0), (.int .i64 v1_0), (.int .i64 v1_1), (.string v1_2), (.slice v1_3A v1_3n v1_3c)]) w := by
  unfold BuildK; (first | (go_simp; rfl) | (go_simp; done))

theorem kbs24_1_0 (v0_0 : ByteArray) (v0_1_0 : Int) (v0_1_1 : Int) (v0_1_2 : ByteArray) (v0_1_3A : Option Addr) (v0_1_3n v0_1_3c : Nat) (K : Value → World → Prop) (w : World) : BuildSliceK Tryz.prog 24 1 #[(0, .agg #[(.string v0_0), (.int .i64 v0_1_0), (.int .i64 v0_1_1), (.string v0_1_2), (.slice v0_1_3A v0_1_3n v0_1_3c)])] K w = K (.slice (some ⟨w.heap.size, 0, none⟩) 1 1) (w.alloc (.cells #[(.string v0_0), (.int .i64 v0_1_0), (.int .i64 v0_1_1), (.string v0_1_2), (.slice v0_1_3A v0_1_3n v0_1_3c)] 64)) := by
  unfold BuildSliceK; (first | (go_simp; rfl) | (go_simp; done))

theorem kbd26_0_1_2 (v0 : ByteArray) (v1_0 : Int) (v1_1 : Int) (v1_2 : Int) (v1_3 : ByteArray) (v2A : Option Addr) (v2n v2c : Nat) (K : Value → World → Prop) (w : World) : BuildK Tryz.prog 26 #[(0, (.string v0)), (1, .agg #[(.int .i64 v1_0), (.int .i64 v1_1), (.int .i64 v1_2), (.string v1_3)]), (2, (.slice v2A v2n v2c))] K w = K (.agg #[(.string v0), (.int .i64 v1_0), (.int .i64 v1_1), (.int .i64 v1_2), (.string v1_3), (.slice v2A v2n v2c)]) w := by
  unfold BuildK; (first | (go_simp; rfl) | (go_simp; done))

theorem kbs43_2_0_1 (v0_0 : ByteArray) (v0_1_0 : Int) (v0_1_1 : Int) (v0_1_2 : Int) (v0_1_3 : ByteArray) (v0_2A : Option Addr) (v0_2n v0_2c : Nat) (v1_0 : ByteArray) (v1_1_0 : Int) (v1_1_1 : Int) (v1_1_2 : Int) (v1_1_3 : ByteArray) (v1_2A : Option Addr) (v1_2n v1_2c : Nat) (K : Value → World → Prop) (w : World) : BuildSliceK Tryz.prog 43 2 #[(0, .agg #[(.string v0_0), (.int .i64 v0_1_0), (.int .i64 v0_1_1), (.int .i64 v0_1_2), (.string v0_1_3), (.slice v0_2A v0_2n v0_2c)]), (1, .agg #[(.string v1_0), (.int .i64 v1_1_0), (.int .i64 v1_1_1), (.int .i64 v1_1_2), (.string v1_1_3), (.slice v1_2A v1_2n v1_2c)])] K w = K (.slice (some ⟨w.heap.size, 0, none⟩) 2 2) (w.alloc (.cells #[(.string v0_0), (.int .i64 v0_1_0), (.int .i64 v0_1_1), (.int .i64 v0_1_2), (.string v0_1_3), (.slice v0_2A v0_2n v0_2c), (.string v1_0), (.int .i64 v1_1_0), (.int .i64 v1_1_1), (.int .i64 v1_1_2), (.string v1_1_3), (.slice v1_2A v1_2n v1_2c)] 26)) := by
  unfold BuildSliceK; (first | (go_simp; rfl) | (go_simp; done))

theorem kbs29_5_0_1_2_3_4 (v0 : Int) (v1 : Int) (v2 : Int) (v3 : Int) (v4 : Int) (K : Value → World → Prop) (w : World) : BuildSliceK Tryz.prog 29 5 #[(0, (.int .u8 v0)), (1, (.int .u8 v1)), (2, (.int .u8 v2)), (3, (.int .u8 v3)), (4, (.int .u8 v4))] K w = K (.slice (some ⟨w.heap.size, 0, none⟩) 5 5) (w.alloc (.cells #[(.int .u8 v0), (.int .u8 v1), (.int .u8 v2), (.int .u8 v3), (.int .u8 v4)] 5)) := by
  unfold BuildSliceK; (first | (go_simp; rfl) | (go_simp; done))

theorem klen43 (A : Option Addr) (n c : Nat) (K : Value → World → Prop) (w : World) : BuiltinK Tryz.prog .len #[43] 3 #[false] #[(.slice A n c)] K w = K (.int .i64 (n : Int)) w := by
  unfold BuiltinK; (first | (go_simp; rfl) | (go_simp; done))

theorem hlen43 (A : Option Addr) (n c : Nat) {K : Value → Prop} {w1 : World} : TakeO Tryz.prog (fun w' => w' = w1) (builtin .len #[43] 3 #[false] #[(.slice A n c)]) K = K (.int .i64 (n : Int)) := by
  exact here_o (fun w => by (first | (go_simp; rfl) | (go_simp; done)))

theorem kbleq3 (x y : Int) (K : Value → World → Prop) (w : World) : BinK Tryz.prog .leq 3 (.int .i64 x) (.int .i64 y) K w = K (.bool (decide (x ≤ y))) w := by
  unfold BinK; (first | (go_simp; rfl) | (go_simp; done))

theorem kfa26_1 (g o : Nat) (K : Value → World → Prop) (w : World) : FieldAtK Tryz.prog 26 (.pointer (some ⟨g, o, none⟩)) 1 K w = K (.pointer (some ⟨g, o + 1, none⟩)) w := by
  unfold FieldAtK; (first | (go_simp; rfl) | (go_simp; done))

theorem kbneq30 (x y : Int) (K : Value → World → Prop) (w : World) : BinK Tryz.prog .neq 30 (.int .i64 x) (.int .i64 y) K w = K (.bool (x != y)) w := by
  unfold BinK; (first | (go_simp; rfl) | (go_simp; done))

theorem kbx38 (v_0 : ByteArray) (v_1_0 : Int) (v_1_1 : Int) (v_1_2 : Int) (v_1_3 : ByteArray) (v_2A : Option Addr) (v_2n v_2c : Nat) (K : Value → World → Prop) (w : World) : BoxK Tryz.prog 38 (.agg #[(.string v_0), (.int .i64 v_1_0), (.int .i64 v_1_1), (.int .i64 v_1_2), (.string v_1_3), (.slice v_2A v_2n v_2c)]) K w = K (.pointer (some ⟨w.heap.size, 0, none⟩)) (w.alloc (.cells #[(.string v_0), (.int .i64 v_1_0), (.int .i64 v_1_1), (.int .i64 v_1_2), (.string v_1_3), (.slice v_2A v_2n v_2c)] 38)) := by
  unfold BoxK; (first | (go_simp; rfl) | (go_simp; done))

theorem kbd38_0_1_2 (v0 : ByteArray) (v1_0 : Int) (v1_1 : Int) (v1_2 : Int) (v1_3 : ByteArray) (v2A : Option Addr) (v2n v2c : Nat) (K : Value → World → Prop) (w : World) : BuildK Tryz.prog 38 #[(0, (.string v0)), (1, .agg #[(.int .i64 v1_0), (.int .i64 v1_1), (.int .i64 v1_2), (.string v1_3)]), (2, (.slice v2A v2n v2c))] K w = K (.agg #[(.string v0), (.int .i64 v1_0), (.int .i64 v1_1), (.int .i64 v1_2), (.string v1_3), (.slice v2A v2n v2c)]) w := by
  unfold BuildK; (first | (go_simp; rfl) | (go_simp; done))

theorem kbeql30 (x y : Int) (K : Value → World → Prop) (w : World) : BinK Tryz.prog .eql 30 (.int .i64 x) (.int .i64 y) K w = K (.bool (x == y)) w := by
  unfold BinK; (first | (go_simp; rfl) | (go_simp; done))

theorem kbd26_  (K : Value → World → Prop) (w : World) : BuildK Tryz.prog 26 #[] K w = K (.agg #[.string ByteArray.empty, .int .i64 0, .int .i64 0, .int .i64 0, .string ByteArray.empty, .slice none 0 0]) w := by
  unfold BuildK; (first | (go_simp; rfl) | (go_simp; done))

theorem kfa38_0 (g o : Nat) (K : Value → World → Prop) (w : World) : FieldAtK Tryz.prog 38 (.pointer (some ⟨g, o, none⟩)) 0 K w = K (.pointer (some ⟨g, o, none⟩)) w := by
  unfold FieldAtK; (first | (go_simp; rfl) | (go_simp; done))

theorem kfa38_1 (g o : Nat) (K : Value → World → Prop) (w : World) : FieldAtK Tryz.prog 38 (.pointer (some ⟨g, o, none⟩)) 1 K w = K (.pointer (some ⟨g, o + 1, none⟩)) w := by
  unfold FieldAtK; (first | (go_simp; rfl) | (go_simp; done))

theorem kld35 (g o : Nat) (K : Value → World → Prop) (w : World) : LoadK Tryz.prog 35 (.pointer (some ⟨g, o, none⟩)) K w = OptK (w.cell? ⟨g, o, none⟩) (@hid _ ⟨fun v0 => OptK (w.cell? ⟨g, o + 1, none⟩) (@hid _ ⟨fun v1 => OptK (w.cell? ⟨g, o + 2, none⟩) (@hid _ ⟨fun v2 => OptK (w.cell? ⟨g, o + 3, none⟩) (@hid _ ⟨fun v3 => K (.agg #[v0, v1, v2, v3]) w⟩) (LoadRaw Tryz.prog 35 ⟨g, o, none⟩ K w)⟩) (LoadRaw Tryz.prog 35 ⟨g, o, none⟩ K w)⟩) (LoadRaw Tryz.prog 35 ⟨g, o, none⟩ K w)⟩) (LoadRaw Tryz.prog 35 ⟨g, o, none⟩ K w) := by
  cases h0 : w.cell? ⟨g, o, none⟩ with
  | none => rfl
  | some v0 =>
  cases h1 : w.cell? ⟨g, o + 1, none⟩ with
  | none => rfl
  | some v1 =>
  cases h2 : w.cell? ⟨g, o + 2, none⟩ with
  | none => rfl
  | some v2 =>
  cases h3 : w.cell? ⟨g, o + 3, none⟩ with
  | none => rfl
  | some v3 =>
  simp only [optK_some]
  unfold LoadK; (first | (go_simp; rfl) | (go_simp; done))

theorem kfa38_2 (g o : Nat) (K : Value → World → Prop) (w : World) : FieldAtK Tryz.prog 38 (.pointer (some ⟨g, o, none⟩)) 2 K w = K (.pointer (some ⟨g, o + 5, none⟩)) w := by
  unfold FieldAtK; (first | (go_simp; rfl) | (go_simp; done))

theorem kld36 (a : Addr) (K : Value → World → Prop) (w : World) : LoadK Tryz.prog 36 (.pointer (some a)) K w = OptK (w.cell? a) (@hid _ ⟨fun v => K v w⟩) (LoadRaw Tryz.prog 36 a K w) := by
  exact loadK_eq Tryz.underlying36 rfl a K w

theorem kia43 (g o n c : Nat) (i : Int) (h : 0 ≤ i ∧ i < (n : Int)) (K : Value → World → Prop) (w : World) : IndexAtK Tryz.prog 43 (.slice (some ⟨g, o, none⟩) n c) (.int .i64 i) K w = K (.pointer (some ⟨g, o + i.toNat * 6, none⟩)) w := by
  obtain ⟨h0, h1⟩ := h
  unfold IndexAtK; (first | (go_simp; rfl) | (go_simp; done))

theorem klen47 (A : Option Addr) (n c : Nat) (K : Value → World → Prop) (w : World) : BuiltinK Tryz.prog .len #[47] 3 #[false] #[(.slice A n c)] K w = K (.int .i64 (n : Int)) w := by
  unfold BuiltinK; (first | (go_simp; rfl) | (go_simp; done))

theorem hlen47 (A : Option Addr) (n c : Nat) {K : Value → Prop} {w1 : World} : TakeO Tryz.prog (fun w' => w' = w1) (builtin .len #[47] 3 #[false] #[(.slice A n c)]) K = K (.int .i64 (n : Int)) := by
  exact here_o (fun w => by (first | (go_simp; rfl) | (go_simp; done)))

theorem kia47 (g o n c : Nat) (i : Int) (h : 0 ≤ i ∧ i < (n : Int)) (K : Value → World → Prop) (w : World) : IndexAtK Tryz.prog 47 (.slice (some ⟨g, o, none⟩) n c) (.int .i64 i) K w = K (.pointer (some ⟨g, o + i.toNat * 6, none⟩)) w := by
  obtain ⟨h0, h1⟩ := h
  unfold IndexAtK; (first | (go_simp; rfl) | (go_simp; done))

theorem kbs47_1_0 (v0_0 : ByteArray) (v0_1_0 : Int) (v0_1_1 : Int) (v0_1_2 : Int) (v0_1_3 : ByteArray) (v0_2A : Option Addr) (v0_2n v0_2c : Nat) (K : Value → World → Prop) (w : World) : BuildSliceK Tryz.prog 47 1 #[(0, .agg #[(.string v0_0), (.int .i64 v0_1_0), (.int .i64 v0_1_1), (.int .i64 v0_1_2), (.string v0_1_3), (.slice v0_2A v0_2n v0_2c)])] K w = K (.slice (some ⟨w.heap.size, 0, none⟩) 1 1) (w.alloc (.cells #[(.string v0_0), (.int .i64 v0_1_0), (.int .i64 v0_1_1), (.int .i64 v0_1_2), (.string v0_1_3), (.slice v0_2A v0_2n v0_2c)] 38)) := by
  unfold BuildSliceK; (first | (go_simp; rfl) | (go_simp; done))

theorem kcv106_5 (x : Int) (K : Value → World → Prop) (w : World) : ConvK Tryz.prog 106 5 (.int .u32 x) K w = K (.int .u8 (IntKind.u8.wrap x)) w := by
  unfold ConvK; (first | (go_simp; rfl) | (go_simp; done))

theorem kbshr106_i32 (x y : Int) (h : 0 ≤ y) (K : Value → World → Prop) (w : World) : BinK Tryz.prog .shr 106 (.int .u32 x) (.int .i32 y) K w = K (.int .u32 (x / 2 ^ min y.toNat 32)) w := by
  unfold BinK; (first | (go_simp; rfl) | (go_simp; done))

theorem kbshr106_i64 (x y : Int) (h : 0 ≤ y) (K : Value → World → Prop) (w : World) : BinK Tryz.prog .shr 106 (.int .u32 x) (.int .i64 y) K w = K (.int .u32 (x / 2 ^ min y.toNat 32)) w := by
  unfold BinK; (first | (go_simp; rfl) | (go_simp; done))

theorem kbshr106_u16 (x y : Int) (h : 0 ≤ y) (K : Value → World → Prop) (w : World) : BinK Tryz.prog .shr 106 (.int .u32 x) (.int .u16 y) K w = K (.int .u32 (x / 2 ^ min y.toNat 32)) w := by
  unfold BinK; (first | (go_simp; rfl) | (go_simp; done))

theorem kbshr106_u32 (x y : Int) (h : 0 ≤ y) (K : Value → World → Prop) (w : World) : BinK Tryz.prog .shr 106 (.int .u32 x) (.int .u32 y) K w = K (.int .u32 (x / 2 ^ min y.toNat 32)) w := by
  unfold BinK; (first | (go_simp; rfl) | (go_simp; done))

theorem kbshr106_u64 (x y : Int) (h : 0 ≤ y) (K : Value → World → Prop) (w : World) : BinK Tryz.prog .shr 106 (.int .u32 x) (.int .u64 y) K w = K (.int .u32 (x / 2 ^ min y.toNat 32)) w := by
  unfold BinK; (first | (go_simp; rfl) | (go_simp; done))

theorem kbshr106_u8 (x y : Int) (h : 0 ≤ y) (K : Value → World → Prop) (w : World) : BinK Tryz.prog .shr 106 (.int .u32 x) (.int .u8 y) K w = K (.int .u32 (x / 2 ^ min y.toNat 32)) w := by
  unfold BinK; (first | (go_simp; rfl) | (go_simp; done))

theorem kbs29_4_0_1_2_3 (v0 : Int) (v1 : Int) (v2 : Int) (v3 : Int) (K : Value → World → Prop) (w : World) : BuildSliceK Tryz.prog 29 4 #[(0, (.int .u8 v0)), (1, (.int .u8 v1)), (2, (.int .u8 v2)), (3, (.int .u8 v3))] K w = K (.slice (some ⟨w.heap.size, 0, none⟩) 4 4) (w.alloc (.cells #[(.int .u8 v0), (.int .u8 v1), (.int .u8 v2), (.int .u8 v3)] 5)) := by
  unfold BuildSliceK; (first | (go_simp; rfl) | (go_simp; done))

theorem kbd38_  (K : Value → World → Prop) (w : World) : BuildK Tryz.prog 38 #[] K w = K (.agg #[.string ByteArray.empty, .int .i64 0, .int .i64 0, .int .i64 0, .string ByteArray.empty, .slice none 0 0]) w := by
  unfold BuildK; (first | (go_simp; rfl) | (go_simp; done))

theorem kbd112_0 (v0A : Option Addr) (v0n v0c : Nat) (K : Value → World → Prop) (w : World) : BuildK Tryz.prog 112 #[(0, (.slice v0A v0n v0c))] K w = K (.agg #[(.slice v0A v0n v0c), .int .i64 0, .int .i64 0]) w := by
  unfold BuildK; (first | (go_simp; rfl) | (go_simp; done))

theorem kbx112 (v_0A : Option Addr) (v_0n v_0c : Nat) (v_1 : Int) (v_2 : Int) (K : Value → World → Prop) (w : World) : BoxK Tryz.prog 112 (.agg #[(.slice v_0A v_0n v_0c), (.int .i64 v_1), (.int .i64 v_2)]) K w = K (.pointer (some ⟨w.heap.size, 0, none⟩)) (w.alloc (.cells #[(.slice v_0A v_0n v_0c), (.int .i64 v_1), (.int .i64 v_2)] 112)) := by
  unfold BoxK; (first | (go_simp; rfl) | (go_simp; done))

theorem kfa112_2 (g o : Nat) (K : Value → World → Prop) (w : World) : FieldAtK Tryz.prog 112 (.pointer (some ⟨g, o, none⟩)) 2 K w = K (.pointer (some ⟨g, o + 2, none⟩)) w := by
  unfold FieldAtK; (first | (go_simp; rfl) | (go_simp; done))

theorem kfa61_2 (g o : Nat) (K : Value → World → Prop) (w : World) : FieldAtK Tryz.prog 61 (.pointer (some ⟨g, o, none⟩)) 2 K w = K (.pointer (some ⟨g, o + 2, none⟩)) w := by
  unfold FieldAtK; (first | (go_simp; rfl) | (go_simp; done))

theorem kbs59_1_0 (v0 : Int) (K : Value → World → Prop) (w : World) : BuildSliceK Tryz.prog 59 1 #[(0, (.int .i64 v0))] K w = K (.slice (some ⟨w.heap.size, 0, none⟩) 1 1) (w.alloc (.cells #[(.int .i64 v0)] 2)) := by
  unfold BuildSliceK; (first | (go_simp; rfl) | (go_simp; done))

theorem kfa61_1 (g o : Nat) (K : Value → World → Prop) (w : World) : FieldAtK Tryz.prog 61 (.pointer (some ⟨g, o, none⟩)) 1 K w = K (.pointer (some ⟨g, o + 1, none⟩)) w := by
  unfold FieldAtK; (first | (go_simp; rfl) | (go_simp; done))

theorem kld2 (a : Addr) (K : Value → World → Prop) (w : World) : LoadK Tryz.prog 2 (.pointer (some a)) K w = OptK (w.cell? a) (@hid _ ⟨fun v => K v w⟩) (LoadRaw Tryz.prog 2 a K w) := by
  exact loadK_eq Tryz.underlying2 rfl a K w

theorem kbs150_1_0 (v0 : ByteArray) (K : Value → World → Prop) (w : World) : BuildSliceK Tryz.prog 150 1 #[(0, (.string v0))] K w = K (.slice (some ⟨w.heap.size, 0, none⟩) 1 1) (w.alloc (.cells #[(.string v0)] 9)) := by
  unfold BuildSliceK; (first | (go_simp; rfl) | (go_simp; done))

theorem kfa23_0 (g o : Nat) (K : Value → World → Prop) (w : World) : FieldAtK Tryz.prog 23 (.pointer (some ⟨g, o, none⟩)) 0 K w = K (.pointer (some ⟨g, o, none⟩)) w := by
  unfold FieldAtK; (first | (go_simp; rfl) | (go_simp; done))

theorem kfa23_1 (g o : Nat) (K : Value → World → Prop) (w : World) : FieldAtK Tryz.prog 23 (.pointer (some ⟨g, o, none⟩)) 1 K w = K (.pointer (some ⟨g, o + 1, none⟩)) w := by
  unfold FieldAtK; (first | (go_simp; rfl) | (go_simp; done))

theorem kfa23_2 (g o : Nat) (K : Value → World → Prop) (w : World) : FieldAtK Tryz.prog 23 (.pointer (some ⟨g, o, none⟩)) 2 K w = K (.pointer (some ⟨g, o + 2, none⟩)) w := by
  unfold FieldAtK; (first | (go_simp; rfl) | (go_simp; done))

theorem kbs59_3_0_1_2 (v0 : Int) (v1 : Int) (v2 : Int) (K : Value → World → Prop) (w : World) : BuildSliceK Tryz.prog 59 3 #[(0, (.int .i64 v0)), (1, (.int .i64 v1)), (2, (.int .i64 v2))] K w = K (.slice (some ⟨w.heap.size, 0, none⟩) 3 3) (w.alloc (.cells #[(.int .i64 v0), (.int .i64 v1), (.int .i64 v2)] 2)) := by
  unfold BuildSliceK; (first | (go_simp; rfl) | (go_simp; done))

theorem kbx72 (v_0 : Int) (v_1 : Int) (v_2 : ByteArray) (v_3A : Option Addr) (v_3n v_3c : Nat) (K : Value → World → Prop) (w : World) : BoxK Tryz.prog 72 (.agg #[(.int .i64 v_0), (.int .i64 v_1), (.string v_2), (.slice v_3A v_3n v_3c)]) K w = K (.pointer (some ⟨w.heap.size, 0, none⟩)) (w.alloc (.cells #[(.int .i64 v_0), (.int .i64 v_1), (.string v_2), (.slice v_3A v_3n v_3c)] 72)) := by
  unfold BoxK; (first | (go_simp; rfl) | (go_simp; done))

theorem kfa72_0 (g o : Nat) (K : Value → World → Prop) (w : World) : FieldAtK Tryz.prog 72 (.pointer (some ⟨g, o, none⟩)) 0 K w = K (.pointer (some ⟨g, o, none⟩)) w := by
  unfold FieldAtK; (first | (go_simp; rfl) | (go_simp; done))

theorem kfa72_1 (g o : Nat) (K : Value → World → Prop) (w : World) : FieldAtK Tryz.prog 72 (.pointer (some ⟨g, o, none⟩)) 1 K w = K (.pointer (some ⟨g, o + 1, none⟩)) w := by
  unfold FieldAtK; (first | (go_simp; rfl) | (go_simp; done))

theorem kfa72_2 (g o : Nat) (K : Value → World → Prop) (w : World) : FieldAtK Tryz.prog 72 (.pointer (some ⟨g, o, none⟩)) 2 K w = K (.pointer (some ⟨g, o + 2, none⟩)) w := by
  unfold FieldAtK; (first | (go_simp; rfl) | (go_simp; done))

theorem kfa72_3 (g o : Nat) (K : Value → World → Prop) (w : World) : FieldAtK Tryz.prog 72 (.pointer (some ⟨g, o, none⟩)) 3 K w = K (.pointer (some ⟨g, o + 3, none⟩)) w := by
  unfold FieldAtK; (first | (go_simp; rfl) | (go_simp; done))

theorem kia59 (g o n c : Nat) (i : Int) (h : 0 ≤ i ∧ i < (n : Int)) (K : Value → World → Prop) (w : World) : IndexAtK Tryz.prog 59 (.slice (some ⟨g, o, none⟩) n c) (.int .i64 i) K w = K (.pointer (some ⟨g, o + i.toNat, none⟩)) w := by
  obtain ⟨h0, h1⟩ := h
  unfold IndexAtK; (first | (go_simp; rfl) | (go_simp; done))

theorem kld72 (g o : Nat) (K : Value → World → Prop) (w : World) : LoadK Tryz.prog 72 (.pointer (some ⟨g, o, none⟩)) K w = OptK (w.cell? ⟨g, o, none⟩) (@hid _ ⟨fun v0 => OptK (w.cell? ⟨g, o + 1, none⟩) (@hid _ ⟨fun v1 => OptK (w.cell? ⟨g, o + 2, none⟩) (@hid _ ⟨fun v2 => OptK (w.cell? ⟨g, o + 3, none⟩) (@hid _ ⟨fun v3 => K (.agg #[v0, v1, v2, v3]) w⟩) (LoadRaw Tryz.prog 72 ⟨g, o, none⟩ K w)⟩) (LoadRaw Tryz.prog 72 ⟨g, o, none⟩ K w)⟩) (LoadRaw Tryz.prog 72 ⟨g, o, none⟩ K w)⟩) (LoadRaw Tryz.prog 72 ⟨g, o, none⟩ K w) := by
  cases h0 : w.cell? ⟨g, o, none⟩ with
  | none => rfl
  | some v0 =>
  cases h1 : w.cell? ⟨g, o + 1, none⟩ with
  | none => rfl
  | some v1 =>
  cases h2 : w.cell? ⟨g, o + 2, none⟩ with
  | none => rfl
  | some v2 =>
  cases h3 : w.cell? ⟨g, o + 3, none⟩ with
  | none => rfl
  | some v3 =>
  simp only [optK_some]
  unfold LoadK; (first | (go_simp; rfl) | (go_simp; done))

theorem kal72 (K : Value → World → Prop) (w : World) : AllocK Tryz.prog 72 K w = K (.pointer (some ⟨w.heap.size, 0, none⟩)) (w.alloc (.cells #[.int .i64 0, .int .i64 0, .string ByteArray.empty, .slice none 0 0] 72)) := by
  unfold AllocK; (first | (go_simp; rfl) | (go_simp; done))

theorem kbd72_0_1_2_3 (v0 : Int) (v1 : Int) (v2 : ByteArray) (v3A : Option Addr) (v3n v3c : Nat) (K : Value → World → Prop) (w : World) : BuildK Tryz.prog 72 #[(0, (.int .i64 v0)), (1, (.int .i64 v1)), (2, (.string v2)), (3, (.slice v3A v3n v3c))] K w = K (.agg #[(.int .i64 v0), (.int .i64 v1), (.string v2), (.slice v3A v3n v3c)]) w := by
  unfold BuildK; (first | (go_simp; rfl) | (go_simp; done))

theorem kst72f (v_0 : Int) (v_1 : Int) (v_2 : ByteArray) (v_3A : Option Addr) (v_3n v_3c : Nat) (z0 z1 z2 z3 : Value) (K : Value → World → Prop) (w : World) : StoreK Tryz.prog 72 (.pointer (some ⟨w.heap.size, 0, none⟩)) (.agg #[(.int .i64 v_0), (.int .i64 v_1), (.string v_2), (.slice v_3A v_3n v_3c)]) K (w.alloc (.cells #[z0, z1, z2, z3] 72)) = K undef (w.alloc (.cells #[(.int .i64 v_0), (.int .i64 v_1), (.string v_2), (.slice v_3A v_3n v_3c)] 72)) := by
  unfold StoreK; (first | (go_simp; rfl) | (go_simp; done))

theorem kbx35 (v_0 : Int) (v_1 : Int) (v_2 : Int) (v_3 : ByteArray) (K : Value → World → Prop) (w : World) : BoxK Tryz.prog 35 (.agg #[(.int .i64 v_0), (.int .i64 v_1), (.int .i64 v_2), (.string v_3)]) K w = K (.pointer (some ⟨w.heap.size, 0, none⟩)) (w.alloc (.cells #[(.int .i64 v_0), (.int .i64 v_1), (.int .i64 v_2), (.string v_3)] 35)) := by
  unfold BoxK; (first | (go_simp; rfl) | (go_simp; done))

theorem kfa35_0 (g o : Nat) (K : Value → World → Prop) (w : World) : FieldAtK Tryz.prog 35 (.pointer (some ⟨g, o, none⟩)) 0 K w = K (.pointer (some ⟨g, o, none⟩)) w := by
  unfold FieldAtK; (first | (go_simp; rfl) | (go_simp; done))

theorem kfa35_1 (g o : Nat) (K : Value → World → Prop) (w : World) : FieldAtK Tryz.prog 35 (.pointer (some ⟨g, o, none⟩)) 1 K w = K (.pointer (some ⟨g, o + 1, none⟩)) w := by
  unfold FieldAtK; (first | (go_simp; rfl) | (go_simp; done))

theorem kfa35_2 (g o : Nat) (K : Value → World → Prop) (w : World) : FieldAtK Tryz.prog 35 (.pointer (some ⟨g, o, none⟩)) 2 K w = K (.pointer (some ⟨g, o + 2, none⟩)) w := by
  unfold FieldAtK; (first | (go_simp; rfl) | (go_simp; done))

theorem kfa35_3 (g o : Nat) (K : Value → World → Prop) (w : World) : FieldAtK Tryz.prog 35 (.pointer (some ⟨g, o, none⟩)) 3 K w = K (.pointer (some ⟨g, o + 3, none⟩)) w := by
  unfold FieldAtK; (first | (go_simp; rfl) | (go_simp; done))

theorem kal35 (K : Value → World → Prop) (w : World) : AllocK Tryz.prog 35 K w = K (.pointer (some ⟨w.heap.size, 0, none⟩)) (w.alloc (.cells #[.int .i64 0, .int .i64 0, .int .i64 0, .string ByteArray.empty] 35)) := by
  unfold AllocK; (first | (go_simp; rfl) | (go_simp; done))

theorem kbd35_0_1_2_3 (v0 : Int) (v1 : Int) (v2 : Int) (v3 : ByteArray) (K : Value → World → Prop) (w : World) : BuildK Tryz.prog 35 #[(0, (.int .i64 v0)), (1, (.int .i64 v1)), (2, (.int .i64 v2)), (3, (.string v3))] K w = K (.agg #[(.int .i64 v0), (.int .i64 v1), (.int .i64 v2), (.string v3)]) w := by
  unfold BuildK; (first | (go_simp; rfl) | (go_simp; done))

theorem kst35f (v_0 : Int) (v_1 : Int) (v_2 : Int) (v_3 : ByteArray) (z0 z1 z2 z3 : Value) (K : Value → World → Prop) (w : World) : StoreK Tryz.prog 35 (.pointer (some ⟨w.heap.size, 0, none⟩)) (.agg #[(.int .i64 v_0), (.int .i64 v_1), (.int .i64 v_2), (.string v_3)]) K (w.alloc (.cells #[z0, z1, z2, z3] 35)) = K undef (w.alloc (.cells #[(.int .i64 v_0), (.int .i64 v_1), (.int .i64 v_2), (.string v_3)] 35)) := by
  unfold StoreK; (first | (go_simp; rfl) | (go_simp; done))

theorem klen36 (A : Option Addr) (n c : Nat) (K : Value → World → Prop) (w : World) : BuiltinK Tryz.prog .len #[36] 3 #[false] #[(.slice A n c)] K w = K (.int .i64 (n : Int)) w := by
  unfold BuiltinK; (first | (go_simp; rfl) | (go_simp; done))

theorem hlen36 (A : Option Addr) (n c : Nat) {K : Value → Prop} {w1 : World} : TakeO Tryz.prog (fun w' => w' = w1) (builtin .len #[36] 3 #[false] #[(.slice A n c)]) K = K (.int .i64 (n : Int)) := by
  exact here_o (fun w => by (first | (go_simp; rfl) | (go_simp; done)))

theorem kia36 (g o n c : Nat) (i : Int) (h : 0 ≤ i ∧ i < (n : Int)) (K : Value → World → Prop) (w : World) : IndexAtK Tryz.prog 36 (.slice (some ⟨g, o, none⟩) n c) (.int .i64 i) K w = K (.pointer (some ⟨g, o + i.toNat * 5, none⟩)) w := by
  obtain ⟨h0, h1⟩ := h
  unfold IndexAtK; (first | (go_simp; rfl) | (go_simp; done))

theorem kfa123_0 (g o : Nat) (K : Value → World → Prop) (w : World) : FieldAtK Tryz.prog 123 (.pointer (some ⟨g, o, none⟩)) 0 K w = K (.pointer (some ⟨g, o, none⟩)) w := by
  unfold FieldAtK; (first | (go_simp; rfl) | (go_simp; done))

theorem kfa123_1 (g o : Nat) (K : Value → World → Prop) (w : World) : FieldAtK Tryz.prog 123 (.pointer (some ⟨g, o, none⟩)) 1 K w = K (.pointer (some ⟨g, o + 1, none⟩)) w := by
  unfold FieldAtK; (first | (go_simp; rfl) | (go_simp; done))

theorem kfa67_0 (g o : Nat) (K : Value → World → Prop) (w : World) : FieldAtK Tryz.prog 67 (.pointer (some ⟨g, o, none⟩)) 0 K w = K (.pointer (some ⟨g, o, none⟩)) w := by
  unfold FieldAtK; (first | (go_simp; rfl) | (go_simp; done))

theorem kbd125_0 (v0A : Option Addr) (v0n v0c : Nat) (K : Value → World → Prop) (w : World) : BuildK Tryz.prog 125 #[(0, (.slice v0A v0n v0c))] K w = K (.agg #[(.slice v0A v0n v0c), .int .i64 0]) w := by
  unfold BuildK; (first | (go_simp; rfl) | (go_simp; done))

theorem kbx125 (v_0A : Option Addr) (v_0n v_0c : Nat) (v_1 : Int) (K : Value → World → Prop) (w : World) : BoxK Tryz.prog 125 (.agg #[(.slice v_0A v_0n v_0c), (.int .i64 v_1)]) K w = K (.pointer (some ⟨w.heap.size, 0, none⟩)) (w.alloc (.cells #[(.slice v_0A v_0n v_0c), (.int .i64 v_1)] 125)) := by
  unfold BoxK; (first | (go_simp; rfl) | (go_simp; done))

theorem kbd61_0 (v0 : Int) (K : Value → World → Prop) (w : World) : BuildK Tryz.prog 61 #[(0, (.int .i64 v0))] K w = K (.agg #[(.int .i64 v0), .int .i64 0, .string ByteArray.empty, .slice none 0 0]) w := by
  unfold BuildK; (first | (go_simp; rfl) | (go_simp; done))

theorem kst2 (g o : Nat) (v : Int) (K : Value → World → Prop) (w : World) : StoreK Tryz.prog 2 (.pointer (some ⟨g, o, none⟩)) (.int .i64 v) K w = OptK (w.cell? ⟨g, o, none⟩) (@hid _ ⟨fun _ => FzK (w.frozen? ⟨g, o, none⟩) (@hid _ ⟨K undef (w.setCell ⟨g, o, none⟩ (.int .i64 v))⟩) (StoreRaw Tryz.prog 2 ⟨g, o, none⟩ (.int .i64 v) K w)⟩) (StoreRaw Tryz.prog 2 ⟨g, o, none⟩ (.int .i64 v) K w) := by
  cases h0 : w.cell? ⟨g, o, none⟩ with
  | none => rfl
  | some x =>
  cases f0 : w.frozen? ⟨g, o, none⟩ with
  | true => rfl
  | false =>
  simp only [optK_some, fzK_false]
  unfold StoreK; (first | (go_simp; rfl) | (go_simp; done))

theorem kst9 (g o : Nat) (v : ByteArray) (K : Value → World → Prop) (w : World) : StoreK Tryz.prog 9 (.pointer (some ⟨g, o, none⟩)) (.string v) K w = OptK (w.cell? ⟨g, o, none⟩) (@hid _ ⟨fun _ => FzK (w.frozen? ⟨g, o, none⟩) (@hid _ ⟨K undef (w.setCell ⟨g, o, none⟩ (.string v))⟩) (StoreRaw Tryz.prog 9 ⟨g, o, none⟩ (.string v) K w)⟩) (StoreRaw Tryz.prog 9 ⟨g, o, none⟩ (.string v) K w) := by
  cases h0 : w.cell? ⟨g, o, none⟩ with
  | none => rfl
  | some x =>
  cases f0 : w.frozen? ⟨g, o, none⟩ with
  | true => rfl
  | false =>
  simp only [optK_some, fzK_false]
  unfold StoreK; (first | (go_simp; rfl) | (go_simp; done))

theorem kst59 (g o : Nat) (vA : Option Addr) (vn vc : Nat) (K : Value → World → Prop) (w : World) : StoreK Tryz.prog 59 (.pointer (some ⟨g, o, none⟩)) (.slice vA vn vc) K w = OptK (w.cell? ⟨g, o, none⟩) (@hid _ ⟨fun _ => FzK (w.frozen? ⟨g, o, none⟩) (@hid _ ⟨K undef (w.setCell ⟨g, o, none⟩ (.slice vA vn vc))⟩) (StoreRaw Tryz.prog 59 ⟨g, o, none⟩ (.slice vA vn vc) K w)⟩) (StoreRaw Tryz.prog 59 ⟨g, o, none⟩ (.slice vA vn vc) K w) := by
  cases h0 : w.cell? ⟨g, o, none⟩ with
  | none => rfl
  | some x =>
  cases f0 : w.frozen? ⟨g, o, none⟩ with
  | true => rfl
  | false =>
  simp only [optK_some, fzK_false]
  unfold StoreK; (first | (go_simp; rfl) | (go_simp; done))

theorem kbd23_0_1_2_3 (v0 : Int) (v1 : Int) (v2 : Int) (v3 : ByteArray) (K : Value → World → Prop) (w : World) : BuildK Tryz.prog 23 #[(0, (.int .i64 v0)), (1, (.int .i64 v1)), (2, (.int .i64 v2)), (3, (.string v3))] K w = K (.agg #[(.int .i64 v0), (.int .i64 v1), (.int .i64 v2), (.string v3)]) w := by
  unfold BuildK; (first | (go_simp; rfl) | (go_simp; done))

theorem kbneq2 (x y : Int) (K : Value → World → Prop) (w : World) : BinK Tryz.prog .neq 2 (.int .i64 x) (.int .i64 y) K w = K (.bool (x != y)) w := by
  unfold BinK; (first | (go_simp; rfl) | (go_simp; done))

theorem kfa125_1 (g o : Nat) (K : Value → World → Prop) (w : World) : FieldAtK Tryz.prog 125 (.pointer (some ⟨g, o, none⟩)) 1 K w = K (.pointer (some ⟨g, o + 1, none⟩)) w := by
  unfold FieldAtK; (first | (go_simp; rfl) | (go_simp; done))

theorem kld30 (a : Addr) (K : Value → World → Prop) (w : World) : LoadK Tryz.prog 30 (.pointer (some a)) K w = OptK (w.cell? a) (@hid _ ⟨fun v => K v w⟩) (LoadRaw Tryz.prog 30 a K w) := by
  exact loadK_eq Tryz.underlying30 rfl a K w

theorem kfa125_0 (g o : Nat) (K : Value → World → Prop) (w : World) : FieldAtK Tryz.prog 125 (.pointer (some ⟨g, o, none⟩)) 0 K w = K (.pointer (some ⟨g, o, none⟩)) w := by
  unfold FieldAtK; (first | (go_simp; rfl) | (go_simp; done))

theorem kbsub3 (x y : Int) (K : Value → World → Prop) (w : World) : BinK Tryz.prog .sub 3 (.int .i64 x) (.int .i64 y) K w = K (.int .i64 (IntKind.i64.wrap (x - y))) w := by
  unfold BinK; (first | (go_simp; rfl) | (go_simp; done))

theorem kbgeq9 (x y : ByteArray) (K : Value → World → Prop) (w : World) : BinK Tryz.prog .geq 9 (.string x) (.string y) K w = K (.bool (!(Op.bytesLess x.toList y.toList))) w := by
  unfold BinK; (first | (go_simp; rfl) | (go_simp; done))

theorem kfa64_0 (g o : Nat) (K : Value → World → Prop) (w : World) : FieldAtK Tryz.prog 64 (.pointer (some ⟨g, o, none⟩)) 0 K w = K (.pointer (some ⟨g, o, none⟩)) w := by
  unfold FieldAtK; (first | (go_simp; rfl) | (go_simp; done))

theorem kbd123_0_1 (v0 : ByteArray) (v1_0 : Int) (v1_1 : Int) (v1_2 : ByteArray) (v1_3A : Option Addr) (v1_3n v1_3c : Nat) (K : Value → World → Prop) (w : World) : BuildK Tryz.prog 123 #[(0, (.string v0)), (1, .agg #[(.int .i64 v1_0), (.int .i64 v1_1), (.string v1_2), (.slice v1_3A v1_3n v1_3c)])] K w = K (.agg #[(.string v0), (.int .i64 v1_0), (.int .i64 v1_1), (.string v1_2), (.slice v1_3A v1_3n v1_3c)]) w := by
  unfold BuildK; (first | (go_simp; rfl) | (go_simp; done))

theorem kbs36_1_0 (v0_0 : ByteArray) (v0_1_0 : Int) (v0_1_1 : Int) (v0_1_2 : ByteArray) (v0_1_3A : Option Addr) (v0_1_3n v0_1_3c : Nat) (K : Value → World → Prop) (w : World) : BuildSliceK Tryz.prog 36 1 #[(0, .agg #[(.string v0_0), (.int .i64 v0_1_0), (.int .i64 v0_1_1), (.string v0_1_2), (.slice v0_1_3A v0_1_3n v0_1_3c)])] K w = K (.slice (some ⟨w.heap.size, 0, none⟩) 1 1) (w.alloc (.cells #[(.string v0_0), (.int .i64 v0_1_0), (.int .i64 v0_1_1), (.string v0_1_2), (.slice v0_1_3A v0_1_3n v0_1_3c)] 123)) := by
  unfold BuildSliceK; (first | (go_simp; rfl) | (go_simp; done))

theorem kbs145_4_0_1_2_3 (v0 : Int) (v1 : Int) (v2 : Int) (v3 : Int) (K : Value → World → Prop) (w : World) : BuildSliceK Tryz.prog 145 4 #[(0, (.int .i64 v0)), (1, (.int .i64 v1)), (2, (.int .i64 v2)), (3, (.int .i64 v3))] K w = K (.slice (some ⟨w.heap.size, 0, none⟩) 4 4) (w.alloc (.cells #[(.int .i64 v0), (.int .i64 v1), (.int .i64 v2), (.int .i64 v3)] 3)) := by
  unfold BuildSliceK; (first | (go_simp; rfl) | (go_simp; done))

theorem kia145 (g o n c : Nat) (i : Int) (h : 0 ≤ i ∧ i < (n : Int)) (K : Value → World → Prop) (w : World) : IndexAtK Tryz.prog 145 (.slice (some ⟨g, o, none⟩) n c) (.int .i64 i) K w = K (.pointer (some ⟨g, o + i.toNat, none⟩)) w := by
  obtain ⟨h0, h1⟩ := h
  unfold IndexAtK; (first | (go_simp; rfl) | (go_simp; done))

theorem kcv2_146 (x : Int) (K : Value → World → Prop) (w : World) : ConvK Tryz.prog 2 146 (.int .i64 x) K w = K (.int .u64 (IntKind.u64.wrap x)) w := by
  unfold ConvK; (first | (go_simp; rfl) | (go_simp; done))

theorem kbshl146_i32 (x y : Int) (h : 0 ≤ y) (K : Value → World → Prop) (w : World) : BinK Tryz.prog .shl 146 (.int .u64 x) (.int .i32 y) K w = K (.int .u64 (IntKind.u64.wrap (x * 2 ^ min y.toNat 64))) w := by
  unfold BinK; (first | (go_simp; rfl) | (go_simp; done))

theorem kbshl146_i64 (x y : Int) (h : 0 ≤ y) (K : Value → World → Prop) (w : World) : BinK Tryz.prog .shl 146 (.int .u64 x) (.int .i64 y) K w = K (.int .u64 (IntKind.u64.wrap (x * 2 ^ min y.toNat 64))) w := by
  unfold BinK; (first | (go_simp; rfl) | (go_simp; done))

theorem kbshl146_u16 (x y : Int) (h : 0 ≤ y) (K : Value → World → Prop) (w : World) : BinK Tryz.prog .shl 146 (.int .u64 x) (.int .u16 y) K w = K (.int .u64 (IntKind.u64.wrap (x * 2 ^ min y.toNat 64))) w := by
  unfold BinK; (first | (go_simp; rfl) | (go_simp; done))

theorem kbshl146_u32 (x y : Int) (h : 0 ≤ y) (K : Value → World → Prop) (w : World) : BinK Tryz.prog .shl 146 (.int .u64 x) (.int .u32 y) K w = K (.int .u64 (IntKind.u64.wrap (x * 2 ^ min y.toNat 64))) w := by
  unfold BinK; (first | (go_simp; rfl) | (go_simp; done))

theorem kbshl146_u64 (x y : Int) (h : 0 ≤ y) (K : Value → World → Prop) (w : World) : BinK Tryz.prog .shl 146 (.int .u64 x) (.int .u64 y) K w = K (.int .u64 (IntKind.u64.wrap (x * 2 ^ min y.toNat 64))) w := by
  unfold BinK; (first | (go_simp; rfl) | (go_simp; done))

theorem kbshl146_u8 (x y : Int) (h : 0 ≤ y) (K : Value → World → Prop) (w : World) : BinK Tryz.prog .shl 146 (.int .u64 x) (.int .u8 y) K w = K (.int .u64 (IntKind.u64.wrap (x * 2 ^ min y.toNat 64))) w := by
  unfold BinK; (first | (go_simp; rfl) | (go_simp; done))

theorem kblss2 (x y : Int) (K : Value → World → Prop) (w : World) : BinK Tryz.prog .lss 2 (.int .i64 x) (.int .i64 y) K w = K (.bool (decide (x < y))) w := by
  unfold BinK; (first | (go_simp; rfl) | (go_simp; done))

theorem kbadd2 (x y : Int) (K : Value → World → Prop) (w : World) : BinK Tryz.prog .add 2 (.int .i64 x) (.int .i64 y) K w = K (.int .i64 (IntKind.i64.wrap (x + y))) w := by
  unfold BinK; (first | (go_simp; rfl) | (go_simp; done))

theorem kbsub2 (x y : Int) (K : Value → World → Prop) (w : World) : BinK Tryz.prog .sub 2 (.int .i64 x) (.int .i64 y) K w = K (.int .i64 (IntKind.i64.wrap (x - y))) w := by
  unfold BinK; (first | (go_simp; rfl) | (go_simp; done))

theorem kbor146 (x y : Int) (K : Value → World → Prop) (w : World) : BinK Tryz.prog .or 146 (.int .u64 x) (.int .u64 y) K w = K (.int .u64 (bits .or .u64 x y)) w := by
  unfold BinK; (first | (go_simp; rfl) | (go_simp; done))

theorem kbgeq146 (x y : Int) (K : Value → World → Prop) (w : World) : BinK Tryz.prog .geq 146 (.int .u64 x) (.int .u64 y) K w = K (.bool (decide (y ≤ x))) w := by
  unfold BinK; (first | (go_simp; rfl) | (go_simp; done))

theorem kband146 (x y : Int) (K : Value → World → Prop) (w : World) : BinK Tryz.prog .and 146 (.int .u64 x) (.int .u64 y) K w = K (.int .u64 (bits .and .u64 x y)) w := by
  unfold BinK; (first | (go_simp; rfl) | (go_simp; done))

theorem kcv146_5 (x : Int) (K : Value → World → Prop) (w : World) : ConvK Tryz.prog 146 5 (.int .u64 x) K w = K (.int .u8 (IntKind.u8.wrap x)) w := by
  unfold ConvK; (first | (go_simp; rfl) | (go_simp; done))

theorem kbs29_1_0 (v0 : Int) (K : Value → World → Prop) (w : World) : BuildSliceK Tryz.prog 29 1 #[(0, (.int .u8 v0))] K w = K (.slice (some ⟨w.heap.size, 0, none⟩) 1 1) (w.alloc (.cells #[(.int .u8 v0)] 5)) := by
  unfold BuildSliceK; (first | (go_simp; rfl) | (go_simp; done))

theorem kbshr146_i32 (x y : Int) (h : 0 ≤ y) (K : Value → World → Prop) (w : World) : BinK Tryz.prog .shr 146 (.int .u64 x) (.int .i32 y) K w = K (.int .u64 (x / 2 ^ min y.toNat 64)) w := by
  unfold BinK; (first | (go_simp; rfl) | (go_simp; done))

theorem kbshr146_i64 (x y : Int) (h : 0 ≤ y) (K : Value → World → Prop) (w : World) : BinK Tryz.prog .shr 146 (.int .u64 x) (.int .i64 y) K w = K (.int .u64 (x / 2 ^ min y.toNat 64)) w := by
  unfold BinK; (first | (go_simp; rfl) | (go_simp; done))

theorem kbshr146_u16 (x y : Int) (h : 0 ≤ y) (K : Value → World → Prop) (w : World) : BinK Tryz.prog .shr 146 (.int .u64 x) (.int .u16 y) K w = K (.int .u64 (x / 2 ^ min y.toNat 64)) w := by
  unfold BinK; (first | (go_simp; rfl) | (go_simp; done))

theorem kbshr146_u32 (x y : Int) (h : 0 ≤ y) (K : Value → World → Prop) (w : World) : BinK Tryz.prog .shr 146 (.int .u64 x) (.int .u32 y) K w = K (.int .u64 (x / 2 ^ min y.toNat 64)) w := by
  unfold BinK; (first | (go_simp; rfl) | (go_simp; done))

theorem kbshr146_u64 (x y : Int) (h : 0 ≤ y) (K : Value → World → Prop) (w : World) : BinK Tryz.prog .shr 146 (.int .u64 x) (.int .u64 y) K w = K (.int .u64 (x / 2 ^ min y.toNat 64)) w := by
  unfold BinK; (first | (go_simp; rfl) | (go_simp; done))

theorem kbshr146_u8 (x y : Int) (h : 0 ≤ y) (K : Value → World → Prop) (w : World) : BinK Tryz.prog .shr 146 (.int .u64 x) (.int .u8 y) K w = K (.int .u64 (x / 2 ^ min y.toNat 64)) w := by
  unfold BinK; (first | (go_simp; rfl) | (go_simp; done))

theorem kbs43_1_0 (v0_0 : ByteArray) (v0_1_0 : Int) (v0_1_1 : Int) (v0_1_2 : Int) (v0_1_3 : ByteArray) (v0_2A : Option Addr) (v0_2n v0_2c : Nat) (K : Value → World → Prop) (w : World) : BuildSliceK Tryz.prog 43 1 #[(0, .agg #[(.string v0_0), (.int .i64 v0_1_0), (.int .i64 v0_1_1), (.int .i64 v0_1_2), (.string v0_1_3), (.slice v0_2A v0_2n v0_2c)])] K w = K (.slice (some ⟨w.heap.size, 0, none⟩) 1 1) (w.alloc (.cells #[(.string v0_0), (.int .i64 v0_1_0), (.int .i64 v0_1_1), (.int .i64 v0_1_2), (.string v0_1_3), (.slice v0_2A v0_2n v0_2c)] 26)) := by
  unfold BuildSliceK; (first | (go_simp; rfl) | (go_simp; done))

theorem kcv5_106 (x : Int) (K : Value → World → Prop) (w : World) : ConvK Tryz.prog 5 106 (.int .u8 x) K w = K (.int .u32 (IntKind.u32.wrap x)) w := by
  unfold ConvK; (first | (go_simp; rfl) | (go_simp; done))

theorem kbxor106 (x y : Int) (K : Value → World → Prop) (w : World) : BinK Tryz.prog .xor 106 (.int .u32 x) (.int .u32 y) K w = K (.int .u32 (bits .xor .u32 x y)) w := by
  unfold BinK; (first | (go_simp; rfl) | (go_simp; done))

theorem kband106 (x y : Int) (K : Value → World → Prop) (w : World) : BinK Tryz.prog .and 106 (.int .u32 x) (.int .u32 y) K w = K (.int .u32 (bits .and .u32 x y)) w := by
  unfold BinK; (first | (go_simp; rfl) | (go_simp; done))

theorem kbeql106 (x y : Int) (K : Value → World → Prop) (w : World) : BinK Tryz.prog .eql 106 (.int .u32 x) (.int .u32 y) K w = K (.bool (x == y)) w := by
  unfold BinK; (first | (go_simp; rfl) | (go_simp; done))

theorem kuxor106 (x : Int) (K : Value → World → Prop) (w : World) : UnK Tryz.prog .xor (.int .u32 x) K w = K (.int .u32 (bits .xor .u32 (if IntKind.u32.signed then -1 else IntKind.u32.max) x)) w := by
  unfold UnK; (first | (go_simp; rfl) | (go_simp; done))

theorem ksl29_010z (K : Value → World → Prop) (w : World) : SliceK Tryz.prog 29 (.slice none 0 0) none (some (.int .i64 0)) none K w = K (.slice none 0 0) w := by
  unfold SliceK; (first | (go_simp; rfl) | (go_simp; done) | (go_simp; split <;> simp_all))

theorem ksl29_010 (g o n c : Nat) (h : Int) (hb : 0 ≤ h ∧ h ≤ (c : Int)) (K : Value → World → Prop) (w : World) : SliceK Tryz.prog 29 (.slice (some ⟨g, o, none⟩) n c) none (some (.int .i64 h)) none K w = K (.slice (some ⟨g, o, none⟩) h.toNat c) w := by
  obtain ⟨q0, q1⟩ := hb
  unfold SliceK; (first | (go_simp; rfl) | (go_simp; done) | (go_simp; split <;> simp_all))

theorem kbd38_0 (v0 : ByteArray) (K : Value → World → Prop) (w : World) : BuildK Tryz.prog 38 #[(0, (.string v0))] K w = K (.agg #[(.string v0), .int .i64 0, .int .i64 0, .int .i64 0, .string ByteArray.empty, .slice none 0 0]) w := by
  unfold BuildK; (first | (go_simp; rfl) | (go_simp; done))

theorem kbd123_0 (v0 : ByteArray) (K : Value → World → Prop) (w : World) : BuildK Tryz.prog 123 #[(0, (.string v0))] K w = K (.agg #[(.string v0), .int .i64 0, .int .i64 0, .string ByteArray.empty, .slice none 0 0]) w := by
  unfold BuildK; (first | (go_simp; rfl) | (go_simp; done))

theorem kal123 (K : Value → World → Prop) (w : World) : AllocK Tryz.prog 123 K w = K (.pointer (some ⟨w.heap.size, 0, none⟩)) (w.alloc (.cells #[.string ByteArray.empty, .int .i64 0, .int .i64 0, .string ByteArray.empty, .slice none 0 0] 123)) := by
  unfold AllocK; (first | (go_simp; rfl) | (go_simp; done))

theorem kst123f (v_0 : ByteArray) (v_1_0 : Int) (v_1_1 : Int) (v_1_2 : ByteArray) (v_1_3A : Option Addr) (v_1_3n v_1_3c : Nat) (z0 z1 z2 z3 z4 : Value) (K : Value → World → Prop) (w : World) : StoreK Tryz.prog 123 (.pointer (some ⟨w.heap.size, 0, none⟩)) (.agg #[(.string v_0), (.int .i64 v_1_0), (.int .i64 v_1_1), (.string v_1_2), (.slice v_1_3A v_1_3n v_1_3c)]) K (w.alloc (.cells #[z0, z1, z2, z3, z4] 123)) = K undef (w.alloc (.cells #[(.string v_0), (.int .i64 v_1_0), (.int .i64 v_1_1), (.string v_1_2), (.slice v_1_3A v_1_3n v_1_3c)] 123)) := by
  unfold StoreK; (first | (go_simp; rfl) | (go_simp; done))

theorem kld123 (g o : Nat) (K : Value → World → Prop) (w : World) : LoadK Tryz.prog 123 (.pointer (some ⟨g, o, none⟩)) K w = OptK (w.cell? ⟨g, o, none⟩) (@hid _ ⟨fun v0 => OptK (w.cell? ⟨g, o + 1, none⟩) (@hid _ ⟨fun v1 => OptK (w.cell? ⟨g, o + 2, none⟩) (@hid _ ⟨fun v2 => OptK (w.cell? ⟨g, o + 3, none⟩) (@hid _ ⟨fun v3 => OptK (w.cell? ⟨g, o + 4, none⟩) (@hid _ ⟨fun v4 => K (.agg #[v0, v1, v2, v3, v4]) w⟩) (LoadRaw Tryz.prog 123 ⟨g, o, none⟩ K w)⟩) (LoadRaw Tryz.prog 123 ⟨g, o, none⟩ K w)⟩) (LoadRaw Tryz.prog 123 ⟨g, o, none⟩ K w)⟩) (LoadRaw Tryz.prog 123 ⟨g, o, none⟩ K w)⟩) (LoadRaw Tryz.prog 123 ⟨g, o, none⟩ K w) := by
  cases h0 : w.cell? ⟨g, o, none⟩ with
  | none => rfl
  | some v0 =>
  cases h1 : w.cell? ⟨g, o + 1, none⟩ with
  | none => rfl
  | some v1 =>
  cases h2 : w.cell? ⟨g, o + 2, none⟩ with
  | none => rfl
  | some v2 =>
  cases h3 : w.cell? ⟨g, o + 3, none⟩ with
  | none => rfl
  | some v3 =>
  cases h4 : w.cell? ⟨g, o + 4, none⟩ with
  | none => rfl
  | some v4 =>
  simp only [optK_some]
  unfold LoadK; (first | (go_simp; rfl) | (go_simp; done))

theorem kst36 (g o : Nat) (vA : Option Addr) (vn vc : Nat) (K : Value → World → Prop) (w : World) : StoreK Tryz.prog 36 (.pointer (some ⟨g, o, none⟩)) (.slice vA vn vc) K w = OptK (w.cell? ⟨g, o, none⟩) (@hid _ ⟨fun _ => FzK (w.frozen? ⟨g, o, none⟩) (@hid _ ⟨K undef (w.setCell ⟨g, o, none⟩ (.slice vA vn vc))⟩) (StoreRaw Tryz.prog 36 ⟨g, o, none⟩ (.slice vA vn vc) K w)⟩) (StoreRaw Tryz.prog 36 ⟨g, o, none⟩ (.slice vA vn vc) K w) := by
  cases h0 : w.cell? ⟨g, o, none⟩ with
  | none => rfl
  | some x =>
  cases f0 : w.frozen? ⟨g, o, none⟩ with
  | true => rfl
  | false =>
  simp only [optK_some, fzK_false]
  unfold StoreK; (first | (go_simp; rfl) | (go_simp; done))

theorem kfa112_0 (g o : Nat) (K : Value → World → Prop) (w : World) : FieldAtK Tryz.prog 112 (.pointer (some ⟨g, o, none⟩)) 0 K w = K (.pointer (some ⟨g, o, none⟩)) w := by
  unfold FieldAtK; (first | (go_simp; rfl) | (go_simp; done))

theorem kfa112_1 (g o : Nat) (K : Value → World → Prop) (w : World) : FieldAtK Tryz.prog 112 (.pointer (some ⟨g, o, none⟩)) 1 K w = K (.pointer (some ⟨g, o + 1, none⟩)) w := by
  unfold FieldAtK; (first | (go_simp; rfl) | (go_simp; done))

theorem kbgtr2 (x y : Int) (K : Value → World → Prop) (w : World) : BinK Tryz.prog .gtr 2 (.int .i64 x) (.int .i64 y) K w = K (.bool (decide (y < x))) w := by
  unfold BinK; (first | (go_simp; rfl) | (go_simp; done))

theorem kst3 (g o : Nat) (v : Int) (K : Value → World → Prop) (w : World) : StoreK Tryz.prog 3 (.pointer (some ⟨g, o, none⟩)) (.int .i64 v) K w = OptK (w.cell? ⟨g, o, none⟩) (@hid _ ⟨fun _ => FzK (w.frozen? ⟨g, o, none⟩) (@hid _ ⟨K undef (w.setCell ⟨g, o, none⟩ (.int .i64 v))⟩) (StoreRaw Tryz.prog 3 ⟨g, o, none⟩ (.int .i64 v) K w)⟩) (StoreRaw Tryz.prog 3 ⟨g, o, none⟩ (.int .i64 v) K w) := by
  cases h0 : w.cell? ⟨g, o, none⟩ with
  | none => rfl
  | some x =>
  cases f0 : w.frozen? ⟨g, o, none⟩ with
  | true => rfl
  | false =>
  simp only [optK_some, fzK_false]
  unfold StoreK; (first | (go_simp; rfl) | (go_simp; done))

theorem kbshr2_i32 (x y : Int) (h : 0 ≤ y) (K : Value → World → Prop) (w : World) : BinK Tryz.prog .shr 2 (.int .i64 x) (.int .i32 y) K w = K (.int .i64 (x / 2 ^ min y.toNat 64)) w := by
  unfold BinK; (first | (go_simp; rfl) | (go_simp; done))

theorem kbshr2_i64 (x y : Int) (h : 0 ≤ y) (K : Value → World → Prop) (w : World) : BinK Tryz.prog .shr 2 (.int .i64 x) (.int .i64 y) K w = K (.int .i64 (x / 2 ^ min y.toNat 64)) w := by
  unfold BinK; (first | (go_simp; rfl) | (go_simp; done))

theorem kbshr2_u16 (x y : Int) (h : 0 ≤ y) (K : Value → World → Prop) (w : World) : BinK Tryz.prog .shr 2 (.int .i64 x) (.int .u16 y) K w = K (.int .i64 (x / 2 ^ min y.toNat 64)) w := by
  unfold BinK; (first | (go_simp; rfl) | (go_simp; done))

theorem kbshr2_u32 (x y : Int) (h : 0 ≤ y) (K : Value → World → Prop) (w : World) : BinK Tryz.prog .shr 2 (.int .i64 x) (.int .u32 y) K w = K (.int .i64 (x / 2 ^ min y.toNat 64)) w := by
  unfold BinK; (first | (go_simp; rfl) | (go_simp; done))

theorem kbshr2_u64 (x y : Int) (h : 0 ≤ y) (K : Value → World → Prop) (w : World) : BinK Tryz.prog .shr 2 (.int .i64 x) (.int .u64 y) K w = K (.int .i64 (x / 2 ^ min y.toNat 64)) w := by
  unfold BinK; (first | (go_simp; rfl) | (go_simp; done))

theorem kbshr2_u8 (x y : Int) (h : 0 ≤ y) (K : Value → World → Prop) (w : World) : BinK Tryz.prog .shr 2 (.int .i64 x) (.int .u8 y) K w = K (.int .i64 (x / 2 ^ min y.toNat 64)) w := by
  unfold BinK; (first | (go_simp; rfl) | (go_simp; done))

theorem kbxor146 (x y : Int) (K : Value → World → Prop) (w : World) : BinK Tryz.prog .xor 146 (.int .u64 x) (.int .u64 y) K w = K (.int .u64 (bits .xor .u64 x y)) w := by
  unfold BinK; (first | (go_simp; rfl) | (go_simp; done))

theorem kbor5 (x y : Int) (K : Value → World → Prop) (w : World) : BinK Tryz.prog .or 5 (.int .u8 x) (.int .u8 y) K w = K (.int .u8 (bits .or .u8 x y)) w := by
  unfold BinK; (first | (go_simp; rfl) | (go_simp; done))

theorem kst29 (g o : Nat) (vA : Option Addr) (vn vc : Nat) (K : Value → World → Prop) (w : World) : StoreK Tryz.prog 29 (.pointer (some ⟨g, o, none⟩)) (.slice vA vn vc) K w = OptK (w.cell? ⟨g, o, none⟩) (@hid _ ⟨fun _ => FzK (w.frozen? ⟨g, o, none⟩) (@hid _ ⟨K undef (w.setCell ⟨g, o, none⟩ (.slice vA vn vc))⟩) (StoreRaw Tryz.prog 29 ⟨g, o, none⟩ (.slice vA vn vc) K w)⟩) (StoreRaw Tryz.prog 29 ⟨g, o, none⟩ (.slice vA vn vc) K w) := by
  cases h0 : w.cell? ⟨g, o, none⟩ with
  | none => rfl
  | some x =>
  cases f0 : w.frozen? ⟨g, o, none⟩ with
  | true => rfl
  | false =>
  simp only [optK_some, fzK_false]
  unfold StoreK; (first | (go_simp; rfl) | (go_simp; done))

theorem klen150 (A : Option Addr) (n c : Nat) (K : Value → World → Prop) (w : World) : BuiltinK Tryz.prog .len #[150] 3 #[false] #[(.slice A n c)] K w = K (.int .i64 (n : Int)) w := by
  unfold BuiltinK; (first | (go_simp; rfl) | (go_simp; done))

theorem hlen150 (A : Option Addr) (n c : Nat) {K : Value → Prop} {w1 : World} : TakeO Tryz.prog (fun w' => w' = w1) (builtin .len #[150] 3 #[false] #[(.slice A n c)]) K = K (.int .i64 (n : Int)) := by
  exact here_o (fun w => by (first | (go_simp; rfl) | (go_simp; done)))

theorem kia150 (g o n c : Nat) (i : Int) (h : 0 ≤ i ∧ i < (n : Int)) (K : Value → World → Prop) (w : World) : IndexAtK Tryz.prog 150 (.slice (some ⟨g, o, none⟩) n c) (.int .i64 i) K w = K (.pointer (some ⟨g, o + i.toNat, none⟩)) w := by
  obtain ⟨h0, h1⟩ := h
  unfold IndexAtK; (first | (go_simp; rfl) | (go_simp; done))

theorem kld64 (g o : Nat) (K : Value → World → Prop) (w : World) : LoadK Tryz.prog 64 (.pointer (some ⟨g, o, none⟩)) K w = OptK (w.cell? ⟨g, o, none⟩) (@hid _ ⟨fun v0 => OptK (w.cell? ⟨g, o + 1, none⟩) (@hid _ ⟨fun v1 => OptK (w.cell? ⟨g, o + 2, none⟩) (@hid _ ⟨fun v2 => OptK (w.cell? ⟨g, o + 3, none⟩) (@hid _ ⟨fun v3 => OptK (w.cell? ⟨g, o + 4, none⟩) (@hid _ ⟨fun v4 => K (.agg #[v0, v1, v2, v3, v4]) w⟩) (LoadRaw Tryz.prog 64 ⟨g, o, none⟩ K w)⟩) (LoadRaw Tryz.prog 64 ⟨g, o, none⟩ K w)⟩) (LoadRaw Tryz.prog 64 ⟨g, o, none⟩ K w)⟩) (LoadRaw Tryz.prog 64 ⟨g, o, none⟩ K w)⟩) (LoadRaw Tryz.prog 64 ⟨g, o, none⟩ K w) := by
  cases h0 : w.cell? ⟨g, o, none⟩ with
  | none => rfl
  | some v0 =>
  cases h1 : w.cell? ⟨g, o + 1, none⟩ with
  | none => rfl
  | some v1 =>
  cases h2 : w.cell? ⟨g, o + 2, none⟩ with
  | none => rfl
  | some v2 =>
  cases h3 : w.cell? ⟨g, o + 3, none⟩ with
  | none => rfl
  | some v3 =>
  cases h4 : w.cell? ⟨g, o + 4, none⟩ with
  | none => rfl
  | some v4 =>
  simp only [optK_some]
  unfold LoadK; (first | (go_simp; rfl) | (go_simp; done))

theorem kal64 (K : Value → World → Prop) (w : World) : AllocK Tryz.prog 64 K w = K (.pointer (some ⟨w.heap.size, 0, none⟩)) (w.alloc (.cells #[.string ByteArray.empty, .int .i64 0, .int .i64 0, .string ByteArray.empty, .slice none 0 0] 64)) := by
  unfold AllocK; (first | (go_simp; rfl) | (go_simp; done))

theorem kst64f (v_0 : ByteArray) (v_1_0 : Int) (v_1_1 : Int) (v_1_2 : ByteArray) (v_1_3A : Option Addr) (v_1_3n v_1_3c : Nat) (z0 z1 z2 z3 z4 : Value) (K : Value → World → Prop) (w : World) : StoreK Tryz.prog 64 (.pointer (some ⟨w.heap.size, 0, none⟩)) (.agg #[(.string v_0), (.int .i64 v_1_0), (.int .i64 v_1_1), (.string v_1_2), (.slice v_1_3A v_1_3n v_1_3c)]) K (w.alloc (.cells #[z0, z1, z2, z3, z4] 64)) = K undef (w.alloc (.cells #[(.string v_0), (.int .i64 v_1_0), (.int .i64 v_1_1), (.string v_1_2), (.slice v_1_3A v_1_3n v_1_3c)] 64)) := by
  unfold StoreK; (first | (go_simp; rfl) | (go_simp; done))

theorem kbx64 (v_0 : ByteArray) (v_1_0 : Int) (v_1_1 : Int) (v_1_2 : ByteArray) (v_1_3A : Option Addr) (v_1_3n v_1_3c : Nat) (K : Value → World → Prop) (w : World) : BoxK Tryz.prog 64 (.agg #[(.string v_0), (.int .i64 v_1_0), (.int .i64 v_1_1), (.string v_1_2), (.slice v_1_3A v_1_3n v_1_3c)]) K w = K (.pointer (some ⟨w.heap.size, 0, none⟩)) (w.alloc (.cells #[(.string v_0), (.int .i64 v_1_0), (.int .i64 v_1_1), (.string v_1_2), (.slice v_1_3A v_1_3n v_1_3c)] 64)) := by
  unfold BoxK; (first | (go_simp; rfl) | (go_simp; done))

theorem ksl29_011 (g o n c : Nat) (h m : Int) (hb : 0 ≤ h ∧ h ≤ m ∧ m ≤ (c : Int)) (K : Value → World → Prop) (w : World) : SliceK Tryz.prog 29 (.slice (some ⟨g, o, none⟩) n c) none (some (.int .i64 h)) (some (.int .i64 m)) K w = K (.slice (some ⟨g, o, none⟩) h.toNat m.toNat) w := by
  obtain ⟨q0, q1, q2⟩ := hb
  unfold SliceK; (first | (go_simp; rfl) | (go_simp; done) | (go_simp; split <;> simp_all))

theorem ksl29_011z (K : Value → World → Prop) (w : World) : SliceK Tryz.prog 29 (.slice none 0 0) none (some (.int .i64 0)) (some (.int .i64 0)) K w = K (.slice none 0 0) w := by
  unfold SliceK; (first | (go_simp; rfl) | (go_simp; done) | (go_simp; split <;> simp_all))

theorem kbeql29n (a : Addr) (n c : Nat) (K : Value → World → Prop) (w : World) : BinK Tryz.prog .eql 29 (.slice (some a) n c) (.slice none 0 0) K w = K (.bool false) w := by
  unfold BinK; (first | (go_simp; rfl) | (go_simp; done))

theorem kbeql29z (n c : Nat) (K : Value → World → Prop) (w : World) : BinK Tryz.prog .eql 29 (.slice none n c) (.slice none 0 0) K w = K (.bool true) w := by
  unfold BinK; (first | (go_simp; rfl) | (go_simp; done))

theorem kst30 (g o : Nat) (v : Int) (K : Value → World → Prop) (w : World) : StoreK Tryz.prog 30 (.pointer (some ⟨g, o, none⟩)) (.int .i64 v) K w = OptK (w.cell? ⟨g, o, none⟩) (@hid _ ⟨fun _ => FzK (w.frozen? ⟨g, o, none⟩) (@hid _ ⟨K undef (w.setCell ⟨g, o, none⟩ (.int .i64 v))⟩) (StoreRaw Tryz.prog 30 ⟨g, o, none⟩ (.int .i64 v) K w)⟩) (StoreRaw Tryz.prog 30 ⟨g, o, none⟩ (.int .i64 v) K w) := by
  cases h0 : w.cell? ⟨g, o, none⟩ with
  | none => rfl
  | some x =>
  cases f0 : w.frozen? ⟨g, o, none⟩ with
  | true => rfl
  | false =>
  simp only [optK_some, fzK_false]
  unfold StoreK; (first | (go_simp; rfl) | (go_simp; done))

theorem kcv146_2 (x : Int) (K : Value → World → Prop) (w : World) : ConvK Tryz.prog 146 2 (.int .u64 x) K w = K (.int .i64 (IntKind.i64.wrap x)) w := by
  unfold ConvK; (first | (go_simp; rfl) | (go_simp; done))

theorem kuneg2 (x : Int) (K : Value → World → Prop) (w : World) : UnK Tryz.prog .neg (.int .i64 x) K w = K (.int .i64 (IntKind.i64.wrap (-x))) w := by
  unfold UnK; (first | (go_simp; rfl) | (go_simp; done))

theorem kbxor2 (x y : Int) (K : Value → World → Prop) (w : World) : BinK Tryz.prog .xor 2 (.int .i64 x) (.int .i64 y) K w = K (.int .i64 (bits .xor .i64 x y)) w := by
  unfold BinK; (first | (go_simp; rfl) | (go_simp; done))

theorem ksl29_100z (K : Value → World → Prop) (w : World) : SliceK Tryz.prog 29 (.slice none 0 0) (some (.int .i64 0)) none none K w = K (.slice none 0 0) w := by
  unfold SliceK; (first | (go_simp; rfl) | (go_simp; done) | (go_simp; split <;> simp_all))

theorem ksl29_100 (g o n c : Nat) (l : Int) (hb : 0 ≤ l ∧ l ≤ (n : Int)) (K : Value → World → Prop) (w : World) : SliceK Tryz.prog 29 (.slice (some ⟨g, o, none⟩) n c) (some (.int .i64 l)) none none K w = K (.slice (if c = l.toNat then some ⟨g, o, none⟩ else some ⟨g, o + l.toNat, none⟩) (n - l.toNat) (c - l.toNat)) w := by
  obtain ⟨q0, q1⟩ := hb
  unfold SliceK; (first | (go_simp; rfl) | (go_simp; done) | (go_simp; split <;> simp_all))

theorem kblss9 (x y : ByteArray) (K : Value → World → Prop) (w : World) : BinK Tryz.prog .lss 9 (.string x) (.string y) K w = K (.bool (Op.bytesLess x.toList y.toList)) w := by
  unfold BinK; (first | (go_simp; rfl) | (go_simp; done))

theorem kbgtr9 (x y : ByteArray) (K : Value → World → Prop) (w : World) : BinK Tryz.prog .gtr 9 (.string x) (.string y) K w = K (.bool (!(Op.bytesLess x.toList y.toList || x.toList == y.toList))) w := by
  unfold BinK; (first | (go_simp; rfl) | (go_simp; done))

theorem kblss5 (x y : Int) (K : Value → World → Prop) (w : World) : BinK Tryz.prog .lss 5 (.int .u8 x) (.int .u8 y) K w = K (.bool (decide (x < y))) w := by
  unfold BinK; (first | (go_simp; rfl) | (go_simp; done))

theorem kbgtr5 (x y : Int) (K : Value → World → Prop) (w : World) : BinK Tryz.prog .gtr 5 (.int .u8 x) (.int .u8 y) K w = K (.bool (decide (y < x))) w := by
  unfold BinK; (first | (go_simp; rfl) | (go_simp; done))

theorem kbgeq2 (x y : Int) (K : Value → World → Prop) (w : World) : BinK Tryz.prog .geq 2 (.int .i64 x) (.int .i64 y) K w = K (.bool (decide (y ≤ x))) w := by
  unfold BinK; (first | (go_simp; rfl) | (go_simp; done))

theorem kbmul3 (x y : Int) (K : Value → World → Prop) (w : World) : BinK Tryz.prog .mul 3 (.int .i64 x) (.int .i64 y) K w = K (.int .i64 (IntKind.i64.wrap (x * y))) w := by
  unfold BinK; (first | (go_simp; rfl) | (go_simp; done))

theorem ksl43_011 (g o n c : Nat) (h m : Int) (hb : 0 ≤ h ∧ h ≤ m ∧ m ≤ (c : Int)) (K : Value → World → Prop) (w : World) : SliceK Tryz.prog 43 (.slice (some ⟨g, o, none⟩) n c) none (some (.int .i64 h)) (some (.int .i64 m)) K w = K (.slice (some ⟨g, o, none⟩) h.toNat m.toNat) w := by
  obtain ⟨q0, q1, q2⟩ := hb
  unfold SliceK; (first | (go_simp; rfl) | (go_simp; done) | (go_simp; split <;> simp_all))

theorem ksl43_011z (K : Value → World → Prop) (w : World) : SliceK Tryz.prog 43 (.slice none 0 0) none (some (.int .i64 0)) (some (.int .i64 0)) K w = K (.slice none 0 0) w := by
  unfold SliceK; (first | (go_simp; rfl) | (go_simp; done) | (go_simp; split <;> simp_all))

theorem ksl29_110 (g o n c : Nat) (l : Int) (h : Int) (hb : 0 ≤ l ∧ l ≤ h ∧ h ≤ (c : Int)) (K : Value → World → Prop) (w : World) : SliceK Tryz.prog 29 (.slice (some ⟨g, o, none⟩) n c) (some (.int .i64 l)) (some (.int .i64 h)) none K w = K (.slice (if c = l.toNat then some ⟨g, o, none⟩ else some ⟨g, o + l.toNat, none⟩) (h.toNat - l.toNat) (c - l.toNat)) w := by
  obtain ⟨q0, q1, q2⟩ := hb
  unfold SliceK; (first | (go_simp; rfl) | (go_simp; done) | (go_simp; split <;> simp_all))

theorem kbd35_0 (v0 : Int) (K : Value → World → Prop) (w : World) : BuildK Tryz.prog 35 #[(0, (.int .i64 v0))] K w = K (.agg #[(.int .i64 v0), .int .i64 0, .int .i64 0, .string ByteArray.empty]) w := by
  unfold BuildK; (first | (go_simp; rfl) | (go_simp; done))

theorem kbd35_  (K : Value → World → Prop) (w : World) : BuildK Tryz.prog 35 #[] K w = K (.agg #[.int .i64 0, .int .i64 0, .int .i64 0, .string ByteArray.empty]) w := by
  unfold BuildK; (first | (go_simp; rfl) | (go_simp; done))

theorem kbd72_0 (v0 : Int) (K : Value → World → Prop) (w : World) : BuildK Tryz.prog 72 #[(0, (.int .i64 v0))] K w = K (.agg #[(.int .i64 v0), .int .i64 0, .string ByteArray.empty, .slice none 0 0]) w := by
  unfold BuildK; (first | (go_simp; rfl) | (go_simp; done))

theorem kbd72_  (K : Value → World → Prop) (w : World) : BuildK Tryz.prog 72 #[] K w = K (.agg #[.int .i64 0, .int .i64 0, .string ByteArray.empty, .slice none 0 0]) w := by
  unfold BuildK; (first | (go_simp; rfl) | (go_simp; done))

theorem kcv5_146 (x : Int) (K : Value → World → Prop) (w : World) : ConvK Tryz.prog 5 146 (.int .u8 x) K w = K (.int .u64 (IntKind.u64.wrap x)) w := by
  unfold ConvK; (first | (go_simp; rfl) | (go_simp; done))

theorem kbgtr146 (x y : Int) (K : Value → World → Prop) (w : World) : BinK Tryz.prog .gtr 146 (.int .u64 x) (.int .u64 y) K w = K (.bool (decide (y < x))) w := by
  unfold BinK; (first | (go_simp; rfl) | (go_simp; done))

theorem kbeql146 (x y : Int) (K : Value → World → Prop) (w : World) : BinK Tryz.prog .eql 146 (.int .u64 x) (.int .u64 y) K w = K (.bool (x == y)) w := by
  unfold BinK; (first | (go_simp; rfl) | (go_simp; done))

theorem kcv3_108 (x : Int) (K : Value → World → Prop) (w : World) : ConvK Tryz.prog 3 108 (.int .i64 x) K w = K (.int .u64 (IntKind.u64.wrap x)) w := by
  unfold ConvK; (first | (go_simp; rfl) | (go_simp; done))

theorem kblss146 (x y : Int) (K : Value → World → Prop) (w : World) : BinK Tryz.prog .lss 146 (.int .u64 x) (.int .u64 y) K w = K (.bool (decide (x < y))) w := by
  unfold BinK; (first | (go_simp; rfl) | (go_simp; done))

theorem kbandNot5 (x y : Int) (K : Value → World → Prop) (w : World) : BinK Tryz.prog .andNot 5 (.int .u8 x) (.int .u8 y) K w = K (.int .u8 (bits .andNot .u8 x y)) w := by
  unfold BinK; (first | (go_simp; rfl) | (go_simp; done))

theorem ksl59_011 (g o n c : Nat) (h m : Int) (hb : 0 ≤ h ∧ h ≤ m ∧ m ≤ (c : Int)) (K : Value → World → Prop) (w : World) : SliceK Tryz.prog 59 (.slice (some ⟨g, o, none⟩) n c) none (some (.int .i64 h)) (some (.int .i64 m)) K w = K (.slice (some ⟨g, o, none⟩) h.toNat m.toNat) w := by
  obtain ⟨q0, q1, q2⟩ := hb
  unfold SliceK; (first | (go_simp; rfl) | (go_simp; done) | (go_simp; split <;> simp_all))

theorem ksl59_011z (K : Value → World → Prop) (w : World) : SliceK Tryz.prog 59 (.slice none 0 0) none (some (.int .i64 0)) (some (.int .i64 0)) K w = K (.slice none 0 0) w := by
  unfold SliceK; (first | (go_simp; rfl) | (go_simp; done) | (go_simp; split <;> simp_all))

theorem ksl24_011 (g o n c : Nat) (h m : Int) (hb : 0 ≤ h ∧ h ≤ m ∧ m ≤ (c : Int)) (K : Value → World → Prop) (w : World) : SliceK Tryz.prog 24 (.slice (some ⟨g, o, none⟩) n c) none (some (.int .i64 h)) (some (.int .i64 m)) K w = K (.slice (some ⟨g, o, none⟩) h.toNat m.toNat) w := by
  obtain ⟨q0, q1, q2⟩ := hb
  unfold SliceK; (first | (go_simp; rfl) | (go_simp; done) | (go_simp; split <;> simp_all))

theorem ksl24_011z (K : Value → World → Prop) (w : World) : SliceK Tryz.prog 24 (.slice none 0 0) none (some (.int .i64 0)) (some (.int .i64 0)) K w = K (.slice none 0 0) w := by
  unfold SliceK; (first | (go_simp; rfl) | (go_simp; done) | (go_simp; split <;> simp_all))

theorem kbleq2 (x y : Int) (K : Value → World → Prop) (w : World) : BinK Tryz.prog .leq 2 (.int .i64 x) (.int .i64 y) K w = K (.bool (decide (x ≤ y))) w := by
  unfold BinK; (first | (go_simp; rfl) | (go_simp; done))

theorem klen145 (A : Option Addr) (n c : Nat) (K : Value → World → Prop) (w : World) : BuiltinK Tryz.prog .len #[145] 3 #[false] #[(.slice A n c)] K w = K (.int .i64 (n : Int)) w := by
  unfold BuiltinK; (first | (go_simp; rfl) | (go_simp; done))

theorem hlen145 (A : Option Addr) (n c : Nat) {K : Value → Prop} {w1 : World} : TakeO Tryz.prog (fun w' => w' = w1) (builtin .len #[145] 3 #[false] #[(.slice A n c)]) K = K (.int .i64 (n : Int)) := by
  exact here_o (fun w => by (first | (go_simp; rfl) | (go_simp; done)))

theorem kbgeq3 (x y : Int) (K : Value → World → Prop) (w : World) : BinK Tryz.prog .geq 3 (.int .i64 x) (.int .i64 y) K w = K (.bool (decide (y ≤ x))) w := by
  unfold BinK; (first | (go_simp; rfl) | (go_simp; done))

theorem kbgeq5 (x y : Int) (K : Value → World → Prop) (w : World) : BinK Tryz.prog .geq 5 (.int .u8 x) (.int .u8 y) K w = K (.bool (decide (y ≤ x))) w := by
  unfold BinK; (first | (go_simp; rfl) | (go_simp; done))

theorem kbleq5 (x y : Int) (K : Value → World → Prop) (w : World) : BinK Tryz.prog .leq 5 (.int .u8 x) (.int .u8 y) K w = K (.bool (decide (x ≤ y))) w := by
  unfold BinK; (first | (go_simp; rfl) | (go_simp; done))

theorem kbneq5 (x y : Int) (K : Value → World → Prop) (w : World) : BinK Tryz.prog .neq 5 (.int .u8 x) (.int .u8 y) K w = K (.bool (x != y)) w := by
  unfold BinK; (first | (go_simp; rfl) | (go_simp; done))

theorem qkbeql3 (x y : Int)  {K : Value → Prop} {T : Nat → Prop} {w1 : World} : BinT Tryz.prog (Chs T w1) .eql 3 (.int .i64 x) (.int .i64 y) (@hid _ ⟨K⟩) = K (.bool (x == y)) := tk_B (fun w' => (kbeql3 x y (fun v' w'' => v' = (.bool (x == y)) ∧ w'' = w') w').mpr ⟨rfl, rfl⟩)

theorem qkld26 {g o : Nat} {v0 v1 v2 v3 v4 v5 : Value} {K : Value → Prop} {T : Nat → Prop} {w1 : World} (hc : ∀ w', Chs T w1 w' → w'.cell? ⟨g, o, none⟩ = some v0 ∧ w'.cell? ⟨g, o + 1, none⟩ = some v1 ∧ w'.cell? ⟨g, o + 2, none⟩ = some v2 ∧ w'.cell? ⟨g, o + 3, none⟩ = some v3 ∧ w'.cell? ⟨g, o + 4, none⟩ = some v4 ∧ w'.cell? ⟨g, o + 5, none⟩ = some v5) : TakeS Tryz.prog (Chs T w1) (Instr.loadAt 26 (.pointer (some ⟨g, o, none⟩))) (@hid _ ⟨K⟩) = K (.agg #[v0, v1, v2, v3, v4, v5]) := tk_S (fun w' hq => (kld26 g o (fun v' w'' => v' = .agg #[v0, v1, v2, v3, v4, v5] ∧ w'' = w') w').mpr (by obtain ⟨h0, h1, h2, h3, h4, h5⟩ := hc w' hq; simp only [h0, h1, h2, h3, h4, h5, optK_some']; first | exact ⟨rfl, rfl⟩ | exact ⟨trivial, rfl⟩ | exact ⟨trivial, trivial⟩))

theorem qkbneq3 (x y : Int)  {K : Value → Prop} {T : Nat → Prop} {w1 : World} : BinT Tryz.prog (Chs T w1) .neq 3 (.int .i64 x) (.int .i64 y) (@hid _ ⟨K⟩) = K (.bool (x != y)) := tk_B (fun w' => (kbneq3 x y (fun v' w'' => v' = (.bool (x != y)) ∧ w'' = w') w').mpr ⟨rfl, rfl⟩)

theorem qkld38 {g o : Nat} {v0 v1 v2 v3 v4 v5 : Value} {K : Value → Prop} {T : Nat → Prop} {w1 : World} (hc : ∀ w', Chs T w1 w' → w'.cell? ⟨g, o, none⟩ = some v0 ∧ w'.cell? ⟨g, o + 1, none⟩ = some v1 ∧ w'.cell? ⟨g, o + 2, none⟩ = some v2 ∧ w'.cell? ⟨g, o + 3, none⟩ = some v3 ∧ w'.cell? ⟨g, o + 4, none⟩ = some v4 ∧ w'.cell? ⟨g, o + 5, none⟩ = some v5) : TakeS Tryz.prog (Chs T w1) (Instr.loadAt 38 (.pointer (some ⟨g, o, none⟩))) (@hid _ ⟨K⟩) = K (.agg #[v0, v1, v2, v3, v4, v5]) := tk_S (fun w' hq => (kld38 g o (fun v' w'' => v' = .agg #[v0, v1, v2, v3, v4, v5] ∧ w'' = w') w').mpr (by obtain ⟨h0, h1, h2, h3, h4, h5⟩ := hc w' hq; simp only [h0, h1, h2, h3, h4, h5, optK_some']; first | exact ⟨rfl, rfl⟩ | exact ⟨trivial, rfl⟩ | exact ⟨trivial, trivial⟩))

theorem qkld61 {g o : Nat} {v0 v1 v2 v3 : Value} {K : Value → Prop} {T : Nat → Prop} {w1 : World} (hc : ∀ w', Chs T w1 w' → w'.cell? ⟨g, o, none⟩ = some v0 ∧ w'.cell? ⟨g, o + 1, none⟩ = some v1 ∧ w'.cell? ⟨g, o + 2, none⟩ = some v2 ∧ w'.cell? ⟨g, o + 3, none⟩ = some v3) : TakeS Tryz.prog (Chs T w1) (Instr.loadAt 61 (.pointer (some ⟨g, o, none⟩))) (@hid _ ⟨K⟩) = K (.agg #[v0, v1, v2, v3]) := tk_S (fun w' hq => (kld61 g o (fun v' w'' => v' = .agg #[v0, v1, v2, v3] ∧ w'' = w') w').mpr (by obtain ⟨h0, h1, h2, h3⟩ := hc w' hq; simp only [h0, h1, h2, h3, optK_some']; first | exact ⟨rfl, rfl⟩ | exact ⟨trivial, rfl⟩ | exact ⟨trivial, trivial⟩))

theorem qkld23 {g o : Nat} {v0 v1 v2 v3 : Value} {K : Value → Prop} {T : Nat → Prop} {w1 : World} (hc : ∀ w', Chs T w1 w' → w'.cell? ⟨g, o, none⟩ = some v0 ∧ w'.cell? ⟨g, o + 1, none⟩ = some v1 ∧ w'.cell? ⟨g, o + 2, none⟩ = some v2 ∧ w'.cell? ⟨g, o + 3, none⟩ = some v3) : TakeS Tryz.prog (Chs T w1) (Instr.loadAt 23 (.pointer (some ⟨g, o, none⟩))) (@hid _ ⟨K⟩) = K (.agg #[v0, v1, v2, v3]) := tk_S (fun w' hq => (kld23 g o (fun v' w'' => v' = .agg #[v0, v1, v2, v3] ∧ w'' = w') w').mpr (by obtain ⟨h0, h1, h2, h3⟩ := hc w' hq; simp only [h0, h1, h2, h3, optK_some']; first | exact ⟨rfl, rfl⟩ | exact ⟨trivial, rfl⟩ | exact ⟨trivial, trivial⟩))

theorem qkbneq9 (x y : ByteArray)  {K : Value → Prop} {T : Nat → Prop} {w1 : World} : BinT Tryz.prog (Chs T w1) .neq 9 (.string x) (.string y) (@hid _ ⟨K⟩) = K (.bool (!(x.toList == y.toList))) := tk_B (fun w' => (kbneq9 x y (fun v' w'' => v' = (.bool (!(x.toList == y.toList))) ∧ w'' = w') w').mpr ⟨rfl, rfl⟩)

theorem qkfa61_0 (g o : Nat)  {K : Value → Prop} {T : Nat → Prop} {w1 : World} : TakeS Tryz.prog (Chs T w1) (Instr.fieldAt 61 (.pointer (some ⟨g, o, none⟩)) 0) (@hid _ ⟨K⟩) = K (.pointer (some ⟨g, o, none⟩)) := tk_S (fun w' _ => (kfa61_0 g o (fun v' w'' => v' = (.pointer (some ⟨g, o, none⟩)) ∧ w'' = w') w').mpr ⟨rfl, rfl⟩)

theorem qkld3 {a : Addr} {v : Value} {K : Value → Prop} {T : Nat → Prop} {w1 : World} (hc : ∀ w', Chs T w1 w' → w'.cell? a = some v) : TakeS Tryz.prog (Chs T w1) (Instr.loadAt 3 (.pointer (some a))) (@hid _ ⟨K⟩) = K v := tk_S (fun w' hq => (kld3 a (fun v' w'' => v' = v ∧ w'' = w') w').mpr (by rw [hc w' hq]; exact ⟨rfl, rfl⟩))

theorem qkfa26_0 (g o : Nat)  {K : Value → Prop} {T : Nat → Prop} {w1 : World} : TakeS Tryz.prog (Chs T w1) (Instr.fieldAt 26 (.pointer (some ⟨g, o, none⟩)) 0) (@hid _ ⟨K⟩) = K (.pointer (some ⟨g, o, none⟩)) := tk_S (fun w' _ => (kfa26_0 g o (fun v' w'' => v' = (.pointer (some ⟨g, o, none⟩)) ∧ w'' = w') w').mpr ⟨rfl, rfl⟩)

theorem qkld9 {a : Addr} {v : Value} {K : Value → Prop} {T : Nat → Prop} {w1 : World} (hc : ∀ w', Chs T w1 w' → w'.cell? a = some v) : TakeS Tryz.prog (Chs T w1) (Instr.loadAt 9 (.pointer (some a))) (@hid _ ⟨K⟩) = K v := tk_S (fun w' hq => (kld9 a (fun v' w'' => v' = v ∧ w'' = w') w').mpr (by rw [hc w' hq]; exact ⟨rfl, rfl⟩))

theorem qkfa26_1 (g o : Nat)  {K : Value → Prop} {T : Nat → Prop} {w1 : World} : TakeS Tryz.prog (Chs T w1) (Instr.fieldAt 26 (.pointer (some ⟨g, o, none⟩)) 1) (@hid _ ⟨K⟩) = K (.pointer (some ⟨g, o + 1, none⟩)) := tk_S (fun w' _ => (kfa26_1 g o (fun v' w'' => v' = (.pointer (some ⟨g, o + 1, none⟩)) ∧ w'' = w') w').mpr ⟨rfl, rfl⟩)

theorem qkfa26_2 (g o : Nat)  {K : Value → Prop} {T : Nat → Prop} {w1 : World} : TakeS Tryz.prog (Chs T w1) (Instr.fieldAt 26 (.pointer (some ⟨g, o, none⟩)) 2) (@hid _ ⟨K⟩) = K (.pointer (some ⟨g, o + 5, none⟩)) := tk_S (fun w' _ => (kfa26_2 g o (fun v' w'' => v' = (.pointer (some ⟨g, o + 5, none⟩)) ∧ w'' = w') w').mpr ⟨rfl, rfl⟩)

theorem qkld24 {a : Addr} {v : Value} {K : Value → Prop} {T : Nat → Prop} {w1 : World} (hc : ∀ w', Chs T w1 w' → w'.cell? a = some v) : TakeS Tryz.prog (Chs T w1) (Instr.loadAt 24 (.pointer (some a))) (@hid _ ⟨K⟩) = K v := tk_S (fun w' hq => (kld24 a (fun v' w'' => v' = v ∧ w'' = w') w').mpr (by rw [hc w' hq]; exact ⟨rfl, rfl⟩))

theorem qkia43 (g o n c : Nat) (i : Int) (h : 0 ≤ i ∧ i < (n : Int))  {K : Value → Prop} {T : Nat → Prop} {w1 : World} : TakeS Tryz.prog (Chs T w1) (Instr.indexAt 43 (.slice (some ⟨g, o, none⟩) n c) (.int .i64 i)) (@hid _ ⟨K⟩) = K (.pointer (some ⟨g, o + i.toNat * 6, none⟩)) := tk_S (fun w' _ => (kia43 g o n c i h (fun v' w'' => v' = (.pointer (some ⟨g, o + i.toNat * 6, none⟩)) ∧ w'' = w') w').mpr ⟨rfl, rfl⟩)

theorem qkia47 (g o n c : Nat) (i : Int) (h : 0 ≤ i ∧ i < (n : Int))  {K : Value → Prop} {T : Nat → Prop} {w1 : World} : TakeS Tryz.prog (Chs T w1) (Instr.indexAt 47 (.slice (some ⟨g, o, none⟩) n c) (.int .i64 i)) (@hid _ ⟨K⟩) = K (.pointer (some ⟨g, o + i.toNat * 6, none⟩)) := tk_S (fun w' _ => (kia47 g o n c i h (fun v' w'' => v' = (.pointer (some ⟨g, o + i.toNat * 6, none⟩)) ∧ w'' = w') w').mpr ⟨rfl, rfl⟩)

theorem qkfa112_2 (g o : Nat)  {K : Value → Prop} {T : Nat → Prop} {w1 : World} : TakeS Tryz.prog (Chs T w1) (Instr.fieldAt 112 (.pointer (some ⟨g, o, none⟩)) 2) (@hid _ ⟨K⟩) = K (.pointer (some ⟨g, o + 2, none⟩)) := tk_S (fun w' _ => (kfa112_2 g o (fun v' w'' => v' = (.pointer (some ⟨g, o + 2, none⟩)) ∧ w'' = w') w').mpr ⟨rfl, rfl⟩)

theorem qkfa35_0 (g o : Nat)  {K : Value → Prop} {T : Nat → Prop} {w1 : World} : TakeS Tryz.prog (Chs T w1) (Instr.fieldAt 35 (.pointer (some ⟨g, o, none⟩)) 0) (@hid _ ⟨K⟩) = K (.pointer (some ⟨g, o, none⟩)) := tk_S (fun w' _ => (kfa35_0 g o (fun v' w'' => v' = (.pointer (some ⟨g, o, none⟩)) ∧ w'' = w') w').mpr ⟨rfl, rfl⟩)

theorem qkld2 {a : Addr} {v : Value} {K : Value → Prop} {T : Nat → Prop} {w1 : World} (hc : ∀ w', Chs T w1 w' → w'.cell? a = some v) : TakeS Tryz.prog (Chs T w1) (Instr.loadAt 2 (.pointer (some a))) (@hid _ ⟨K⟩) = K v := tk_S (fun w' hq => (kld2 a (fun v' w'' => v' = v ∧ w'' = w') w').mpr (by rw [hc w' hq]; exact ⟨rfl, rfl⟩))

theorem qkfa35_1 (g o : Nat)  {K : Value → Prop} {T : Nat → Prop} {w1 : World} : TakeS Tryz.prog (Chs T w1) (Instr.fieldAt 35 (.pointer (some ⟨g, o, none⟩)) 1) (@hid _ ⟨K⟩) = K (.pointer (some ⟨g, o + 1, none⟩)) := tk_S (fun w' _ => (kfa35_1 g o (fun v' w'' => v' = (.pointer (some ⟨g, o + 1, none⟩)) ∧ w'' = w') w').mpr ⟨rfl, rfl⟩)

theorem qkfa38_0 (g o : Nat)  {K : Value → Prop} {T : Nat → Prop} {w1 : World} : TakeS Tryz.prog (Chs T w1) (Instr.fieldAt 38 (.pointer (some ⟨g, o, none⟩)) 0) (@hid _ ⟨K⟩) = K (.pointer (some ⟨g, o, none⟩)) := tk_S (fun w' _ => (kfa38_0 g o (fun v' w'' => v' = (.pointer (some ⟨g, o, none⟩)) ∧ w'' = w') w').mpr ⟨rfl, rfl⟩)

theorem qkfa38_1 (g o : Nat)  {K : Value → Prop} {T : Nat → Prop} {w1 : World} : TakeS Tryz.prog (Chs T w1) (Instr.fieldAt 38 (.pointer (some ⟨g, o, none⟩)) 1) (@hid _ ⟨K⟩) = K (.pointer (some ⟨g, o + 1, none⟩)) := tk_S (fun w' _ => (kfa38_1 g o (fun v' w'' => v' = (.pointer (some ⟨g, o + 1, none⟩)) ∧ w'' = w') w').mpr ⟨rfl, rfl⟩)

theorem qkld35 {g o : Nat} {v0 v1 v2 v3 : Value} {K : Value → Prop} {T : Nat → Prop} {w1 : World} (hc : ∀ w', Chs T w1 w' → w'.cell? ⟨g, o, none⟩ = some v0 ∧ w'.cell? ⟨g, o + 1, none⟩ = some v1 ∧ w'.cell? ⟨g, o + 2, none⟩ = some v2 ∧ w'.cell? ⟨g, o + 3, none⟩ = some v3) : TakeS Tryz.prog (Chs T w1) (Instr.loadAt 35 (.pointer (some ⟨g, o, none⟩))) (@hid _ ⟨K⟩) = K (.agg #[v0, v1, v2, v3]) := tk_S (fun w' hq => (kld35 g o (fun v' w'' => v' = .agg #[v0, v1, v2, v3] ∧ w'' = w') w').mpr (by obtain ⟨h0, h1, h2, h3⟩ := hc w' hq; simp only [h0, h1, h2, h3, optK_some']; first | exact ⟨rfl, rfl⟩ | exact ⟨trivial, rfl⟩ | exact ⟨trivial, trivial⟩))

theorem qkfa72_3 (g o : Nat)  {K : Value → Prop} {T : Nat → Prop} {w1 : World} : TakeS Tryz.prog (Chs T w1) (Instr.fieldAt 72 (.pointer (some ⟨g, o, none⟩)) 3) (@hid _ ⟨K⟩) = K (.pointer (some ⟨g, o + 3, none⟩)) := tk_S (fun w' _ => (kfa72_3 g o (fun v' w'' => v' = (.pointer (some ⟨g, o + 3, none⟩)) ∧ w'' = w') w').mpr ⟨rfl, rfl⟩)

theorem qkld59 {a : Addr} {v : Value} {K : Value → Prop} {T : Nat → Prop} {w1 : World} (hc : ∀ w', Chs T w1 w' → w'.cell? a = some v) : TakeS Tryz.prog (Chs T w1) (Instr.loadAt 59 (.pointer (some a))) (@hid _ ⟨K⟩) = K v := tk_S (fun w' hq => (kld59 a (fun v' w'' => v' = v ∧ w'' = w') w').mpr (by rw [hc w' hq]; exact ⟨rfl, rfl⟩))

theorem qkia59 (g o n c : Nat) (i : Int) (h : 0 ≤ i ∧ i < (n : Int))  {K : Value → Prop} {T : Nat → Prop} {w1 : World} : TakeS Tryz.prog (Chs T w1) (Instr.indexAt 59 (.slice (some ⟨g, o, none⟩) n c) (.int .i64 i)) (@hid _ ⟨K⟩) = K (.pointer (some ⟨g, o + i.toNat, none⟩)) := tk_S (fun w' _ => (kia59 g o n c i h (fun v' w'' => v' = (.pointer (some ⟨g, o + i.toNat, none⟩)) ∧ w'' = w') w').mpr ⟨rfl, rfl⟩)

theorem qkbneq2 (x y : Int)  {K : Value → Prop} {T : Nat → Prop} {w1 : World} : BinT Tryz.prog (Chs T w1) .neq 2 (.int .i64 x) (.int .i64 y) (@hid _ ⟨K⟩) = K (.bool (x != y)) := tk_B (fun w' => (kbneq2 x y (fun v' w'' => v' = (.bool (x != y)) ∧ w'' = w') w').mpr ⟨rfl, rfl⟩)

theorem qkbgtr3 (x y : Int)  {K : Value → Prop} {T : Nat → Prop} {w1 : World} : BinT Tryz.prog (Chs T w1) .gtr 3 (.int .i64 x) (.int .i64 y) (@hid _ ⟨K⟩) = K (.bool (decide (y < x))) := tk_B (fun w' => (kbgtr3 x y (fun v' w'' => v' = (.bool (decide (y < x))) ∧ w'' = w') w').mpr ⟨rfl, rfl⟩)

theorem qkfa38_2 (g o : Nat)  {K : Value → Prop} {T : Nat → Prop} {w1 : World} : TakeS Tryz.prog (Chs T w1) (Instr.fieldAt 38 (.pointer (some ⟨g, o, none⟩)) 2) (@hid _ ⟨K⟩) = K (.pointer (some ⟨g, o + 5, none⟩)) := tk_S (fun w' _ => (kfa38_2 g o (fun v' w'' => v' = (.pointer (some ⟨g, o + 5, none⟩)) ∧ w'' = w') w').mpr ⟨rfl, rfl⟩)

theorem qkld36 {a : Addr} {v : Value} {K : Value → Prop} {T : Nat → Prop} {w1 : World} (hc : ∀ w', Chs T w1 w' → w'.cell? a = some v) : TakeS Tryz.prog (Chs T w1) (Instr.loadAt 36 (.pointer (some a))) (@hid _ ⟨K⟩) = K v := tk_S (fun w' hq => (kld36 a (fun v' w'' => v' = v ∧ w'' = w') w').mpr (by rw [hc w' hq]; exact ⟨rfl, rfl⟩))

theorem qkbsub3 (x y : Int)  {K : Value → Prop} {T : Nat → Prop} {w1 : World} : BinT Tryz.prog (Chs T w1) .sub 3 (.int .i64 x) (.int .i64 y) (@hid _ ⟨K⟩) = K (.int .i64 (IntKind.i64.wrap (x - y))) := tk_B (fun w' => (kbsub3 x y (fun v' w'' => v' = (.int .i64 (IntKind.i64.wrap (x - y))) ∧ w'' = w') w').mpr ⟨rfl, rfl⟩)

theorem qkia36 (g o n c : Nat) (i : Int) (h : 0 ≤ i ∧ i < (n : Int))  {K : Value → Prop} {T : Nat → Prop} {w1 : World} : TakeS Tryz.prog (Chs T w1) (Instr.indexAt 36 (.slice (some ⟨g, o, none⟩) n c) (.int .i64 i)) (@hid _ ⟨K⟩) = K (.pointer (some ⟨g, o + i.toNat * 5, none⟩)) := tk_S (fun w' _ => (kia36 g o n c i h (fun v' w'' => v' = (.pointer (some ⟨g, o + i.toNat * 5, none⟩)) ∧ w'' = w') w').mpr ⟨rfl, rfl⟩)

theorem qkfa123_0 (g o : Nat)  {K : Value → Prop} {T : Nat → Prop} {w1 : World} : TakeS Tryz.prog (Chs T w1) (Instr.fieldAt 123 (.pointer (some ⟨g, o, none⟩)) 0) (@hid _ ⟨K⟩) = K (.pointer (some ⟨g, o, none⟩)) := tk_S (fun w' _ => (kfa123_0 g o (fun v' w'' => v' = (.pointer (some ⟨g, o, none⟩)) ∧ w'' = w') w').mpr ⟨rfl, rfl⟩)

theorem qkbgeq9 (x y : ByteArray)  {K : Value → Prop} {T : Nat → Prop} {w1 : World} : BinT Tryz.prog (Chs T w1) .geq 9 (.string x) (.string y) (@hid _ ⟨K⟩) = K (.bool (!(Op.bytesLess x.toList y.toList))) := tk_B (fun w' => (kbgeq9 x y (fun v' w'' => v' = (.bool (!(Op.bytesLess x.toList y.toList))) ∧ w'' = w') w').mpr ⟨rfl, rfl⟩)

theorem qkia24 (g o n c : Nat) (i : Int) (h : 0 ≤ i ∧ i < (n : Int))  {K : Value → Prop} {T : Nat → Prop} {w1 : World} : TakeS Tryz.prog (Chs T w1) (Instr.indexAt 24 (.slice (some ⟨g, o, none⟩) n c) (.int .i64 i)) (@hid _ ⟨K⟩) = K (.pointer (some ⟨g, o + i.toNat * 5, none⟩)) := tk_S (fun w' _ => (kia24 g o n c i h (fun v' w'' => v' = (.pointer (some ⟨g, o + i.toNat * 5, none⟩)) ∧ w'' = w') w').mpr ⟨rfl, rfl⟩)

theorem qkfa64_0 (g o : Nat)  {K : Value → Prop} {T : Nat → Prop} {w1 : World} : TakeS Tryz.prog (Chs T w1) (Instr.fieldAt 64 (.pointer (some ⟨g, o, none⟩)) 0) (@hid _ ⟨K⟩) = K (.pointer (some ⟨g, o, none⟩)) := tk_S (fun w' _ => (kfa64_0 g o (fun v' w'' => v' = (.pointer (some ⟨g, o, none⟩)) ∧ w'' = w') w').mpr ⟨rfl, rfl⟩)

theorem qkfa64_1 (g o : Nat)  {K : Value → Prop} {T : Nat → Prop} {w1 : World} : TakeS Tryz.prog (Chs T w1) (Instr.fieldAt 64 (.pointer (some ⟨g, o, none⟩)) 1) (@hid _ ⟨K⟩) = K (.pointer (some ⟨g, o + 1, none⟩)) := tk_S (fun w' _ => (kfa64_1 g o (fun v' w'' => v' = (.pointer (some ⟨g, o + 1, none⟩)) ∧ w'' = w') w').mpr ⟨rfl, rfl⟩)

theorem qkfa35_2 (g o : Nat)  {K : Value → Prop} {T : Nat → Prop} {w1 : World} : TakeS Tryz.prog (Chs T w1) (Instr.fieldAt 35 (.pointer (some ⟨g, o, none⟩)) 2) (@hid _ ⟨K⟩) = K (.pointer (some ⟨g, o + 2, none⟩)) := tk_S (fun w' _ => (kfa35_2 g o (fun v' w'' => v' = (.pointer (some ⟨g, o + 2, none⟩)) ∧ w'' = w') w').mpr ⟨rfl, rfl⟩)

theorem qkfa35_3 (g o : Nat)  {K : Value → Prop} {T : Nat → Prop} {w1 : World} : TakeS Tryz.prog (Chs T w1) (Instr.fieldAt 35 (.pointer (some ⟨g, o, none⟩)) 3) (@hid _ ⟨K⟩) = K (.pointer (some ⟨g, o + 3, none⟩)) := tk_S (fun w' _ => (kfa35_3 g o (fun v' w'' => v' = (.pointer (some ⟨g, o + 3, none⟩)) ∧ w'' = w') w').mpr ⟨rfl, rfl⟩)

theorem qkfa123_1 (g o : Nat)  {K : Value → Prop} {T : Nat → Prop} {w1 : World} : TakeS Tryz.prog (Chs T w1) (Instr.fieldAt 123 (.pointer (some ⟨g, o, none⟩)) 1) (@hid _ ⟨K⟩) = K (.pointer (some ⟨g, o + 1, none⟩)) := tk_S (fun w' _ => (kfa123_1 g o (fun v' w'' => v' = (.pointer (some ⟨g, o + 1, none⟩)) ∧ w'' = w') w').mpr ⟨rfl, rfl⟩)

theorem qkld72 {g o : Nat} {v0 v1 v2 v3 : Value} {K : Value → Prop} {T : Nat → Prop} {w1 : World} (hc : ∀ w', Chs T w1 w' → w'.cell? ⟨g, o, none⟩ = some v0 ∧ w'.cell? ⟨g, o + 1, none⟩ = some v1 ∧ w'.cell? ⟨g, o + 2, none⟩ = some v2 ∧ w'.cell? ⟨g, o + 3, none⟩ = some v3) : TakeS Tryz.prog (Chs T w1) (Instr.loadAt 72 (.pointer (some ⟨g, o, none⟩))) (@hid _ ⟨K⟩) = K (.agg #[v0, v1, v2, v3]) := tk_S (fun w' hq => (kld72 g o (fun v' w'' => v' = .agg #[v0, v1, v2, v3] ∧ w'' = w') w').mpr (by obtain ⟨h0, h1, h2, h3⟩ := hc w' hq; simp only [h0, h1, h2, h3, optK_some']; first | exact ⟨rfl, rfl⟩ | exact ⟨trivial, rfl⟩ | exact ⟨trivial, trivial⟩))

theorem qksl29_010z  {K : Value → Prop} {T : Nat → Prop} {w1 : World} : TakeS Tryz.prog (Chs T w1) (Instr.sliceAt 29 (.slice none 0 0) none (some (.int .i64 0)) none) (@hid _ ⟨K⟩) = K (.slice none 0 0) := tk_S (fun w' _ => (ksl29_010z  (fun v' w'' => v' = (.slice none 0 0) ∧ w'' = w') w').mpr ⟨rfl, rfl⟩)

theorem qksl29_010 (g o n c : Nat) (h : Int) (hb : 0 ≤ h ∧ h ≤ (c : Int))  {K : Value → Prop} {T : Nat → Prop} {w1 : World} : TakeS Tryz.prog (Chs T w1) (Instr.sliceAt 29 (.slice (some ⟨g, o, none⟩) n c) none (some (.int .i64 h)) none) (@hid _ ⟨K⟩) = K (.slice (some ⟨g, o, none⟩) h.toNat c) := tk_S (fun w' _ => (ksl29_010 g o n c h hb (fun v' w'' => v' = (.slice (some ⟨g, o, none⟩) h.toNat c) ∧ w'' = w') w').mpr ⟨rfl, rfl⟩)

theorem qkfa112_0 (g o : Nat)  {K : Value → Prop} {T : Nat → Prop} {w1 : World} : TakeS Tryz.prog (Chs T w1) (Instr.fieldAt 112 (.pointer (some ⟨g, o, none⟩)) 0) (@hid _ ⟨K⟩) = K (.pointer (some ⟨g, o, none⟩)) := tk_S (fun w' _ => (kfa112_0 g o (fun v' w'' => v' = (.pointer (some ⟨g, o, none⟩)) ∧ w'' = w') w').mpr ⟨rfl, rfl⟩)

theorem qkld29 {a : Addr} {v : Value} {K : Value → Prop} {T : Nat → Prop} {w1 : World} (hc : ∀ w', Chs T w1 w' → w'.cell? a = some v) : TakeS Tryz.prog (Chs T w1) (Instr.loadAt 29 (.pointer (some a))) (@hid _ ⟨K⟩) = K v := tk_S (fun w' hq => (kld29 a (fun v' w'' => v' = v ∧ w'' = w') w').mpr (by rw [hc w' hq]; exact ⟨rfl, rfl⟩))

theorem qklen29 (A : Option Addr) (n c : Nat)  {K : Value → Prop} {T : Nat → Prop} {w1 : World} : TakeO Tryz.prog (Chs T w1) (builtin .len #[29] 3 #[false] #[(.slice A n c)]) (@hid _ ⟨K⟩) = K (.int .i64 (n : Int)) := tk_O (fun w => by (first | (go_simp; rfl) | (go_simp; done)))

theorem qkfa112_1 (g o : Nat)  {K : Value → Prop} {T : Nat → Prop} {w1 : World} : TakeS Tryz.prog (Chs T w1) (Instr.fieldAt 112 (.pointer (some ⟨g, o, none⟩)) 1) (@hid _ ⟨K⟩) = K (.pointer (some ⟨g, o + 1, none⟩)) := tk_S (fun w' _ => (kfa112_1 g o (fun v' w'' => v' = (.pointer (some ⟨g, o + 1, none⟩)) ∧ w'' = w') w').mpr ⟨rfl, rfl⟩)

theorem qkbgeq2 (x y : Int)  {K : Value → Prop} {T : Nat → Prop} {w1 : World} : BinT Tryz.prog (Chs T w1) .geq 2 (.int .i64 x) (.int .i64 y) (@hid _ ⟨K⟩) = K (.bool (decide (y ≤ x))) := tk_B (fun w' => (kbgeq2 x y (fun v' w'' => v' = (.bool (decide (y ≤ x))) ∧ w'' = w') w').mpr ⟨rfl, rfl⟩)

theorem qkfa23_0 (g o : Nat)  {K : Value → Prop} {T : Nat → Prop} {w1 : World} : TakeS Tryz.prog (Chs T w1) (Instr.fieldAt 23 (.pointer (some ⟨g, o, none⟩)) 0) (@hid _ ⟨K⟩) = K (.pointer (some ⟨g, o, none⟩)) := tk_S (fun w' _ => (kfa23_0 g o (fun v' w'' => v' = (.pointer (some ⟨g, o, none⟩)) ∧ w'' = w') w').mpr ⟨rfl, rfl⟩)

theorem qkfa23_1 (g o : Nat)  {K : Value → Prop} {T : Nat → Prop} {w1 : World} : TakeS Tryz.prog (Chs T w1) (Instr.fieldAt 23 (.pointer (some ⟨g, o, none⟩)) 1) (@hid _ ⟨K⟩) = K (.pointer (some ⟨g, o + 1, none⟩)) := tk_S (fun w' _ => (kfa23_1 g o (fun v' w'' => v' = (.pointer (some ⟨g, o + 1, none⟩)) ∧ w'' = w') w').mpr ⟨rfl, rfl⟩)

theorem qkfa23_2 (g o : Nat)  {K : Value → Prop} {T : Nat → Prop} {w1 : World} : TakeS Tryz.prog (Chs T w1) (Instr.fieldAt 23 (.pointer (some ⟨g, o, none⟩)) 2) (@hid _ ⟨K⟩) = K (.pointer (some ⟨g, o + 2, none⟩)) := tk_S (fun w' _ => (kfa23_2 g o (fun v' w'' => v' = (.pointer (some ⟨g, o + 2, none⟩)) ∧ w'' = w') w').mpr ⟨rfl, rfl⟩)

theorem qkfa23_3 (g o : Nat)  {K : Value → Prop} {T : Nat → Prop} {w1 : World} : TakeS Tryz.prog (Chs T w1) (Instr.fieldAt 23 (.pointer (some ⟨g, o, none⟩)) 3) (@hid _ ⟨K⟩) = K (.pointer (some ⟨g, o + 3, none⟩)) := tk_S (fun w' _ => (kfa23_3 g o (fun v' w'' => v' = (.pointer (some ⟨g, o + 3, none⟩)) ∧ w'' = w') w').mpr ⟨rfl, rfl⟩)

theorem qkbgtr2 (x y : Int)  {K : Value → Prop} {T : Nat → Prop} {w1 : World} : BinT Tryz.prog (Chs T w1) .gtr 2 (.int .i64 x) (.int .i64 y) (@hid _ ⟨K⟩) = K (.bool (decide (y < x))) := tk_B (fun w' => (kbgtr2 x y (fun v' w'' => v' = (.bool (decide (y < x))) ∧ w'' = w') w').mpr ⟨rfl, rfl⟩)

theorem qkbadd3 (x y : Int)  {K : Value → Prop} {T : Nat → Prop} {w1 : World} : BinT Tryz.prog (Chs T w1) .add 3 (.int .i64 x) (.int .i64 y) (@hid _ ⟨K⟩) = K (.int .i64 (IntKind.i64.wrap (x + y))) := tk_B (fun w' => (kbadd3 x y (fun v' w'' => v' = (.int .i64 (IntKind.i64.wrap (x + y))) ∧ w'' = w') w').mpr ⟨rfl, rfl⟩)

theorem qksl29_110 (g o n c : Nat) (l : Int) (h : Int) (hb : 0 ≤ l ∧ l ≤ h ∧ h ≤ (c : Int))  {K : Value → Prop} {T : Nat → Prop} {w1 : World} : TakeS Tryz.prog (Chs T w1) (Instr.sliceAt 29 (.slice (some ⟨g, o, none⟩) n c) (some (.int .i64 l)) (some (.int .i64 h)) none) (@hid _ ⟨K⟩) = K (.slice (if c = l.toNat then some ⟨g, o, none⟩ else some ⟨g, o + l.toNat, none⟩) (h.toNat - l.toNat) (c - l.toNat)) := tk_S (fun w' _ => (ksl29_110 g o n c l h hb (fun v' w'' => v' = (.slice (if c = l.toNat then some ⟨g, o, none⟩ else some ⟨g, o + l.toNat, none⟩) (h.toNat - l.toNat) (c - l.toNat)) ∧ w'' = w') w').mpr ⟨rfl, rfl⟩)

theorem qkia29 (g o n c : Nat) (i : Int) (h : 0 ≤ i ∧ i < (n : Int))  {K : Value → Prop} {T : Nat → Prop} {w1 : World} : TakeS Tryz.prog (Chs T w1) (Instr.indexAt 29 (.slice (some ⟨g, o, none⟩) n c) (.int .i64 i)) (@hid _ ⟨K⟩) = K (.pointer (some ⟨g, o + i.toNat, none⟩)) := tk_S (fun w' _ => (kia29 g o n c i h (fun v' w'' => v' = (.pointer (some ⟨g, o + i.toNat, none⟩)) ∧ w'' = w') w').mpr ⟨rfl, rfl⟩)

theorem qkld5 {a : Addr} {v : Value} {K : Value → Prop} {T : Nat → Prop} {w1 : World} (hc : ∀ w', Chs T w1 w' → w'.cell? a = some v) : TakeS Tryz.prog (Chs T w1) (Instr.loadAt 5 (.pointer (some a))) (@hid _ ⟨K⟩) = K v := tk_S (fun w' hq => (kld5 a (fun v' w'' => v' = v ∧ w'' = w') w').mpr (by rw [hc w' hq]; exact ⟨rfl, rfl⟩))

theorem qkcv5_146 (x : Int)  {K : Value → Prop} {T : Nat → Prop} {w1 : World} : TakeS Tryz.prog (Chs T w1) (convert 5 146 (.int .u8 x)) (@hid _ ⟨K⟩) = K (.int .u64 (IntKind.u64.wrap x)) := tk_S (fun w' _ => (kcv5_146 x (fun v' w'' => v' = (.int .u64 (IntKind.u64.wrap x)) ∧ w'' = w') w').mpr ⟨rfl, rfl⟩)

theorem qklen150 (A : Option Addr) (n c : Nat)  {K : Value → Prop} {T : Nat → Prop} {w1 : World} : TakeO Tryz.prog (Chs T w1) (builtin .len #[150] 3 #[false] #[(.slice A n c)]) (@hid _ ⟨K⟩) = K (.int .i64 (n : Int)) := tk_O (fun w => by (first | (go_simp; rfl) | (go_simp; done)))

theorem qkia150 (g o n c : Nat) (i : Int) (h : 0 ≤ i ∧ i < (n : Int))  {K : Value → Prop} {T : Nat → Prop} {w1 : World} : TakeS Tryz.prog (Chs T w1) (Instr.indexAt 150 (.slice (some ⟨g, o, none⟩) n c) (.int .i64 i)) (@hid _ ⟨K⟩) = K (.pointer (some ⟨g, o + i.toNat, none⟩)) := tk_S (fun w' _ => (kia150 g o n c i h (fun v' w'' => v' = (.pointer (some ⟨g, o + i.toNat, none⟩)) ∧ w'' = w') w').mpr ⟨rfl, rfl⟩)

theorem ck3 {args : Array Value} {K : Value → World → Prop} {w : World} (h : CallK Tryz.prog 3 args K w) : CallV Tryz.prog (.func (.func 3) #[] #[]) args K w := callV_func Tryz.func3 (by kernel_rfl) (by kernel_rfl) h
theorem ck4 {args : Array Value} {K : Value → World → Prop} {w : World} (h : CallK Tryz.prog 4 args K w) : CallV Tryz.prog (.func (.func 4) #[] #[]) args K w := callV_func Tryz.func4 (by kernel_rfl) (by kernel_rfl) h
theorem ck5 {args : Array Value} {K : Value → World → Prop} {w : World} (h : CallK Tryz.prog 5 args K w) : CallV Tryz.prog (.func (.func 5) #[] #[]) args K w := callV_func Tryz.func5 (by kernel_rfl) (by kernel_rfl) h
theorem ck6 {args : Array Value} {K : Value → World → Prop} {w : World} (h : CallK Tryz.prog 6 args K w) : CallV Tryz.prog (.func (.func 6) #[] #[]) args K w := callV_func Tryz.func6 (by kernel_rfl) (by kernel_rfl) h
theorem ck7 {args : Array Value} {K : Value → World → Prop} {w : World} (h : CallK Tryz.prog 7 args K w) : CallV Tryz.prog (.func (.func 7) #[] #[]) args K w := callV_func Tryz.func7 (by kernel_rfl) (by kernel_rfl) h
theorem ck8 {args : Array Value} {K : Value → World → Prop} {w : World} (h : CallK Tryz.prog 8 args K w) : CallV Tryz.prog (.func (.func 8) #[] #[]) args K w := callV_func Tryz.func8 (by kernel_rfl) (by kernel_rfl) h
theorem ck9 {args : Array Value} {K : Value → World → Prop} {w : World} (h : CallK Tryz.prog 9 args K w) : CallV Tryz.prog (.func (.func 9) #[] #[]) args K w := callV_func Tryz.func9 (by kernel_rfl) (by kernel_rfl) h
theorem ck10 {args : Array Value} {K : Value → World → Prop} {w : World} (h : CallK Tryz.prog 10 args K w) : CallV Tryz.prog (.func (.func 10) #[] #[]) args K w := callV_func Tryz.func10 (by kernel_rfl) (by kernel_rfl) h
theorem ck11 {args : Array Value} {K : Value → World → Prop} {w : World} (h : CallK Tryz.prog 11 args K w) : CallV Tryz.prog (.func (.func 11) #[] #[]) args K w := callV_func Tryz.func11 (by kernel_rfl) (by kernel_rfl) h
theorem ck12 {args : Array Value} {K : Value → World → Prop} {w : World} (h : CallK Tryz.prog 12 args K w) : CallV Tryz.prog (.func (.func 12) #[] #[]) args K w := callV_func Tryz.func12 (by kernel_rfl) (by kernel_rfl) h
theorem ck13 {args : Array Value} {K : Value → World → Prop} {w : World} (h : CallK Tryz.prog 13 args K w) : CallV Tryz.prog (.func (.func 13) #[] #[]) args K w := callV_func Tryz.func13 (by kernel_rfl) (by kernel_rfl) h
theorem ck14 {args : Array Value} {K : Value → World → Prop} {w : World} (h : CallK Tryz.prog 14 args K w) : CallV Tryz.prog (.func (.func 14) #[] #[]) args K w := callV_func Tryz.func14 (by kernel_rfl) (by kernel_rfl) h
theorem ck15 {args : Array Value} {K : Value → World → Prop} {w : World} (h : CallK Tryz.prog 15 args K w) : CallV Tryz.prog (.func (.func 15) #[] #[]) args K w := callV_func Tryz.func15 (by kernel_rfl) (by kernel_rfl) h
theorem ck16 {args : Array Value} {K : Value → World → Prop} {w : World} (h : CallK Tryz.prog 16 args K w) : CallV Tryz.prog (.func (.func 16) #[] #[]) args K w := callV_func Tryz.func16 (by kernel_rfl) (by kernel_rfl) h
theorem ck17 {args : Array Value} {K : Value → World → Prop} {w : World} (h : CallK Tryz.prog 17 args K w) : CallV Tryz.prog (.func (.func 17) #[] #[]) args K w := callV_func Tryz.func17 (by kernel_rfl) (by kernel_rfl) h
theorem ck18 {args : Array Value} {K : Value → World → Prop} {w : World} (h : CallK Tryz.prog 18 args K w) : CallV Tryz.prog (.func (.func 18) #[] #[]) args K w := callV_func Tryz.func18 (by kernel_rfl) (by kernel_rfl) h
theorem ck19 {args : Array Value} {K : Value → World → Prop} {w : World} (h : CallK Tryz.prog 19 args K w) : CallV Tryz.prog (.func (.func 19) #[] #[]) args K w := callV_func Tryz.func19 (by kernel_rfl) (by kernel_rfl) h
theorem ck20 {args : Array Value} {K : Value → World → Prop} {w : World} (h : CallK Tryz.prog 20 args K w) : CallV Tryz.prog (.func (.func 20) #[] #[]) args K w := callV_func Tryz.func20 (by kernel_rfl) (by kernel_rfl) h
theorem ck21 {args : Array Value} {K : Value → World → Prop} {w : World} (h : CallK Tryz.prog 21 args K w) : CallV Tryz.prog (.func (.func 21) #[] #[]) args K w := callV_func Tryz.func21 (by kernel_rfl) (by kernel_rfl) h
theorem ck22 {args : Array Value} {K : Value → World → Prop} {w : World} (h : CallK Tryz.prog 22 args K w) : CallV Tryz.prog (.func (.func 22) #[] #[]) args K w := callV_func Tryz.func22 (by kernel_rfl) (by kernel_rfl) h
theorem ck23 {args : Array Value} {K : Value → World → Prop} {w : World} (h : CallK Tryz.prog 23 args K w) : CallV Tryz.prog (.func (.func 23) #[] #[]) args K w := callV_func Tryz.func23 (by kernel_rfl) (by kernel_rfl) h
theorem ck24 {args : Array Value} {K : Value → World → Prop} {w : World} (h : CallK Tryz.prog 24 args K w) : CallV Tryz.prog (.func (.func 24) #[] #[]) args K w := callV_func Tryz.func24 (by kernel_rfl) (by kernel_rfl) h
theorem ck25 {args : Array Value} {K : Value → World → Prop} {w : World} (h : CallK Tryz.prog 25 args K w) : CallV Tryz.prog (.func (.func 25) #[] #[]) args K w := callV_func Tryz.func25 (by kernel_rfl) (by kernel_rfl) h
theorem ck26 {args : Array Value} {K : Value → World → Prop} {w : World} (h : CallK Tryz.prog 26 args K w) : CallV Tryz.prog (.func (.func 26) #[] #[]) args K w := callV_func Tryz.func26 (by kernel_rfl) (by kernel_rfl) h
theorem ck27 {args : Array Value} {K : Value → World → Prop} {w : World} (h : CallK Tryz.prog 27 args K w) : CallV Tryz.prog (.func (.func 27) #[] #[]) args K w := callV_func Tryz.func27 (by kernel_rfl) (by kernel_rfl) h
theorem ck28 {args : Array Value} {K : Value → World → Prop} {w : World} (h : CallK Tryz.prog 28 args K w) : CallV Tryz.prog (.func (.func 28) #[] #[]) args K w := callV_func Tryz.func28 (by kernel_rfl) (by kernel_rfl) h
theorem ck29 {args : Array Value} {K : Value → World → Prop} {w : World} (h : CallK Tryz.prog 29 args K w) : CallV Tryz.prog (.func (.func 29) #[] #[]) args K w := callV_func Tryz.func29 (by kernel_rfl) (by kernel_rfl) h
theorem ck30 {args : Array Value} {K : Value → World → Prop} {w : World} (h : CallK Tryz.prog 30 args K w) : CallV Tryz.prog (.func (.func 30) #[] #[]) args K w := callV_func Tryz.func30 (by kernel_rfl) (by kernel_rfl) h
theorem ck31 {args : Array Value} {K : Value → World → Prop} {w : World} (h : CallK Tryz.prog 31 args K w) : CallV Tryz.prog (.func (.func 31) #[] #[]) args K w := callV_func Tryz.func31 (by kernel_rfl) (by kernel_rfl) h
theorem ck32 {args : Array Value} {K : Value → World → Prop} {w : World} (h : CallK Tryz.prog 32 args K w) : CallV Tryz.prog (.func (.func 32) #[] #[]) args K w := callV_func Tryz.func32 (by kernel_rfl) (by kernel_rfl) h
theorem ck33 {args : Array Value} {K : Value → World → Prop} {w : World} (h : CallK Tryz.prog 33 args K w) : CallV Tryz.prog (.func (.func 33) #[] #[]) args K w := callV_func Tryz.func33 (by kernel_rfl) (by kernel_rfl) h
theorem ck34 {args : Array Value} {K : Value → World → Prop} {w : World} (h : CallK Tryz.prog 34 args K w) : CallV Tryz.prog (.func (.func 34) #[] #[]) args K w := callV_func Tryz.func34 (by kernel_rfl) (by kernel_rfl) h
theorem ck35 {args : Array Value} {K : Value → World → Prop} {w : World} (h : CallK Tryz.prog 35 args K w) : CallV Tryz.prog (.func (.func 35) #[] #[]) args K w := callV_func Tryz.func35 (by kernel_rfl) (by kernel_rfl) h
theorem ck36 {args : Array Value} {K : Value → World → Prop} {w : World} (h : CallK Tryz.prog 36 args K w) : CallV Tryz.prog (.func (.func 36) #[] #[]) args K w := callV_func Tryz.func36 (by kernel_rfl) (by kernel_rfl) h
theorem ck37 {args : Array Value} {K : Value → World → Prop} {w : World} (h : CallK Tryz.prog 37 args K w) : CallV Tryz.prog (.func (.func 37) #[] #[]) args K w := callV_func Tryz.func37 (by kernel_rfl) (by kernel_rfl) h
theorem ck38 {args : Array Value} {K : Value → World → Prop} {w : World} (h : CallK Tryz.prog 38 args K w) : CallV Tryz.prog (.func (.func 38) #[] #[]) args K w := callV_func Tryz.func38 (by kernel_rfl) (by kernel_rfl) h
theorem ck39 {args : Array Value} {K : Value → World → Prop} {w : World} (h : CallK Tryz.prog 39 args K w) : CallV Tryz.prog (.func (.func 39) #[] #[]) args K w := callV_func Tryz.func39 (by kernel_rfl) (by kernel_rfl) h
theorem ck40 {args : Array Value} {K : Value → World → Prop} {w : World} (h : CallK Tryz.prog 40 args K w) : CallV Tryz.prog (.func (.func 40) #[] #[]) args K w := callV_func Tryz.func40 (by kernel_rfl) (by kernel_rfl) h
theorem ck41 {args : Array Value} {K : Value → World → Prop} {w : World} (h : CallK Tryz.prog 41 args K w) : CallV Tryz.prog (.func (.func 41) #[] #[]) args K w := callV_func Tryz.func41 (by kernel_rfl) (by kernel_rfl) h
theorem ck42 {args : Array Value} {K : Value → World → Prop} {w : World} (h : CallK Tryz.prog 42 args K w) : CallV Tryz.prog (.func (.func 42) #[] #[]) args K w := callV_func Tryz.func42 (by kernel_rfl) (by kernel_rfl) h
theorem ck43 {args : Array Value} {K : Value → World → Prop} {w : World} (h : CallK Tryz.prog 43 args K w) : CallV Tryz.prog (.func (.func 43) #[] #[]) args K w := callV_func Tryz.func43 (by kernel_rfl) (by kernel_rfl) h
theorem ck44 {args : Array Value} {K : Value → World → Prop} {w : World} (h : CallK Tryz.prog 44 args K w) : CallV Tryz.prog (.func (.func 44) #[] #[]) args K w := callV_func Tryz.func44 (by kernel_rfl) (by kernel_rfl) h
theorem ck45 {args : Array Value} {K : Value → World → Prop} {w : World} (h : CallK Tryz.prog 45 args K w) : CallV Tryz.prog (.func (.func 45) #[] #[]) args K w := callV_func Tryz.func45 (by kernel_rfl) (by kernel_rfl) h
theorem ck46 {args : Array Value} {K : Value → World → Prop} {w : World} (h : CallK Tryz.prog 46 args K w) : CallV Tryz.prog (.func (.func 46) #[] #[]) args K w := callV_func Tryz.func46 (by kernel_rfl) (by kernel_rfl) h
theorem ck47 {args : Array Value} {K : Value → World → Prop} {w : World} (h : CallK Tryz.prog 47 args K w) : CallV Tryz.prog (.func (.func 47) #[] #[]) args K w := callV_func Tryz.func47 (by kernel_rfl) (by kernel_rfl) h
theorem ck48 {args : Array Value} {K : Value → World → Prop} {w : World} (h : CallK Tryz.prog 48 args K w) : CallV Tryz.prog (.func (.func 48) #[] #[]) args K w := callV_func Tryz.func48 (by kernel_rfl) (by kernel_rfl) h
theorem ck49 {args : Array Value} {K : Value → World → Prop} {w : World} (h : CallK Tryz.prog 49 args K w) : CallV Tryz.prog (.func (.func 49) #[] #[]) args K w := callV_func Tryz.func49 (by kernel_rfl) (by kernel_rfl) h
theorem ck50 {args : Array Value} {K : Value → World → Prop} {w : World} (h : CallK Tryz.prog 50 args K w) : CallV Tryz.prog (.func (.func 50) #[] #[]) args K w := callV_func Tryz.func50 (by kernel_rfl) (by kernel_rfl) h
theorem ck51 {args : Array Value} {K : Value → World → Prop} {w : World} (h : CallK Tryz.prog 51 args K w) : CallV Tryz.prog (.func (.func 51) #[] #[]) args K w := callV_func Tryz.func51 (by kernel_rfl) (by kernel_rfl) h
theorem ck52 {args : Array Value} {K : Value → World → Prop} {w : World} (h : CallK Tryz.prog 52 args K w) : CallV Tryz.prog (.func (.func 52) #[] #[]) args K w := callV_func Tryz.func52 (by kernel_rfl) (by kernel_rfl) h
theorem ck53 {args : Array Value} {K : Value → World → Prop} {w : World} (h : CallK Tryz.prog 53 args K w) : CallV Tryz.prog (.func (.func 53) #[] #[]) args K w := callV_func Tryz.func53 (by kernel_rfl) (by kernel_rfl) h
theorem ck54 {args : Array Value} {K : Value → World → Prop} {w : World} (h : CallK Tryz.prog 54 args K w) : CallV Tryz.prog (.func (.func 54) #[] #[]) args K w := callV_func Tryz.func54 (by kernel_rfl) (by kernel_rfl) h
theorem ck55 {args : Array Value} {K : Value → World → Prop} {w : World} (h : CallK Tryz.prog 55 args K w) : CallV Tryz.prog (.func (.func 55) #[] #[]) args K w := callV_func Tryz.func55 (by kernel_rfl) (by kernel_rfl) h
theorem ck56 {args : Array Value} {K : Value → World → Prop} {w : World} (h : CallK Tryz.prog 56 args K w) : CallV Tryz.prog (.func (.func 56) #[] #[]) args K w := callV_func Tryz.func56 (by kernel_rfl) (by kernel_rfl) h
theorem ck57 {args : Array Value} {K : Value → World → Prop} {w : World} (h : CallK Tryz.prog 57 args K w) : CallV Tryz.prog (.func (.func 57) #[] #[]) args K w := callV_func Tryz.func57 (by kernel_rfl) (by kernel_rfl) h
theorem ck58 {args : Array Value} {K : Value → World → Prop} {w : World} (h : CallK Tryz.prog 58 args K w) : CallV Tryz.prog (.func (.func 58) #[] #[]) args K w := callV_func Tryz.func58 (by kernel_rfl) (by kernel_rfl) h
theorem ck59 {args : Array Value} {K : Value → World → Prop} {w : World} (h : CallK Tryz.prog 59 args K w) : CallV Tryz.prog (.func (.func 59) #[] #[]) args K w := callV_func Tryz.func59 (by kernel_rfl) (by kernel_rfl) h
theorem ck60 {args : Array Value} {K : Value → World → Prop} {w : World} (h : CallK Tryz.prog 60 args K w) : CallV Tryz.prog (.func (.func 60) #[] #[]) args K w := callV_func Tryz.func60 (by kernel_rfl) (by kernel_rfl) h
theorem ck61 {args : Array Value} {K : Value → World → Prop} {w : World} (h : CallK Tryz.prog 61 args K w) : CallV Tryz.prog (.func (.func 61) #[] #[]) args K w := callV_func Tryz.func61 (by kernel_rfl) (by kernel_rfl) h
theorem ck62 {args : Array Value} {K : Value → World → Prop} {w : World} (h : CallK Tryz.prog 62 args K w) : CallV Tryz.prog (.func (.func 62) #[] #[]) args K w := callV_func Tryz.func62 (by kernel_rfl) (by kernel_rfl) h
theorem ck63 {args : Array Value} {K : Value → World → Prop} {w : World} (h : CallK Tryz.prog 63 args K w) : CallV Tryz.prog (.func (.func 63) #[] #[]) args K w := callV_func Tryz.func63 (by kernel_rfl) (by kernel_rfl) h
theorem ck64 {args : Array Value} {K : Value → World → Prop} {w : World} (h : CallK Tryz.prog 64 args K w) : CallV Tryz.prog (.func (.func 64) #[] #[]) args K w := callV_func Tryz.func64 (by kernel_rfl) (by kernel_rfl) h
theorem ck65 {args : Array Value} {K : Value → World → Prop} {w : World} (h : CallK Tryz.prog 65 args K w) : CallV Tryz.prog (.func (.func 65) #[] #[]) args K w := callV_func Tryz.func65 (by kernel_rfl) (by kernel_rfl) h
theorem ck66 {args : Array Value} {K : Value → World → Prop} {w : World} (h : CallK Tryz.prog 66 args K w) : CallV Tryz.prog (.func (.func 66) #[] #[]) args K w := callV_func Tryz.func66 (by kernel_rfl) (by kernel_rfl) h
theorem ck67 {args : Array Value} {K : Value → World → Prop} {w : World} (h : CallK Tryz.prog 67 args K w) : CallV Tryz.prog (.func (.func 67) #[] #[]) args K w := callV_func Tryz.func67 (by kernel_rfl) (by kernel_rfl) h
theorem ck68 {args : Array Value} {K : Value → World → Prop} {w : World} (h : CallK Tryz.prog 68 args K w) : CallV Tryz.prog (.func (.func 68) #[] #[]) args K w := callV_func Tryz.func68 (by kernel_rfl) (by kernel_rfl) h
theorem ck69 {args : Array Value} {K : Value → World → Prop} {w : World} (h : CallK Tryz.prog 69 args K w) : CallV Tryz.prog (.func (.func 69) #[] #[]) args K w := callV_func Tryz.func69 (by kernel_rfl) (by kernel_rfl) h
theorem ck70 {args : Array Value} {K : Value → World → Prop} {w : World} (h : CallK Tryz.prog 70 args K w) : CallV Tryz.prog (.func (.func 70) #[] #[]) args K w := callV_func Tryz.func70 (by kernel_rfl) (by kernel_rfl) h
theorem ck71 {args : Array Value} {K : Value → World → Prop} {w : World} (h : CallK Tryz.prog 71 args K w) : CallV Tryz.prog (.func (.func 71) #[] #[]) args K w := callV_func Tryz.func71 (by kernel_rfl) (by kernel_rfl) h
theorem ck72 {args : Array Value} {K : Value → World → Prop} {w : World} (h : CallK Tryz.prog 72 args K w) : CallV Tryz.prog (.func (.func 72) #[] #[]) args K w := callV_func Tryz.func72 (by kernel_rfl) (by kernel_rfl) h
theorem ck73 {args : Array Value} {K : Value → World → Prop} {w : World} (h : CallK Tryz.prog 73 args K w) : CallV Tryz.prog (.func (.func 73) #[] #[]) args K w := callV_func Tryz.func73 (by kernel_rfl) (by kernel_rfl) h
theorem ck74 {args : Array Value} {K : Value → World → Prop} {w : World} (h : CallK Tryz.prog 74 args K w) : CallV Tryz.prog (.func (.func 74) #[] #[]) args K w := callV_func Tryz.func74 (by kernel_rfl) (by kernel_rfl) h
theorem ck75 {args : Array Value} {K : Value → World → Prop} {w : World} (h : CallK Tryz.prog 75 args K w) : CallV Tryz.prog (.func (.func 75) #[] #[]) args K w := callV_func Tryz.func75 (by kernel_rfl) (by kernel_rfl) h
theorem ck76 {args : Array Value} {K : Value → World → Prop} {w : World} (h : CallK Tryz.prog 76 args K w) : CallV Tryz.prog (.func (.func 76) #[] #[]) args K w := callV_func Tryz.func76 (by kernel_rfl) (by kernel_rfl) h
theorem ck77 {args : Array Value} {K : Value → World → Prop} {w : World} (h : CallK Tryz.prog 77 args K w) : CallV Tryz.prog (.func (.func 77) #[] #[]) args K w := callV_func Tryz.func77 (by kernel_rfl) (by kernel_rfl) h
theorem ck78 {args : Array Value} {K : Value → World → Prop} {w : World} (h : CallK Tryz.prog 78 args K w) : CallV Tryz.prog (.func (.func 78) #[] #[]) args K w := callV_func Tryz.func78 (by kernel_rfl) (by kernel_rfl) h
theorem ck79 {args : Array Value} {K : Value → World → Prop} {w : World} (h : CallK Tryz.prog 79 args K w) : CallV Tryz.prog (.func (.func 79) #[] #[]) args K w := callV_func Tryz.func79 (by kernel_rfl) (by kernel_rfl) h
theorem ck80 {args : Array Value} {K : Value → World → Prop} {w : World} (h : CallK Tryz.prog 80 args K w) : CallV Tryz.prog (.func (.func 80) #[] #[]) args K w := callV_func Tryz.func80 (by kernel_rfl) (by kernel_rfl) h
theorem ck81 {args : Array Value} {K : Value → World → Prop} {w : World} (h : CallK Tryz.prog 81 args K w) : CallV Tryz.prog (.func (.func 81) #[] #[]) args K w := callV_func Tryz.func81 (by kernel_rfl) (by kernel_rfl) h
theorem ck82 {args : Array Value} {K : Value → World → Prop} {w : World} (h : CallK Tryz.prog 82 args K w) : CallV Tryz.prog (.func (.func 82) #[] #[]) args K w := callV_func Tryz.func82 (by kernel_rfl) (by kernel_rfl) h
theorem ck83 {args : Array Value} {K : Value → World → Prop} {w : World} (h : CallK Tryz.prog 83 args K w) : CallV Tryz.prog (.func (.func 83) #[] #[]) args K w := callV_func Tryz.func83 (by kernel_rfl) (by kernel_rfl) h
theorem ck84 {args : Array Value} {K : Value → World → Prop} {w : World} (h : CallK Tryz.prog 84 args K w) : CallV Tryz.prog (.func (.func 84) #[] #[]) args K w := callV_func Tryz.func84 (by kernel_rfl) (by kernel_rfl) h
theorem ck85 {args : Array Value} {K : Value → World → Prop} {w : World} (h : CallK Tryz.prog 85 args K w) : CallV Tryz.prog (.func (.func 85) #[] #[]) args K w := callV_func Tryz.func85 (by kernel_rfl) (by kernel_rfl) h
theorem ck86 {args : Array Value} {K : Value → World → Prop} {w : World} (h : CallK Tryz.prog 86 args K w) : CallV Tryz.prog (.func (.func 86) #[] #[]) args K w := callV_func Tryz.func86 (by kernel_rfl) (by kernel_rfl) h
theorem ck87 {args : Array Value} {K : Value → World → Prop} {w : World} (h : CallK Tryz.prog 87 args K w) : CallV Tryz.prog (.func (.func 87) #[] #[]) args K w := callV_func Tryz.func87 (by kernel_rfl) (by kernel_rfl) h
theorem ck88 {args : Array Value} {K : Value → World → Prop} {w : World} (h : CallK Tryz.prog 88 args K w) : CallV Tryz.prog (.func (.func 88) #[] #[]) args K w := callV_func Tryz.func88 (by kernel_rfl) (by kernel_rfl) h
theorem ck89 {args : Array Value} {K : Value → World → Prop} {w : World} (h : CallK Tryz.prog 89 args K w) : CallV Tryz.prog (.func (.func 89) #[] #[]) args K w := callV_func Tryz.func89 (by kernel_rfl) (by kernel_rfl) h
theorem ck90 {args : Array Value} {K : Value → World → Prop} {w : World} (h : CallK Tryz.prog 90 args K w) : CallV Tryz.prog (.func (.func 90) #[] #[]) args K w := callV_func Tryz.func90 (by kernel_rfl) (by kernel_rfl) h
theorem ck91 {args : Array Value} {K : Value → World → Prop} {w : World} (h : CallK Tryz.prog 91 args K w) : CallV Tryz.prog (.func (.func 91) #[] #[]) args K w := callV_func Tryz.func91 (by kernel_rfl) (by kernel_rfl) h
theorem ck92 {args : Array Value} {K : Value → World → Prop} {w : World} (h : CallK Tryz.prog 92 args K w) : CallV Tryz.prog (.func (.func 92) #[] #[]) args K w := callV_func Tryz.func92 (by kernel_rfl) (by kernel_rfl) h
theorem ck93 {args : Array Value} {K : Value → World → Prop} {w : World} (h : CallK Tryz.prog 93 args K w) : CallV Tryz.prog (.func (.func 93) #[] #[]) args K w := callV_func Tryz.func93 (by kernel_rfl) (by kernel_rfl) h
theorem ck94 {args : Array Value} {K : Value → World → Prop} {w : World} (h : CallK Tryz.prog 94 args K w) : CallV Tryz.prog (.func (.func 94) #[] #[]) args K w := callV_func Tryz.func94 (by kernel_rfl) (by kernel_rfl) h
theorem ck95 {args : Array Value} {K : Value → World → Prop} {w : World} (h : CallK Tryz.prog 95 args K w) : CallV Tryz.prog (.func (.func 95) #[] #[]) args K w := callV_func Tryz.func95 (by kernel_rfl) (by kernel_rfl) h
theorem ck96 {args : Array Value} {K : Value → World → Prop} {w : World} (h : CallK Tryz.prog 96 args K w) : CallV Tryz.prog (.func (.func 96) #[] #[]) args K w := callV_func Tryz.func96 (by kernel_rfl) (by kernel_rfl) h
theorem ck97 {args : Array Value} {K : Value → World → Prop} {w : World} (h : CallK Tryz.prog 97 args K w) : CallV Tryz.prog (.func (.func 97) #[] #[]) args K w := callV_func Tryz.func97 (by kernel_rfl) (by kernel_rfl) h
theorem ck98 {args : Array Value} {K : Value → World → Prop} {w : World} (h : CallK Tryz.prog 98 args K w) : CallV Tryz.prog (.func (.func 98) #[] #[]) args K w := callV_func Tryz.func98 (by kernel_rfl) (by kernel_rfl) h
theorem ck99 {args : Array Value} {K : Value → World → Prop} {w : World} (h : CallK Tryz.prog 99 args K w) : CallV Tryz.prog (.func (.func 99) #[] #[]) args K w := callV_func Tryz.func99 (by kernel_rfl) (by kernel_rfl) h
theorem ck100 {args : Array Value} {K : Value → World → Prop} {w : World} (h : CallK Tryz.prog 100 args K w) : CallV Tryz.prog (.func (.func 100) #[] #[]) args K w := callV_func Tryz.func100 (by kernel_rfl) (by kernel_rfl) h
theorem ck101 {args : Array Value} {K : Value → World → Prop} {w : World} (h : CallK Tryz.prog 101 args K w) : CallV Tryz.prog (.func (.func 101) #[] #[]) args K w := callV_func Tryz.func101 (by kernel_rfl) (by kernel_rfl) h
theorem ck102 {args : Array Value} {K : Value → World → Prop} {w : World} (h : CallK Tryz.prog 102 args K w) : CallV Tryz.prog (.func (.func 102) #[] #[]) args K w := callV_func Tryz.func102 (by kernel_rfl) (by kernel_rfl) h
theorem ck103 {args : Array Value} {K : Value → World → Prop} {w : World} (h : CallK Tryz.prog 103 args K w) : CallV Tryz.prog (.func (.func 103) #[] #[]) args K w := callV_func Tryz.func103 (by kernel_rfl) (by kernel_rfl) h
theorem ck104 {args : Array Value} {K : Value → World → Prop} {w : World} (h : CallK Tryz.prog 104 args K w) : CallV Tryz.prog (.func (.func 104) #[] #[]) args K w := callV_func Tryz.func104 (by kernel_rfl) (by kernel_rfl) h
theorem ck105 {args : Array Value} {K : Value → World → Prop} {w : World} (h : CallK Tryz.prog 105 args K w) : CallV Tryz.prog (.func (.func 105) #[] #[]) args K w := callV_func Tryz.func105 (by kernel_rfl) (by kernel_rfl) h
theorem ck106 {args : Array Value} {K : Value → World → Prop} {w : World} (h : CallK Tryz.prog 106 args K w) : CallV Tryz.prog (.func (.func 106) #[] #[]) args K w := callV_func Tryz.func106 (by kernel_rfl) (by kernel_rfl) h
theorem ck107 {args : Array Value} {K : Value → World → Prop} {w : World} (h : CallK Tryz.prog 107 args K w) : CallV Tryz.prog (.func (.func 107) #[] #[]) args K w := callV_func Tryz.func107 (by kernel_rfl) (by kernel_rfl) h
theorem ck108 {args : Array Value} {K : Value → World → Prop} {w : World} (h : CallK Tryz.prog 108 args K w) : CallV Tryz.prog (.func (.func 108) #[] #[]) args K w := callV_func Tryz.func108 (by kernel_rfl) (by kernel_rfl) h
theorem ck109 {args : Array Value} {K : Value → World → Prop} {w : World} (h : CallK Tryz.prog 109 args K w) : CallV Tryz.prog (.func (.func 109) #[] #[]) args K w := callV_func Tryz.func109 (by kernel_rfl) (by kernel_rfl) h
theorem ck110 {args : Array Value} {K : Value → World → Prop} {w : World} (h : CallK Tryz.prog 110 args K w) : CallV Tryz.prog (.func (.func 110) #[] #[]) args K w := callV_func Tryz.func110 (by kernel_rfl) (by kernel_rfl) h
theorem ck111 {args : Array Value} {K : Value → World → Prop} {w : World} (h : CallK Tryz.prog 111 args K w) : CallV Tryz.prog (.func (.func 111) #[] #[]) args K w := callV_func Tryz.func111 (by kernel_rfl) (by kernel_rfl) h
theorem ck112 {args : Array Value} {K : Value → World → Prop} {w : World} (h : CallK Tryz.prog 112 args K w) : CallV Tryz.prog (.func (.func 112) #[] #[]) args K w := callV_func Tryz.func112 (by kernel_rfl) (by kernel_rfl) h
theorem ck113 {args : Array Value} {K : Value → World → Prop} {w : World} (h : CallK Tryz.prog 113 args K w) : CallV Tryz.prog (.func (.func 113) #[] #[]) args K w := callV_func Tryz.func113 (by kernel_rfl) (by kernel_rfl) h
theorem ck114 {args : Array Value} {K : Value → World → Prop} {w : World} (h : CallK Tryz.prog 114 args K w) : CallV Tryz.prog (.func (.func 114) #[] #[]) args K w := callV_func Tryz.func114 (by kernel_rfl) (by kernel_rfl) h
theorem ck115 {args : Array Value} {K : Value → World → Prop} {w : World} (h : CallK Tryz.prog 115 args K w) : CallV Tryz.prog (.func (.func 115) #[] #[]) args K w := callV_func Tryz.func115 (by kernel_rfl) (by kernel_rfl) h
theorem ck116 {args : Array Value} {K : Value → World → Prop} {w : World} (h : CallK Tryz.prog 116 args K w) : CallV Tryz.prog (.func (.func 116) #[] #[]) args K w := callV_func Tryz.func116 (by kernel_rfl) (by kernel_rfl) h
theorem ck117 {args : Array Value} {K : Value → World → Prop} {w : World} (h : CallK Tryz.prog 117 args K w) : CallV Tryz.prog (.func (.func 117) #[] #[]) args K w := callV_func Tryz.func117 (by kernel_rfl) (by kernel_rfl) h
theorem ck119 {args : Array Value} {K : Value → World → Prop} {w : World} (h : CallK Tryz.prog 119 args K w) : CallV Tryz.prog (.func (.func 119) #[] #[]) args K w := callV_func Tryz.func119 (by kernel_rfl) (by kernel_rfl) h
theorem ck120 {args : Array Value} {K : Value → World → Prop} {w : World} (h : CallK Tryz.prog 120 args K w) : CallV Tryz.prog (.func (.func 120) #[] #[]) args K w := callV_func Tryz.func120 (by kernel_rfl) (by kernel_rfl) h
theorem ck121 {args : Array Value} {K : Value → World → Prop} {w : World} (h : CallK Tryz.prog 121 args K w) : CallV Tryz.prog (.func (.func 121) #[] #[]) args K w := callV_func Tryz.func121 (by kernel_rfl) (by kernel_rfl) h
theorem ck122 {args : Array Value} {K : Value → World → Prop} {w : World} (h : CallK Tryz.prog 122 args K w) : CallV Tryz.prog (.func (.func 122) #[] #[]) args K w := callV_func Tryz.func122 (by kernel_rfl) (by kernel_rfl) h
theorem ck123 {args : Array Value} {K : Value → World → Prop} {w : World} (h : CallK Tryz.prog 123 args K w) : CallV Tryz.prog (.func (.func 123) #[] #[]) args K w := callV_func Tryz.func123 (by kernel_rfl) (by kernel_rfl) h
theorem ck124 {args : Array Value} {K : Value → World → Prop} {w : World} (h : CallK Tryz.prog 124 args K w) : CallV Tryz.prog (.func (.func 124) #[] #[]) args K w := callV_func Tryz.func124 (by kernel_rfl) (by kernel_rfl) h
theorem ck125 {args : Array Value} {K : Value → World → Prop} {w : World} (h : CallK Tryz.prog 125 args K w) : CallV Tryz.prog (.func (.func 125) #[] #[]) args K w := callV_func Tryz.func125 (by kernel_rfl) (by kernel_rfl) h
theorem ck127 {args : Array Value} {K : Value → World → Prop} {w : World} (h : CallK Tryz.prog 127 args K w) : CallV Tryz.prog (.func (.func 127) #[] #[]) args K w := callV_func Tryz.func127 (by kernel_rfl) (by kernel_rfl) h
theorem ck128 {args : Array Value} {K : Value → World → Prop} {w : World} (h : CallK Tryz.prog 128 args K w) : CallV Tryz.prog (.func (.func 128) #[] #[]) args K w := callV_func Tryz.func128 (by kernel_rfl) (by kernel_rfl) h
theorem ck129 {args : Array Value} {K : Value → World → Prop} {w : World} (h : CallK Tryz.prog 129 args K w) : CallV Tryz.prog (.func (.func 129) #[] #[]) args K w := callV_func Tryz.func129 (by kernel_rfl) (by kernel_rfl) h
theorem ck130 {args : Array Value} {K : Value → World → Prop} {w : World} (h : CallK Tryz.prog 130 args K w) : CallV Tryz.prog (.func (.func 130) #[] #[]) args K w := callV_func Tryz.func130 (by kernel_rfl) (by kernel_rfl) h
theorem cv3 {args : Array Value} {K : Value → World → Prop} {w : World} {v : Value} {R : World → Prop} (h : Calls Tryz.prog 3 args w fun e w' => e = .returned v ∧ R w') (hk : ∀ w', R w' → K v w') : CallV Tryz.prog (.func (.func 3) #[] #[]) args K w := callV_of Tryz.func3 (by kernel_rfl) (by kernel_rfl) h hk
theorem cv4 {args : Array Value} {K : Value → World → Prop} {w : World} {v : Value} {R : World → Prop} (h : Calls Tryz.prog 4 args w fun e w' => e = .returned v ∧ R w') (hk : ∀ w', R w' → K v w') : CallV Tryz.prog (.func (.func 4) #[] #[]) args K w := callV_of Tryz.func4 (by kernel_rfl) (by kernel_rfl) h hk
theorem cv5 {args : Array Value} {K : Value → World → Prop} {w : World} {v : Value} {R : World → Prop} (h : Calls Tryz.prog 5 args w fun e w' => e = .returned v ∧ R w') (hk : ∀ w', R w' → K v w') : CallV Tryz.prog (.func (.func 5) #[] #[]) args K w := callV_of Tryz.func5 (by kernel_rfl) (by kernel_rfl) h hk
theorem cv6 {args : Array Value} {K : Value → World → Prop} {w : World} {v : Value} {R : World → Prop} (h : Calls Tryz.prog 6 args w fun e w' => e = .returned v ∧ R w') (hk : ∀ w', R w' → K v w') : CallV Tryz.prog (.func (.func 6) #[] #[]) args K w := callV_of Tryz.func6 (by kernel_rfl) (by kernel_rfl) h hk
theorem cv7 {args : Array Value} {K : Value → World → Prop} {w : World} {v : Value} {R : World → Prop} (h : Calls Tryz.prog 7 args w fun e w' => e = .returned v ∧ R w') (hk : ∀ w', R w' → K v w') : CallV Tryz.prog (.func (.func 7) #[] #[]) args K w := callV_of Tryz.func7 (by kernel_rfl) (by kernel_rfl) h hk
theorem cv8 {args : Array Value} {K : Value → World → Prop} {w : World} {v : Value} {R : World → Prop} (h : Calls Tryz.prog 8 args w fun e w' => e = .returned v ∧ R w') (hk : ∀ w', R w' → K v w') : CallV Tryz.prog (.func (.func 8) #[] #[]) args K w := callV_of Tryz.func8 (by kernel_rfl) (by kernel_rfl) h hk
theorem cv9 {args : Array Value} {K : Value → World → Prop} {w : World} {v : Value} {R : World → Prop} (h : Calls Tryz.prog 9 args w fun e w' => e = .returned v ∧ R w') (hk : ∀ w', R w' → K v w') : CallV Tryz.prog (.func (.func 9) #[] #[]) args K w := callV_of Tryz.func9 (by kernel_rfl) (by kernel_rfl) h hk
theorem cv10 {args : Array Value} {K : Value → World → Prop} {w : World} {v : Value} {R : World → Prop} (h : Calls Tryz.prog 10 args w fun e w' => e = .returned v ∧ R w') (hk : ∀ w', R w' → K v w') : CallV Tryz.prog (.func (.func 10) #[] #[]) args K w := callV_of Tryz.func10 (by kernel_rfl) (by kernel_rfl) h hk
theorem cv11 {args : Array Value} {K : Value → World → Prop} {w : World} {v : Value} {R : World → Prop} (h : Calls Tryz.prog 11 args w fun e w' => e = .returned v ∧ R w') (hk : ∀ w', R w' → K v w') : CallV Tryz.prog (.func (.func 11) #[] #[]) args K w := callV_of Tryz.func11 (by kernel_rfl) (by kernel_rfl) h hk
theorem cv12 {args : Array Value} {K : Value → World → Prop} {w : World} {v : Value} {R : World → Prop} (h : Calls Tryz.prog 12 args w fun e w' => e = .returned v ∧ R w') (hk : ∀ w', R w' → K v w') : CallV Tryz.prog (.func (.func 12) #[] #[]) args K w := callV_of Tryz.func12 (by kernel_rfl) (by kernel_rfl) h hk
theorem cv13 {args : Array Value} {K : Value → World → Prop} {w : World} {v : Value} {R : World → Prop} (h : Calls Tryz.prog 13 args w fun e w' => e = .returned v ∧ R w') (hk : ∀ w', R w' → K v w') : CallV Tryz.prog (.func (.func 13) #[] #[]) args K w := callV_of Tryz.func13 (by kernel_rfl) (by kernel_rfl) h hk
theorem cv14 {args : Array Value} {K : Value → World → Prop} {w : World} {v : Value} {R : World → Prop} (h : Calls Tryz.prog 14 args w fun e w' => e = .returned v ∧ R w') (hk : ∀ w', R w' → K v w') : CallV Tryz.prog (.func (.func 14) #[] #[]) args K w := callV_of Tryz.func14 (by kernel_rfl) (by kernel_rfl) h hk
theorem cv15 {args : Array Value} {K : Value → World → Prop} {w : World} {v : Value} {R : World → Prop} (h : Calls Tryz.prog 15 args w fun e w' => e = .returned v ∧ R w') (hk : ∀ w', R w' → K v w') : CallV Tryz.prog (.func (.func 15) #[] #[]) args K w := callV_of Tryz.func15 (by kernel_rfl) (by kernel_rfl) h hk
theorem cv16 {args : Array Value} {K : Value → World → Prop} {w : World} {v : Value} {R : World → Prop} (h : Calls Tryz.prog 16 args w fun e w' => e = .returned v ∧ R w') (hk : ∀ w', R w' → K v w') : CallV Tryz.prog (.func (.func 16) #[] #[]) args K w := callV_of Tryz.func16 (by kernel_rfl) (by kernel_rfl) h hk
theorem cv17 {args : Array Value} {K : Value → World → Prop} {w : World} {v : Value} {R : World → Prop} (h : Calls Tryz.prog 17 args w fun e w' => e = .returned v ∧ R w') (hk : ∀ w', R w' → K v w') : CallV Tryz.prog (.func (.func 17) #[] #[]) args K w := callV_of Tryz.func17 (by kernel_rfl) (by kernel_rfl) h hk
theorem cv18 {args : Array Value} {K : Value → World → Prop} {w : World} {v : Value} {R : World → Prop} (h : Calls Tryz.prog 18 args w fun e w' => e = .returned v ∧ R w') (hk : ∀ w', R w' → K v w') : CallV Tryz.prog (.func (.func 18) #[] #[]) args K w := callV_of Tryz.func18 (by kernel_rfl) (by kernel_rfl) h hk
theorem cv19 {args : Array Value} {K : Value → World → Prop} {w : World} {v : Value} {R : World → Prop} (h : Calls Tryz.prog 19 args w fun e w' => e = .returned v ∧ R w') (hk : ∀ w', R w' → K v w') : CallV Tryz.prog (.func (.func 19) #[] #[]) args K w := callV_of Tryz.func19 (by kernel_rfl) (by kernel_rfl) h hk
theorem cv20 {args : Array Value} {K : Value → World → Prop} {w : World} {v : Value} {R : World → Prop} (h : Calls Tryz.prog 20 args w fun e w' => e = .returned v ∧ R w') (hk : ∀ w', R w' → K v w') : CallV Tryz.prog (.func (.func 20) #[] #[]) args K w := callV_of Tryz.func20 (by kernel_rfl) (by kernel_rfl) h hk
theorem cv21 {args : Array Value} {K : Value → World → Prop} {w : World} {v : Value} {R : World → Prop} (h : Calls Tryz.prog 21 args w fun e w' => e = .returned v ∧ R w') (hk : ∀ w', R w' → K v w') : CallV Tryz.prog (.func (.func 21) #[] #[]) args K w := callV_of Tryz.func21 (by kernel_rfl) (by kernel_rfl) h hk
theorem cv22 {args : Array Value} {K : Value → World → Prop} {w : World} {v : Value} {R : World → Prop} (h : Calls Tryz.prog 22 args w fun e w' => e = .returned v ∧ R w') (hk : ∀ w', R w' → K v w') : CallV Tryz.prog (.func (.func 22) #[] #[]) args K w := callV_of Tryz.func22 (by kernel_rfl) (by kernel_rfl) h hk
theorem cv23 {args : Array Value} {K : Value → World → Prop} {w : World} {v : Value} {R : World → Prop} (h : Calls Tryz.prog 23 args w fun e w' => e = .returned v ∧ R w') (hk : ∀ w', R w' → K v w') : CallV Tryz.prog (.func (.func 23) #[] #[]) args K w := callV_of Tryz.func23 (by kernel_rfl) (by kernel_rfl) h hk
theorem cv24 {args : Array Value} {K : Value → World → Prop} {w : World} {v : Value} {R : World → Prop} (h : Calls Tryz.prog 24 args w fun e w' => e = .returned v ∧ R w') (hk : ∀ w', R w' → K v w') : CallV Tryz.prog (.func (.func 24) #[] #[]) args K w := callV_of Tryz.func24 (by kernel_rfl) (by kernel_rfl) h hk
theorem cv25 {args : Array Value} {K : Value → World → Prop} {w : World} {v : Value} {R : World → Prop} (h : Calls Tryz.prog 25 args w fun e w' => e = .returned v ∧ R w') (hk : ∀ w', R w' → K v w') : CallV Tryz.prog (.func (.func 25) #[] #[]) args K w := callV_of Tryz.func25 (by kernel_rfl) (by kernel_rfl) h hk
theorem cv26 {args : Array Value} {K : Value → World → Prop} {w : World} {v : Value} {R : World → Prop} (h : Calls Tryz.prog 26 args w fun e w' => e = .returned v ∧ R w') (hk : ∀ w', R w' → K v w') : CallV Tryz.prog (.func (.func 26) #[] #[]) args K w := callV_of Tryz.func26 (by kernel_rfl) (by kernel_rfl) h hk
theorem cv27 {args : Array Value} {K : Value → World → Prop} {w : World} {v : Value} {R : World → Prop} (h : Calls Tryz.prog 27 args w fun e w' => e = .returned v ∧ R w') (hk : ∀ w', R w' → K v w') : CallV Tryz.prog (.func (.func 27) #[] #[]) args K w := callV_of Tryz.func27 (by kernel_rfl) (by kernel_rfl) h hk
theorem cv28 {args : Array Value} {K : Value → World → Prop} {w : World} {v : Value} {R : World → Prop} (h : Calls Tryz.prog 28 args w fun e w' => e = .returned v ∧ R w') (hk : ∀ w', R w' → K v w') : CallV Tryz.prog (.func (.func 28) #[] #[]) args K w := callV_of Tryz.func28 (by kernel_rfl) (by kernel_rfl) h hk
theorem cv29 {args : Array Value} {K : Value → World → Prop} {w : World} {v : Value} {R : World → Prop} (h : Calls Tryz.prog 29 args w fun e w' => e = .returned v ∧ R w') (hk : ∀ w', R w' → K v w') : CallV Tryz.prog (.func (.func 29) #[] #[]) args K w := callV_of Tryz.func29 (by kernel_rfl) (by kernel_rfl) h hk
theorem cv30 {args : Array Value} {K : Value → World → Prop} {w : World} {v : Value} {R : World → Prop} (h : Calls Tryz.prog 30 args w fun e w' => e = .returned v ∧ R w') (hk : ∀ w', R w' → K v w') : CallV Tryz.prog (.func (.func 30) #[] #[]) args K w := callV_of Tryz.func30 (by kernel_rfl) (by kernel_rfl) h hk
theorem cv31 {args : Array Value} {K : Value → World → Prop} {w : World} {v : Value} {R : World → Prop} (h : Calls Tryz.prog 31 args w fun e w' => e = .returned v ∧ R w') (hk : ∀ w', R w' → K v w') : CallV Tryz.prog (.func (.func 31) #[] #[]) args K w := callV_of Tryz.func31 (by kernel_rfl) (by kernel_rfl) h hk
theorem cv32 {args : Array Value} {K : Value → World → Prop} {w : World} {v : Value} {R : World → Prop} (h : Calls Tryz.prog 32 args w fun e w' => e = .returned v ∧ R w') (hk : ∀ w', R w' → K v w') : CallV Tryz.prog (.func (.func 32) #[] #[]) args K w := callV_of Tryz.func32 (by kernel_rfl) (by kernel_rfl) h hk
theorem cv33 {args : Array Value} {K : Value → World → Prop} {w : World} {v : Value} {R : World → Prop} (h : Calls Tryz.prog 33 args w fun e w' => e = .returned v ∧ R w') (hk : ∀ w', R w' → K v w') : CallV Tryz.prog (.func (.func 33) #[] #[]) args K w := callV_of Tryz.func33 (by kernel_rfl) (by kernel_rfl) h hk
theorem cv34 {args : Array Value} {K : Value → World → Prop} {w : World} {v : Value} {R : World → Prop} (h : Calls Tryz.prog 34 args w fun e w' => e = .returned v ∧ R w') (hk : ∀ w', R w' → K v w') : CallV Tryz.prog (.func (.func 34) #[] #[]) args K w := callV_of Tryz.func34 (by kernel_rfl) (by kernel_rfl) h hk
theorem cv35 {args : Array Value} {K : Value → World → Prop} {w : World} {v : Value} {R : World → Prop} (h : Calls Tryz.prog 35 args w fun e w' => e = .returned v ∧ R w') (hk : ∀ w', R w' → K v w') : CallV Tryz.prog (.func (.func 35) #[] #[]) args K w := callV_of Tryz.func35 (by kernel_rfl) (by kernel_rfl) h hk
theorem cv36 {args : Array Value} {K : Value → World → Prop} {w : World} {v : Value} {R : World → Prop} (h : Calls Tryz.prog 36 args w fun e w' => e = .returned v ∧ R w') (hk : ∀ w', R w' → K v w') : CallV Tryz.prog (.func (.func 36) #[] #[]) args K w := callV_of Tryz.func36 (by kernel_rfl) (by kernel_rfl) h hk
theorem cv37 {args : Array Value} {K : Value → World → Prop} {w : World} {v : Value} {R : World → Prop} (h : Calls Tryz.prog 37 args w fun e w' => e = .returned v ∧ R w') (hk : ∀ w', R w' → K v w') : CallV Tryz.prog (.func (.func 37) #[] #[]) args K w := callV_of Tryz.func37 (by kernel_rfl) (by kernel_rfl) h hk
theorem cv38 {args : Array Value} {K : Value → World → Prop} {w : World} {v : Value} {R : World → Prop} (h : Calls Tryz.prog 38 args w fun e w' => e = .returned v ∧ R w') (hk : ∀ w', R w' → K v w') : CallV Tryz.prog (.func (.func 38) #[] #[]) args K w := callV_of Tryz.func38 (by kernel_rfl) (by kernel_rfl) h hk
theorem cv39 {args : Array Value} {K : Value → World → Prop} {w : World} {v : Value} {R : World → Prop} (h : Calls Tryz.prog 39 args w fun e w' => e = .returned v ∧ R w') (hk : ∀ w', R w' → K v w') : CallV Tryz.prog (.func (.func 39) #[] #[]) args K w := callV_of Tryz.func39 (by kernel_rfl) (by kernel_rfl) h hk
theorem cv40 {args : Array Value} {K : Value → World → Prop} {w : World} {v : Value} {R : World → Prop} (h : Calls Tryz.prog 40 args w fun e w' => e = .returned v ∧ R w') (hk : ∀ w', R w' → K v w') : CallV Tryz.prog (.func (.func 40) #[] #[]) args K w := callV_of Tryz.func40 (by kernel_rfl) (by kernel_rfl) h hk
theorem cv41 {args : Array Value} {K : Value → World → Prop} {w : World} {v : Value} {R : World → Prop} (h : Calls Tryz.prog 41 args w fun e w' => e = .returned v ∧ R w') (hk : ∀ w', R w' → K v w') : CallV Tryz.prog (.func (.func 41) #[] #[]) args K w := callV_of Tryz.func41 (by kernel_rfl) (by kernel_rfl) h hk
theorem cv42 {args : Array Value} {K : Value → World → Prop} {w : World} {v : Value} {R : World → Prop} (h : Calls Tryz.prog 42 args w fun e w' => e = .returned v ∧ R w') (hk : ∀ w', R w' → K v w') : CallV Tryz.prog (.func (.func 42) #[] #[]) args K w := callV_of Tryz.func42 (by kernel_rfl) (by kernel_rfl) h hk
theorem cv43 {args : Array Value} {K : Value → World → Prop} {w : World} {v : Value} {R : World → Prop} (h : Calls Tryz.prog 43 args w fun e w' => e = .returned v ∧ R w') (hk : ∀ w', R w' → K v w') : CallV Tryz.prog (.func (.func 43) #[] #[]) args K w := callV_of Tryz.func43 (by kernel_rfl) (by kernel_rfl) h hk
theorem cv44 {args : Array Value} {K : Value → World → Prop} {w : World} {v : Value} {R : World → Prop} (h : Calls Tryz.prog 44 args w fun e w' => e = .returned v ∧ R w') (hk : ∀ w', R w' → K v w') : CallV Tryz.prog (.func (.func 44) #[] #[]) args K w := callV_of Tryz.func44 (by kernel_rfl) (by kernel_rfl) h hk
theorem cv45 {args : Array Value} {K : Value → World → Prop} {w : World} {v : Value} {R : World → Prop} (h : Calls Tryz.prog 45 args w fun e w' => e = .returned v ∧ R w') (hk : ∀ w', R w' → K v w') : CallV Tryz.prog (.func (.func 45) #[] #[]) args K w := callV_of Tryz.func45 (by kernel_rfl) (by kernel_rfl) h hk
theorem cv46 {args : Array Value} {K : Value → World → Prop} {w : World} {v : Value} {R : World → Prop} (h : Calls Tryz.prog 46 args w fun e w' => e = .returned v ∧ R w') (hk : ∀ w', R w' → K v w') : CallV Tryz.prog (.func (.func 46) #[] #[]) args K w := callV_of Tryz.func46 (by kernel_rfl) (by kernel_rfl) h hk
theorem cv47 {args : Array Value} {K : Value → World → Prop} {w : World} {v : Value} {R : World → Prop} (h : Calls Tryz.prog 47 args w fun e w' => e = .returned v ∧ R w') (hk : ∀ w', R w' → K v w') : CallV Tryz.prog (.func (.func 47) #[] #[]) args K w := callV_of Tryz.func47 (by kernel_rfl) (by kernel_rfl) h hk
theorem cv48 {args : Array Value} {K : Value → World → Prop} {w : World} {v : Value} {R : World → Prop} (h : Calls Tryz.prog 48 args w fun e w' => e = .returned v ∧ R w') (hk : ∀ w', R w' → K v w') : CallV Tryz.prog (.func (.func 48) #[] #[]) args K w := callV_of Tryz.func48 (by kernel_rfl) (by kernel_rfl) h hk
theorem cv49 {args : Array Value} {K : Value → World → Prop} {w : World} {v : Value} {R : World → Prop} (h : Calls Tryz.prog 49 args w fun e w' => e = .returned v ∧ R w') (hk : ∀ w', R w' → K v w') : CallV Tryz.prog (.func (.func 49) #[] #[]) args K w := callV_of Tryz.func49 (by kernel_rfl) (by kernel_rfl) h hk
theorem cv50 {args : Array Value} {K : Value → World → Prop} {w : World} {v : Value} {R : World → Prop} (h : Calls Tryz.prog 50 args w fun e w' => e = .returned v ∧ R w') (hk : ∀ w', R w' → K v w') : CallV Tryz.prog (.func (.func 50) #[] #[]) args K w := callV_of Tryz.func50 (by kernel_rfl) (by kernel_rfl) h hk
theorem cv51 {args : Array Value} {K : Value → World → Prop} {w : World} {v : Value} {R : World → Prop} (h : Calls Tryz.prog 51 args w fun e w' => e = .returned v ∧ R w') (hk : ∀ w', R w' → K v w') : CallV Tryz.prog (.func (.func 51) #[] #[]) args K w := callV_of Tryz.func51 (by kernel_rfl) (by kernel_rfl) h hk
theorem cv52 {args : Array Value} {K : Value → World → Prop} {w : World} {v : Value} {R : World → Prop} (h : Calls Tryz.prog 52 args w fun e w' => e = .returned v ∧ R w') (hk : ∀ w', R w' → K v w') : CallV Tryz.prog (.func (.func 52) #[] #[]) args K w := callV_of Tryz.func52 (by kernel_rfl) (by kernel_rfl) h hk
theorem cv53 {args : Array Value} {K : Value → World → Prop} {w : World} {v : Value} {R : World → Prop} (h : Calls Tryz.prog 53 args w fun e w' => e = .returned v ∧ R w') (hk : ∀ w', R w' → K v w') : CallV Tryz.prog (.func (.func 53) #[] #[]) args K w := callV_of Tryz.func53 (by kernel_rfl) (by kernel_rfl) h hk
theorem cv54 {args : Array Value} {K : Value → World → Prop} {w : World} {v : Value} {R : World → Prop} (h : Calls Tryz.prog 54 args w fun e w' => e = .returned v ∧ R w') (hk : ∀ w', R w' → K v w') : CallV Tryz.prog (.func (.func 54) #[] #[]) args K w := callV_of Tryz.func54 (by kernel_rfl) (by kernel_rfl) h hk
theorem cv55 {args : Array Value} {K : Value → World → Prop} {w : World} {v : Value} {R : World → Prop} (h : Calls Tryz.prog 55 args w fun e w' => e = .returned v ∧ R w') (hk : ∀ w', R w' → K v w') : CallV Tryz.prog (.func (.func 55) #[] #[]) args K w := callV_of Tryz.func55 (by kernel_rfl) (by kernel_rfl) h hk
theorem cv56 {args : Array Value} {K : Value → World → Prop} {w : World} {v : Value} {R : World → Prop} (h : Calls Tryz.prog 56 args w fun e w' => e = .returned v ∧ R w') (hk : ∀ w', R w' → K v w') : CallV Tryz.prog (.func (.func 56) #[] #[]) args K w := callV_of Tryz.func56 (by kernel_rfl) (by kernel_rfl) h hk
theorem cv57 {args : Array Value} {K : Value → World → Prop} {w : World} {v : Value} {R : World → Prop} (h : Calls Tryz.prog 57 args w fun e w' => e = .returned v ∧ R w') (hk : ∀ w', R w' → K v w') : CallV Tryz.prog (.func (.func 57) #[] #[]) args K w := callV_of Tryz.func57 (by kernel_rfl) (by kernel_rfl) h hk
theorem cv58 {args : Array Value} {K : Value → World → Prop} {w : World} {v : Value} {R : World → Prop} (h : Calls Tryz.prog 58 args w fun e w' => e = .returned v ∧ R w') (hk : ∀ w', R w' → K v w') : CallV Tryz.prog (.func (.func 58) #[] #[]) args K w := callV_of Tryz.func58 (by kernel_rfl) (by kernel_rfl) h hk
theorem cv59 {args : Array Value} {K : Value → World → Prop} {w : World} {v : Value} {R : World → Prop} (h : Calls Tryz.prog 59 args w fun e w' => e = .returned v ∧ R w') (hk : ∀ w', R w' → K v w') : CallV Tryz.prog (.func (.func 59) #[] #[]) args K w := callV_of Tryz.func59 (by kernel_rfl) (by kernel_rfl) h hk
theorem cv60 {args : Array Value} {K : Value → World → Prop} {w : World} {v : Value} {R : World → Prop} (h : Calls Tryz.prog 60 args w fun e w' => e = .returned v ∧ R w') (hk : ∀ w', R w' → K v w') : CallV Tryz.prog (.func (.func 60) #[] #[]) args K w := callV_of Tryz.func60 (by kernel_rfl) (by kernel_rfl) h hk
theorem cv61 {args : Array Value} {K : Value → World → Prop} {w : World} {v : Value} {R : World → Prop} (h : Calls Tryz.prog 61 args w fun e w' => e = .returned v ∧ R w') (hk : ∀ w', R w' → K v w') : CallV Tryz.prog (.func (.func 61) #[] #[]) args K w := callV_of Tryz.func61 (by kernel_rfl) (by kernel_rfl) h hk
theorem cv62 {args : Array Value} {K : Value → World → Prop} {w : World} {v : Value} {R : World → Prop} (h : Calls Tryz.prog 62 args w fun e w' => e = .returned v ∧ R w') (hk : ∀ w', R w' → K v w') : CallV Tryz.prog (.func (.func 62) #[] #[]) args K w := callV_of Tryz.func62 (by kernel_rfl) (by kernel_rfl) h hk
theorem cv63 {args : Array Value} {K : Value → World → Prop} {w : World} {v : Value} {R : World → Prop} (h : Calls Tryz.prog 63 args w fun e w' => e = .returned v ∧ R w') (hk : ∀ w', R w' → K v w') : CallV Tryz.prog (.func (.func 63) #[] #[]) args K w := callV_of Tryz.func63 (by kernel_rfl) (by kernel_rfl) h hk
theorem cv64 {args : Array Value} {K : Value → World → Prop} {w : World} {v : Value} {R : World → Prop} (h : Calls Tryz.prog 64 args w fun e w' => e = .returned v ∧ R w') (hk : ∀ w', R w' → K v w') : CallV Tryz.prog (.func (.func 64) #[] #[]) args K w := callV_of Tryz.func64 (by kernel_rfl) (by kernel_rfl) h hk
theorem cv65 {args : Array Value} {K : Value → World → Prop} {w : World} {v : Value} {R : World → Prop} (h : Calls Tryz.prog 65 args w fun e w' => e = .returned v ∧ R w') (hk : ∀ w', R w' → K v w') : CallV Tryz.prog (.func (.func 65) #[] #[]) args K w := callV_of Tryz.func65 (by kernel_rfl) (by kernel_rfl) h hk
theorem cv66 {args : Array Value} {K : Value → World → Prop} {w : World} {v : Value} {R : World → Prop} (h : Calls Tryz.prog 66 args w fun e w' => e = .returned v ∧ R w') (hk : ∀ w', R w' → K v w') : CallV Tryz.prog (.func (.func 66) #[] #[]) args K w := callV_of Tryz.func66 (by kernel_rfl) (by kernel_rfl) h hk
theorem cv67 {args : Array Value} {K : Value → World → Prop} {w : World} {v : Value} {R : World → Prop} (h : Calls Tryz.prog 67 args w fun e w' => e = .returned v ∧ R w') (hk : ∀ w', R w' → K v w') : CallV Tryz.prog (.func (.func 67) #[] #[]) args K w := callV_of Tryz.func67 (by kernel_rfl) (by kernel_rfl) h hk
theorem cv68 {args : Array Value} {K : Value → World → Prop} {w : World} {v : Value} {R : World → Prop} (h : Calls Tryz.prog 68 args w fun e w' => e = .returned v ∧ R w') (hk : ∀ w', R w' → K v w') : CallV Tryz.prog (.func (.func 68) #[] #[]) args K w := callV_of Tryz.func68 (by kernel_rfl) (by kernel_rfl) h hk
theorem cv69 {args : Array Value} {K : Value → World → Prop} {w : World} {v : Value} {R : World → Prop} (h : Calls Tryz.prog 69 args w fun e w' => e = .returned v ∧ R w') (hk : ∀ w', R w' → K v w') : CallV Tryz.prog (.func (.func 69) #[] #[]) args K w := callV_of Tryz.func69 (by kernel_rfl) (by kernel_rfl) h hk
theorem cv70 {args : Array Value} {K : Value → World → Prop} {w : World} {v : Value} {R : World → Prop} (h : Calls Tryz.prog 70 args w fun e w' => e = .returned v ∧ R w') (hk : ∀ w', R w' → K v w') : CallV Tryz.prog (.func (.func 70) #[] #[]) args K w := callV_of Tryz.func70 (by kernel_rfl) (by kernel_rfl) h hk
theorem cv71 {args : Array Value} {K : Value → World → Prop} {w : World} {v : Value} {R : World → Prop} (h : Calls Tryz.prog 71 args w fun e w' => e = .returned v ∧ R w') (hk : ∀ w', R w' → K v w') : CallV Tryz.prog (.func (.func 71) #[] #[]) args K w := callV_of Tryz.func71 (by kernel_rfl) (by kernel_rfl) h hk
theorem cv72 {args : Array Value} {K : Value → World → Prop} {w : World} {v : Value} {R : World → Prop} (h : Calls Tryz.prog 72 args w fun e w' => e = .returned v ∧ R w') (hk : ∀ w', R w' → K v w') : CallV Tryz.prog (.func (.func 72) #[] #[]) args K w := callV_of Tryz.func72 (by kernel_rfl) (by kernel_rfl) h hk
theorem cv73 {args : Array Value} {K : Value → World → Prop} {w : World} {v : Value} {R : World → Prop} (h : Calls Tryz.prog 73 args w fun e w' => e = .returned v ∧ R w') (hk : ∀ w', R w' → K v w') : CallV Tryz.prog (.func (.func 73) #[] #[]) args K w := callV_of Tryz.func73 (by kernel_rfl) (by kernel_rfl) h hk
theorem cv74 {args : Array Value} {K : Value → World → Prop} {w : World} {v : Value} {R : World → Prop} (h : Calls Tryz.prog 74 args w fun e w' => e = .returned v ∧ R w') (hk : ∀ w', R w' → K v w') : CallV Tryz.prog (.func (.func 74) #[] #[]) args K w := callV_of Tryz.func74 (by kernel_rfl) (by kernel_rfl) h hk
theorem cv75 {args : Array Value} {K : Value → World → Prop} {w : World} {v : Value} {R : World → Prop} (h : Calls Tryz.prog 75 args w fun e w' => e = .returned v ∧ R w') (hk : ∀ w', R w' → K v w') : CallV Tryz.prog (.func (.func 75) #[] #[]) args K w := callV_of Tryz.func75 (by kernel_rfl) (by kernel_rfl) h hk
theorem cv76 {args : Array Value} {K : Value → World → Prop} {w : World} {v : Value} {R : World → Prop} (h : Calls Tryz.prog 76 args w fun e w' => e = .returned v ∧ R w') (hk : ∀ w', R w' → K v w') : CallV Tryz.prog (.func (.func 76) #[] #[]) args K w := callV_of Tryz.func76 (by kernel_rfl) (by kernel_rfl) h hk
theorem cv77 {args : Array Value} {K : Value → World → Prop} {w : World} {v : Value} {R : World → Prop} (h : Calls Tryz.prog 77 args w fun e w' => e = .returned v ∧ R w') (hk : ∀ w', R w' → K v w') : CallV Tryz.prog (.func (.func 77) #[] #[]) args K w := callV_of Tryz.func77 (by kernel_rfl) (by kernel_rfl) h hk
theorem cv78 {args : Array Value} {K : Value → World → Prop} {w : World} {v : Value} {R : World → Prop} (h : Calls Tryz.prog 78 args w fun e w' => e = .returned v ∧ R w') (hk : ∀ w', R w' → K v w') : CallV Tryz.prog (.func (.func 78) #[] #[]) args K w := callV_of Tryz.func78 (by kernel_rfl) (by kernel_rfl) h hk
theorem cv79 {args : Array Value} {K : Value → World → Prop} {w : World} {v : Value} {R : World → Prop} (h : Calls Tryz.prog 79 args w fun e w' => e = .returned v ∧ R w') (hk : ∀ w', R w' → K v w') : CallV Tryz.prog (.func (.func 79) #[] #[]) args K w := callV_of Tryz.func79 (by kernel_rfl) (by kernel_rfl) h hk
theorem cv80 {args : Array Value} {K : Value → World → Prop} {w : World} {v : Value} {R : World → Prop} (h : Calls Tryz.prog 80 args w fun e w' => e = .returned v ∧ R w') (hk : ∀ w', R w' → K v w') : CallV Tryz.prog (.func (.func 80) #[] #[]) args K w := callV_of Tryz.func80 (by kernel_rfl) (by kernel_rfl) h hk
theorem cv81 {args : Array Value} {K : Value → World → Prop} {w : World} {v : Value} {R : World → Prop} (h : Calls Tryz.prog 81 args w fun e w' => e = .returned v ∧ R w') (hk : ∀ w', R w' → K v w') : CallV Tryz.prog (.func (.func 81) #[] #[]) args K w := callV_of Tryz.func81 (by kernel_rfl) (by kernel_rfl) h hk
theorem cv82 {args : Array Value} {K : Value → World → Prop} {w : World} {v : Value} {R : World → Prop} (h : Calls Tryz.prog 82 args w fun e w' => e = .returned v ∧ R w') (hk : ∀ w', R w' → K v w') : CallV Tryz.prog (.func (.func 82) #[] #[]) args K w := callV_of Tryz.func82 (by kernel_rfl) (by kernel_rfl) h hk
theorem cv83 {args : Array Value} {K : Value → World → Prop} {w : World} {v : Value} {R : World → Prop} (h : Calls Tryz.prog 83 args w fun e w' => e = .returned v ∧ R w') (hk : ∀ w', R w' → K v w') : CallV Tryz.prog (.func (.func 83) #[] #[]) args K w := callV_of Tryz.func83 (by kernel_rfl) (by kernel_rfl) h hk
theorem cv84 {args : Array Value} {K : Value → World → Prop} {w : World} {v : Value} {R : World → Prop} (h : Calls Tryz.prog 84 args w fun e w' => e = .returned v ∧ R w') (hk : ∀ w', R w' → K v w') : CallV Tryz.prog (.func (.func 84) #[] #[]) args K w := callV_of Tryz.func84 (by kernel_rfl) (by kernel_rfl) h hk
theorem cv85 {args : Array Value} {K : Value → World → Prop} {w : World} {v : Value} {R : World → Prop} (h : Calls Tryz.prog 85 args w fun e w' => e = .returned v ∧ R w') (hk : ∀ w', R w' → K v w') : CallV Tryz.prog (.func (.func 85) #[] #[]) args K w := callV_of Tryz.func85 (by kernel_rfl) (by kernel_rfl) h hk
theorem cv86 {args : Array Value} {K : Value → World → Prop} {w : World} {v : Value} {R : World → Prop} (h : Calls Tryz.prog 86 args w fun e w' => e = .returned v ∧ R w') (hk : ∀ w', R w' → K v w') : CallV Tryz.prog (.func (.func 86) #[] #[]) args K w := callV_of Tryz.func86 (by kernel_rfl) (by kernel_rfl) h hk
theorem cv87 {args : Array Value} {K : Value → World → Prop} {w : World} {v : Value} {R : World → Prop} (h : Calls Tryz.prog 87 args w fun e w' => e = .returned v ∧ R w') (hk : ∀ w', R w' → K v w') : CallV Tryz.prog (.func (.func 87) #[] #[]) args K w := callV_of Tryz.func87 (by kernel_rfl) (by kernel_rfl) h hk
theorem cv88 {args : Array Value} {K : Value → World → Prop} {w : World} {v : Value} {R : World → Prop} (h : Calls Tryz.prog 88 args w fun e w' => e = .returned v ∧ R w') (hk : ∀ w', R w' → K v w') : CallV Tryz.prog (.func (.func 88) #[] #[]) args K w := callV_of Tryz.func88 (by kernel_rfl) (by kernel_rfl) h hk
theorem cv89 {args : Array Value} {K : Value → World → Prop} {w : World} {v : Value} {R : World → Prop} (h : Calls Tryz.prog 89 args w fun e w' => e = .returned v ∧ R w') (hk : ∀ w', R w' → K v w') : CallV Tryz.prog (.func (.func 89) #[] #[]) args K w := callV_of Tryz.func89 (by kernel_rfl) (by kernel_rfl) h hk
theorem cv90 {args : Array Value} {K : Value → World → Prop} {w : World} {v : Value} {R : World → Prop} (h : Calls Tryz.prog 90 args w fun e w' => e = .returned v ∧ R w') (hk : ∀ w', R w' → K v w') : CallV Tryz.prog (.func (.func 90) #[] #[]) args K w := callV_of Tryz.func90 (by kernel_rfl) (by kernel_rfl) h hk
theorem cv91 {args : Array Value} {K : Value → World → Prop} {w : World} {v : Value} {R : World → Prop} (h : Calls Tryz.prog 91 args w fun e w' => e = .returned v ∧ R w') (hk : ∀ w', R w' → K v w') : CallV Tryz.prog (.func (.func 91) #[] #[]) args K w := callV_of Tryz.func91 (by kernel_rfl) (by kernel_rfl) h hk
theorem cv92 {args : Array Value} {K : Value → World → Prop} {w : World} {v : Value} {R : World → Prop} (h : Calls Tryz.prog 92 args w fun e w' => e = .returned v ∧ R w') (hk : ∀ w', R w' → K v w') : CallV Tryz.prog (.func (.func 92) #[] #[]) args K w := callV_of Tryz.func92 (by kernel_rfl) (by kernel_rfl) h hk
theorem cv93 {args : Array Value} {K : Value → World → Prop} {w : World} {v : Value} {R : World → Prop} (h : Calls Tryz.prog 93 args w fun e w' => e = .returned v ∧ R w') (hk : ∀ w', R w' → K v w') : CallV Tryz.prog (.func (.func 93) #[] #[]) args K w := callV_of Tryz.func93 (by kernel_rfl) (by kernel_rfl) h hk
theorem cv94 {args : Array Value} {K : Value → World → Prop} {w : World} {v : Value} {R : World → Prop} (h : Calls Tryz.prog 94 args w fun e w' => e = .returned v ∧ R w') (hk : ∀ w', R w' → K v w') : CallV Tryz.prog (.func (.func 94) #[] #[]) args K w := callV_of Tryz.func94 (by kernel_rfl) (by kernel_rfl) h hk
theorem cv95 {args : Array Value} {K : Value → World → Prop} {w : World} {v : Value} {R : World → Prop} (h : Calls Tryz.prog 95 args w fun e w' => e = .returned v ∧ R w') (hk : ∀ w', R w' → K v w') : CallV Tryz.prog (.func (.func 95) #[] #[]) args K w := callV_of Tryz.func95 (by kernel_rfl) (by kernel_rfl) h hk
theorem cv96 {args : Array Value} {K : Value → World → Prop} {w : World} {v : Value} {R : World → Prop} (h : Calls Tryz.prog 96 args w fun e w' => e = .returned v ∧ R w') (hk : ∀ w', R w' → K v w') : CallV Tryz.prog (.func (.func 96) #[] #[]) args K w := callV_of Tryz.func96 (by kernel_rfl) (by kernel_rfl) h hk
theorem cv97 {args : Array Value} {K : Value → World → Prop} {w : World} {v : Value} {R : World → Prop} (h : Calls Tryz.prog 97 args w fun e w' => e = .returned v ∧ R w') (hk : ∀ w', R w' → K v w') : CallV Tryz.prog (.func (.func 97) #[] #[]) args K w := callV_of Tryz.func97 (by kernel_rfl) (by kernel_rfl) h hk
theorem cv98 {args : Array Value} {K : Value → World → Prop} {w : World} {v : Value} {R : World → Prop} (h : Calls Tryz.prog 98 args w fun e w' => e = .returned v ∧ R w') (hk : ∀ w', R w' → K v w') : CallV Tryz.prog (.func (.func 98) #[] #[]) args K w := callV_of Tryz.func98 (by kernel_rfl) (by kernel_rfl) h hk
theorem cv99 {args : Array Value} {K : Value → World → Prop} {w : World} {v : Value} {R : World → Prop} (h : Calls Tryz.prog 99 args w fun e w' => e = .returned v ∧ R w') (hk : ∀ w', R w' → K v w') : CallV Tryz.prog (.func (.func 99) #[] #[]) args K w := callV_of Tryz.func99 (by kernel_rfl) (by kernel_rfl) h hk
theorem cv100 {args : Array Value} {K : Value → World → Prop} {w : World} {v : Value} {R : World → Prop} (h : Calls Tryz.prog 100 args w fun e w' => e = .returned v ∧ R w') (hk : ∀ w', R w' → K v w') : CallV Tryz.prog (.func (.func 100) #[] #[]) args K w := callV_of Tryz.func100 (by kernel_rfl) (by kernel_rfl) h hk
theorem cv101 {args : Array Value} {K : Value → World → Prop} {w : World} {v : Value} {R : World → Prop} (h : Calls Tryz.prog 101 args w fun e w' => e = .returned v ∧ R w') (hk : ∀ w', R w' → K v w') : CallV Tryz.prog (.func (.func 101) #[] #[]) args K w := callV_of Tryz.func101 (by kernel_rfl) (by kernel_rfl) h hk
theorem cv102 {args : Array Value} {K : Value → World → Prop} {w : World} {v : Value} {R : World → Prop} (h : Calls Tryz.prog 102 args w fun e w' => e = .returned v ∧ R w') (hk : ∀ w', R w' → K v w') : CallV Tryz.prog (.func (.func 102) #[] #[]) args K w := callV_of Tryz.func102 (by kernel_rfl) (by kernel_rfl) h hk
theorem cv103 {args : Array Value} {K : Value → World → Prop} {w : World} {v : Value} {R : World → Prop} (h : Calls Tryz.prog 103 args w fun e w' => e = .returned v ∧ R w') (hk : ∀ w', R w' → K v w') : CallV Tryz.prog (.func (.func 103) #[] #[]) args K w := callV_of Tryz.func103 (by kernel_rfl) (by kernel_rfl) h hk
theorem cv104 {args : Array Value} {K : Value → World → Prop} {w : World} {v : Value} {R : World → Prop} (h : Calls Tryz.prog 104 args w fun e w' => e = .returned v ∧ R w') (hk : ∀ w', R w' → K v w') : CallV Tryz.prog (.func (.func 104) #[] #[]) args K w := callV_of Tryz.func104 (by kernel_rfl) (by kernel_rfl) h hk
theorem cv105 {args : Array Value} {K : Value → World → Prop} {w : World} {v : Value} {R : World → Prop} (h : Calls Tryz.prog 105 args w fun e w' => e = .returned v ∧ R w') (hk : ∀ w', R w' → K v w') : CallV Tryz.prog (.func (.func 105) #[] #[]) args K w := callV_of Tryz.func105 (by kernel_rfl) (by kernel_rfl) h hk
theorem cv106 {args : Array Value} {K : Value → World → Prop} {w : World} {v : Value} {R : World → Prop} (h : Calls Tryz.prog 106 args w fun e w' => e = .returned v ∧ R w') (hk : ∀ w', R w' → K v w') : CallV Tryz.prog (.func (.func 106) #[] #[]) args K w := callV_of Tryz.func106 (by kernel_rfl) (by kernel_rfl) h hk
theorem cv107 {args : Array Value} {K : Value → World → Prop} {w : World} {v : Value} {R : World → Prop} (h : Calls Tryz.prog 107 args w fun e w' => e = .returned v ∧ R w') (hk : ∀ w', R w' → K v w') : CallV Tryz.prog (.func (.func 107) #[] #[]) args K w := callV_of Tryz.func107 (by kernel_rfl) (by kernel_rfl) h hk
theorem cv108 {args : Array Value} {K : Value → World → Prop} {w : World} {v : Value} {R : World → Prop} (h : Calls Tryz.prog 108 args w fun e w' => e = .returned v ∧ R w') (hk : ∀ w', R w' → K v w') : CallV Tryz.prog (.func (.func 108) #[] #[]) args K w := callV_of Tryz.func108 (by kernel_rfl) (by kernel_rfl) h hk
theorem cv109 {args : Array Value} {K : Value → World → Prop} {w : World} {v : Value} {R : World → Prop} (h : Calls Tryz.prog 109 args w fun e w' => e = .returned v ∧ R w') (hk : ∀ w', R w' → K v w') : CallV Tryz.prog (.func (.func 109) #[] #[]) args K w := callV_of Tryz.func109 (by kernel_rfl) (by kernel_rfl) h hk
theorem cv110 {args : Array Value} {K : Value → World → Prop} {w : World} {v : Value} {R : World → Prop} (h : Calls Tryz.prog 110 args w fun e w' => e = .returned v ∧ R w') (hk : ∀ w', R w' → K v w') : CallV Tryz.prog (.func (.func 110) #[] #[]) args K w := callV_of Tryz.func110 (by kernel_rfl) (by kernel_rfl) h hk
theorem cv111 {args : Array Value} {K : Value → World → Prop} {w : World} {v : Value} {R : World → Prop} (h : Calls Tryz.prog 111 args w fun e w' => e = .returned v ∧ R w') (hk : ∀ w', R w' → K v w') : CallV Tryz.prog (.func (.func 111) #[] #[]) args K w := callV_of Tryz.func111 (by kernel_rfl) (by kernel_rfl) h hk
theorem cv112 {args : Array Value} {K : Value → World → Prop} {w : World} {v : Value} {R : World → Prop} (h : Calls Tryz.prog 112 args w fun e w' => e = .returned v ∧ R w') (hk : ∀ w', R w' → K v w') : CallV Tryz.prog (.func (.func 112) #[] #[]) args K w := callV_of Tryz.func112 (by kernel_rfl) (by kernel_rfl) h hk
theorem cv113 {args : Array Value} {K : Value → World → Prop} {w : World} {v : Value} {R : World → Prop} (h : Calls Tryz.prog 113 args w fun e w' => e = .returned v ∧ R w') (hk : ∀ w', R w' → K v w') : CallV Tryz.prog (.func (.func 113) #[] #[]) args K w := callV_of Tryz.func113 (by kernel_rfl) (by kernel_rfl) h hk
theorem cv114 {args : Array Value} {K : Value → World → Prop} {w : World} {v : Value} {R : World → Prop} (h : Calls Tryz.prog 114 args w fun e w' => e = .returned v ∧ R w') (hk : ∀ w', R w' → K v w') : CallV Tryz.prog (.func (.func 114) #[] #[]) args K w := callV_of Tryz.func114 (by kernel_rfl) (by kernel_rfl) h hk
theorem cv115 {args : Array Value} {K : Value → World → Prop} {w : World} {v : Value} {R : World → Prop} (h : Calls Tryz.prog 115 args w fun e w' => e = .returned v ∧ R w') (hk : ∀ w', R w' → K v w') : CallV Tryz.prog (.func (.func 115) #[] #[]) args K w := callV_of Tryz.func115 (by kernel_rfl) (by kernel_rfl) h hk
theorem cv116 {args : Array Value} {K : Value → World → Prop} {w : World} {v : Value} {R : World → Prop} (h : Calls Tryz.prog 116 args w fun e w' => e = .returned v ∧ R w') (hk : ∀ w', R w' → K v w') : CallV Tryz.prog (.func (.func 116) #[] #[]) args K w := callV_of Tryz.func116 (by kernel_rfl) (by kernel_rfl) h hk
theorem cv117 {args : Array Value} {K : Value → World → Prop} {w : World} {v : Value} {R : World → Prop} (h : Calls Tryz.prog 117 args w fun e w' => e = .returned v ∧ R w') (hk : ∀ w', R w' → K v w') : CallV Tryz.prog (.func (.func 117) #[] #[]) args K w := callV_of Tryz.func117 (by kernel_rfl) (by kernel_rfl) h hk
theorem cv119 {args : Array Value} {K : Value → World → Prop} {w : World} {v : Value} {R : World → Prop} (h : Calls Tryz.prog 119 args w fun e w' => e = .returned v ∧ R w') (hk : ∀ w', R w' → K v w') : CallV Tryz.prog (.func (.func 119) #[] #[]) args K w := callV_of Tryz.func119 (by kernel_rfl) (by kernel_rfl) h hk
theorem cv120 {args : Array Value} {K : Value → World → Prop} {w : World} {v : Value} {R : World → Prop} (h : Calls Tryz.prog 120 args w fun e w' => e = .returned v ∧ R w') (hk : ∀ w', R w' → K v w') : CallV Tryz.prog (.func (.func 120) #[] #[]) args K w := callV_of Tryz.func120 (by kernel_rfl) (by kernel_rfl) h hk
theorem cv121 {args : Array Value} {K : Value → World → Prop} {w : World} {v : Value} {R : World → Prop} (h : Calls Tryz.prog 121 args w fun e w' => e = .returned v ∧ R w') (hk : ∀ w', R w' → K v w') : CallV Tryz.prog (.func (.func 121) #[] #[]) args K w := callV_of Tryz.func121 (by kernel_rfl) (by kernel_rfl) h hk
theorem cv122 {args : Array Value} {K : Value → World → Prop} {w : World} {v : Value} {R : World → Prop} (h : Calls Tryz.prog 122 args w fun e w' => e = .returned v ∧ R w') (hk : ∀ w', R w' → K v w') : CallV Tryz.prog (.func (.func 122) #[] #[]) args K w := callV_of Tryz.func122 (by kernel_rfl) (by kernel_rfl) h hk
theorem cv123 {args : Array Value} {K : Value → World → Prop} {w : World} {v : Value} {R : World → Prop} (h : Calls Tryz.prog 123 args w fun e w' => e = .returned v ∧ R w') (hk : ∀ w', R w' → K v w') : CallV Tryz.prog (.func (.func 123) #[] #[]) args K w := callV_of Tryz.func123 (by kernel_rfl) (by kernel_rfl) h hk
theorem cv124 {args : Array Value} {K : Value → World → Prop} {w : World} {v : Value} {R : World → Prop} (h : Calls Tryz.prog 124 args w fun e w' => e = .returned v ∧ R w') (hk : ∀ w', R w' → K v w') : CallV Tryz.prog (.func (.func 124) #[] #[]) args K w := callV_of Tryz.func124 (by kernel_rfl) (by kernel_rfl) h hk
theorem cv125 {args : Array Value} {K : Value → World → Prop} {w : World} {v : Value} {R : World → Prop} (h : Calls Tryz.prog 125 args w fun e w' => e = .returned v ∧ R w') (hk : ∀ w', R w' → K v w') : CallV Tryz.prog (.func (.func 125) #[] #[]) args K w := callV_of Tryz.func125 (by kernel_rfl) (by kernel_rfl) h hk
theorem cv127 {args : Array Value} {K : Value → World → Prop} {w : World} {v : Value} {R : World → Prop} (h : Calls Tryz.prog 127 args w fun e w' => e = .returned v ∧ R w') (hk : ∀ w', R w' → K v w') : CallV Tryz.prog (.func (.func 127) #[] #[]) args K w := callV_of Tryz.func127 (by kernel_rfl) (by kernel_rfl) h hk
theorem cv128 {args : Array Value} {K : Value → World → Prop} {w : World} {v : Value} {R : World → Prop} (h : Calls Tryz.prog 128 args w fun e w' => e = .returned v ∧ R w') (hk : ∀ w', R w' → K v w') : CallV Tryz.prog (.func (.func 128) #[] #[]) args K w := callV_of Tryz.func128 (by kernel_rfl) (by kernel_rfl) h hk
theorem cv129 {args : Array Value} {K : Value → World → Prop} {w : World} {v : Value} {R : World → Prop} (h : Calls Tryz.prog 129 args w fun e w' => e = .returned v ∧ R w') (hk : ∀ w', R w' → K v w') : CallV Tryz.prog (.func (.func 129) #[] #[]) args K w := callV_of Tryz.func129 (by kernel_rfl) (by kernel_rfl) h hk
theorem cv130 {args : Array Value} {K : Value → World → Prop} {w : World} {v : Value} {R : World → Prop} (h : Calls Tryz.prog 130 args w fun e w' => e = .returned v ∧ R w') (hk : ∀ w', R w' → K v w') : CallV Tryz.prog (.func (.func 130) #[] #[]) args K w := callV_of Tryz.func130 (by kernel_rfl) (by kernel_rfl) h hk

theorem st3 : type_of% (And.intro @kbx26 (And.intro @kld26 (And.intro @kbneq3 (And.intro @kbneq9 (And.intro @kal26 (And.intro @kst26f (And.intro @qkbeql3 @kbeql3))))))) := And.intro @kbx26 (And.intro @kld26 (And.intro @kbneq3 (And.intro @kbneq9 (And.intro @kal26 (And.intro @kst26f (And.intro @qkbeql3 @kbeql3))))))
theorem st4 : type_of% (And.intro @kbneq3 (And.intro @kbneq9 @kbeql3)) := And.intro @kbneq3 (And.intro @kbneq9 @kbeql3)
theorem st5 : type_of% (And.intro @klen29 (And.intro @hlen29 (And.intro @kbgtr3 (And.intro @kbs53_2_0_1 (And.intro @kblss3 (And.intro @kia53 (And.intro @kld29 (And.intro @kal26 (And.intro @kst26f (And.intro @kal38 (And.intro @kst38f (And.intro @qkbneq3 (And.intro @kbneq3 (And.intro @kld26 (And.intro @kld38 @kbadd3))))))))))))))) := And.intro @klen29 (And.intro @hlen29 (And.intro @kbgtr3 (And.intro @kbs53_2_0_1 (And.intro @kblss3 (And.intro @kia53 (And.intro @kld29 (And.intro @kal26 (And.intro @kst26f (And.intro @kal38 (And.intro @kst38f (And.intro @qkbneq3 (And.intro @kbneq3 (And.intro @kld26 (And.intro @kld38 @kbadd3))))))))))))))
theorem st6 : type_of% (And.intro @kbx61 (And.intro @kbx23 (And.intro @kbx26 (And.intro @kld61 (And.intro @kfa61_3 (And.intro @kld59 (And.intro @klen59 (And.intro @hlen59 (And.intro @kbgtr3 (And.intro @kfa23_3 (And.intro @kld9 (And.intro @klen9 (And.intro @hlen9 (And.intro @kld26 (And.intro @kfa26_2 (And.intro @kld24 (And.intro @klen24 (And.intro @hlen24 (And.intro @kblss3 (And.intro @kia24 (And.intro @kfa64_1 (And.intro @kbadd3 (And.intro @kbd67_ (And.intro @kbx67 (And.intro @kld23 (And.intro @qkbneq9 (And.intro @kbneq9 (And.intro @kal61 (And.intro @kst61f (And.intro @kal23 (And.intro @kst23f (And.intro @kal26 (And.intro @kst26f (And.intro @qkfa61_0 (And.intro @kfa61_0 (And.intro @kld3 (And.intro @qkbeql3 @kbeql3))))))))))))))))))))))))))))))))))))) := And.intro @kbx61 (And.intro @kbx23 (And.intro @kbx26 (And.intro @kld61 (And.intro @kfa61_3 (And.intro @kld59 (And.intro @klen59 (And.intro @hlen59 (And.intro @kbgtr3 (And.intro @kfa23_3 (And.intro @kld9 (And.intro @klen9 (And.intro @hlen9 (And.intro @kld26 (And.intro @kfa26_2 (And.intro @kld24 (And.intro @klen24 (And.intro @hlen24 (And.intro @kblss3 (And.intro @kia24 (And.intro @kfa64_1 (And.intro @kbadd3 (And.intro @kbd67_ (And.intro @kbx67 (And.intro @kld23 (And.intro @qkbneq9 (And.intro @kbneq9 (And.intro @kal61 (And.intro @kst61f (And.intro @kal23 (And.intro @kst23f (And.intro @kal26 (And.intro @kst26f (And.intro @qkfa61_0 (And.intro @kfa61_0 (And.intro @kld3 (And.intro @qkbeql3 @kbeql3))))))))))))))))))))))))))))))))))))
theorem st7 : type_of% (And.intro @kbx26 (And.intro @kld26 (And.intro @kbeql5 (And.intro @kbneq3 (And.intro @klen29 (And.intro @hlen29 (And.intro @kbeql3 (And.intro @kcv87_3 (And.intro @kbrem3 (And.intro @kbs29_0 (And.intro @kia29 (And.intro @kld5 (And.intro @kbxor5 (And.intro @kst5 (And.intro @kal26 (And.intro @kst26f (And.intro @kfa26_0 (And.intro @kld9 (And.intro @kbeql9 (And.intro @kfa26_2 (And.intro @kld24 (And.intro @klen24 @hlen24)))))))))))))))))))))) := And.intro @kbx26 (And.intro @kld26 (And.intro @kbeql5 (And.intro @kbneq3 (And.intro @klen29 (And.intro @hlen29 (And.intro @kbeql3 (And.intro @kcv87_3 (And.intro @kbrem3 (And.intro @kbs29_0 (And.intro @kia29 (And.intro @kld5 (And.intro @kbxor5 (And.intro @kst5 (And.intro @kal26 (And.intro @kst26f (And.intro @kfa26_0 (And.intro @kld9 (And.intro @kbeql9 (And.intro @kfa26_2 (And.intro @kld24 (And.intro @klen24 @hlen24)))))))))))))))))))))
theorem st8 : type_of% (And.intro @kbd23_0_3 (And.intro @kbs59_2_0_1 (And.intro @kbd61_0_3 (And.intro @kbd64_0_1 (And.intro @kbs24_1_0 (And.intro @kbd26_0_1_2 (And.intro @kal26 (And.intro @kst26f (And.intro @kld26 (And.intro @kbs43_2_0_1 (And.intro @kbs29_5_0_1_2_3_4 (And.intro @kbadd3 (And.intro @kbeql3 (And.intro @klen43 @hlen43)))))))))))))) := And.intro @kbd23_0_3 (And.intro @kbs59_2_0_1 (And.intro @kbd61_0_3 (And.intro @kbd64_0_1 (And.intro @kbs24_1_0 (And.intro @kbd26_0_1_2 (And.intro @kal26 (And.intro @kst26f (And.intro @kld26 (And.intro @kbs43_2_0_1 (And.intro @kbs29_5_0_1_2_3_4 (And.intro @kbadd3 (And.intro @kbeql3 (And.intro @klen43 @hlen43)))))))))))))
theorem st9 : type_of% (And.intro @kbx26 (And.intro @kfa26_0 (And.intro @kld9 (And.intro @klen9 (And.intro @hlen9 (And.intro @kbleq3 (And.intro @kfa26_1 (And.intro @kfa23_3 (And.intro @kfa26_2 @kld24))))))))) := And.intro @kbx26 (And.intro @kfa26_0 (And.intro @kld9 (And.intro @klen9 (And.intro @hlen9 (And.intro @kbleq3 (And.intro @kfa26_1 (And.intro @kfa23_3 (And.intro @kfa26_2 @kld24))))))))
theorem st10 : type_of% (And.intro @kbx26 (And.intro @kld26 @kbneq30)) := And.intro @kbx26 (And.intro @kld26 @kbneq30)
theorem st11 : type_of% (And.intro @kbx38 (And.intro @kld38 @kbneq3)) := And.intro @kbx38 (And.intro @kld38 @kbneq3)
theorem st12 : type_of% (And.intro @kld38 (And.intro @kbx26 (And.intro @kal38 (And.intro @qkfa26_0 (And.intro @kfa26_0 (And.intro @kld9 (And.intro @qkfa26_1 (And.intro @kfa26_1 (And.intro @kld23 (And.intro @qkfa26_2 (And.intro @kfa26_2 (And.intro @kld24 (And.intro @kbd38_0_1_2 @kst38f))))))))))))) := And.intro @kld38 (And.intro @kbx26 (And.intro @kal38 (And.intro @qkfa26_0 (And.intro @kfa26_0 (And.intro @kld9 (And.intro @qkfa26_1 (And.intro @kfa26_1 (And.intro @kld23 (And.intro @qkfa26_2 (And.intro @kfa26_2 (And.intro @kld24 (And.intro @kbd38_0_1_2 @kst38f))))))))))))
theorem st13 : type_of% (And.intro @kld26 (And.intro @kal26 (And.intro @kst26f (And.intro @kbeql30 (And.intro @kbneq30 @kbd26_))))) := And.intro @kld26 (And.intro @kal26 (And.intro @kst26f (And.intro @kbeql30 (And.intro @kbneq30 @kbd26_))))
theorem st14 : type_of% (And.intro @kbx38 (And.intro @kfa38_0 (And.intro @kld9 (And.intro @kbeql9 (And.intro @kfa38_1 (And.intro @kld35 (And.intro @kbeql3 (And.intro @kfa38_2 @kld36)))))))) := And.intro @kbx38 (And.intro @kfa38_0 (And.intro @kld9 (And.intro @kbeql9 (And.intro @kfa38_1 (And.intro @kld35 (And.intro @kbeql3 (And.intro @kfa38_2 @kld36)))))))
theorem st15 : type_of% (And.intro @klen43 (And.intro @hlen43 (And.intro @kbgtr3 (And.intro @kblss3 (And.intro @kia43 (And.intro @kld26 @kbadd3)))))) := And.intro @klen43 (And.intro @hlen43 (And.intro @kbgtr3 (And.intro @kblss3 (And.intro @kia43 (And.intro @kld26 @kbadd3)))))
theorem st16 : type_of% (@kbneq30) := @kbneq30
theorem st17 : type_of% (And.intro @klen47 (And.intro @hlen47 (And.intro @kbgtr3 (And.intro @kblss3 (And.intro @kia47 (And.intro @kld38 (And.intro @kbneq3 @kbadd3))))))) := And.intro @klen47 (And.intro @hlen47 (And.intro @kbgtr3 (And.intro @kblss3 (And.intro @kia47 (And.intro @kld38 (And.intro @kbneq3 @kbadd3))))))
theorem st18 : type_of% (And.intro @klen43 (And.intro @hlen43 (And.intro @kblss3 (And.intro @kia43 (And.intro @kld26 (And.intro @kbs47_1_0 @kbadd3)))))) := And.intro @klen43 (And.intro @hlen43 (And.intro @kblss3 (And.intro @kia43 (And.intro @kld26 (And.intro @kbs47_1_0 @kbadd3)))))
theorem st19 : type_of% (And.intro @kbeql30 @kbneq30) := And.intro @kbeql30 @kbneq30
theorem st20 : type_of% (And.intro @klen43 (And.intro @hlen43 (And.intro @klen47 (And.intro @hlen47 (And.intro @kbneq3 (And.intro @kblss3 (And.intro @qkia43 (And.intro @kia43 (And.intro @kld26 (And.intro @qkia47 (And.intro @kia47 (And.intro @kld38 @kbadd3)))))))))))) := And.intro @klen43 (And.intro @hlen43 (And.intro @klen47 (And.intro @hlen47 (And.intro @kbneq3 (And.intro @kblss3 (And.intro @qkia43 (And.intro @kia43 (And.intro @kld26 (And.intro @qkia47 (And.intro @kia47 (And.intro @kld38 @kbadd3)))))))))))
theorem st21 : type_of% (And.intro @kbs29_0 (And.intro @kcv106_5 (And.intro @kbshr106_i32 (And.intro @kbshr106_i64 (And.intro @kbshr106_u16 (And.intro @kbshr106_u32 (And.intro @kbshr106_u64 (And.intro @kbshr106_u8 @kbs29_4_0_1_2_3)))))))) := And.intro @kbs29_0 (And.intro @kcv106_5 (And.intro @kbshr106_i32 (And.intro @kbshr106_i64 (And.intro @kbshr106_u16 (And.intro @kbshr106_u32 (And.intro @kbshr106_u64 (And.intro @kbshr106_u8 @kbs29_4_0_1_2_3)))))))
theorem st22 : type_of% (And.intro @kld38 (And.intro @kal38 (And.intro @kbneq3 (And.intro @kbd38_ (And.intro @kst38f (And.intro @kbd112_0 (And.intro @kbx112 (And.intro @kfa112_2 (And.intro @kld3 (And.intro @qkfa112_2 @kbgtr3)))))))))) := And.intro @kld38 (And.intro @kal38 (And.intro @kbneq3 (And.intro @kbd38_ (And.intro @kst38f (And.intro @kbd112_0 (And.intro @kbx112 (And.intro @kfa112_2 (And.intro @kld3 (And.intro @qkfa112_2 @kbgtr3)))))))))
theorem st23 : type_of% (And.intro @kbneq3 (And.intro @kbd112_0 (And.intro @kbx112 (And.intro @kblss3 (And.intro @kbs47_1_0 (And.intro @kbadd3 (And.intro @kfa112_2 (And.intro @kld3 (And.intro @qkfa112_2 (And.intro @kbgtr3 (And.intro @klen47 (And.intro @hlen47 (And.intro @kia47 @kld38))))))))))))) := And.intro @kbneq3 (And.intro @kbd112_0 (And.intro @kbx112 (And.intro @kblss3 (And.intro @kbs47_1_0 (And.intro @kbadd3 (And.intro @kfa112_2 (And.intro @kld3 (And.intro @qkfa112_2 (And.intro @kbgtr3 (And.intro @klen47 (And.intro @hlen47 (And.intro @kia47 @kld38))))))))))))
theorem st24 : type_of% (And.intro @kbx61 (And.intro @kfa61_2 (And.intro @kld9 (And.intro @klen9 (And.intro @hlen9 (And.intro @kbleq3 (And.intro @kfa61_3 (And.intro @kld59 (And.intro @klen59 @hlen59))))))))) := And.intro @kbx61 (And.intro @kfa61_2 (And.intro @kld9 (And.intro @klen9 (And.intro @hlen9 (And.intro @kbleq3 (And.intro @kfa61_3 (And.intro @kld59 (And.intro @klen59 @hlen59))))))))
theorem st25 : type_of% (And.intro @kbx61 (And.intro @kfa61_0 (And.intro @kld3 (And.intro @kbs59_1_0 (And.intro @kbeql3 (And.intro @kfa61_1 (And.intro @kld2 (And.intro @kfa61_2 (And.intro @kld9 (And.intro @kbs150_1_0 (And.intro @kfa61_3 @kld59))))))))))) := And.intro @kbx61 (And.intro @kfa61_0 (And.intro @kld3 (And.intro @kbs59_1_0 (And.intro @kbeql3 (And.intro @kfa61_1 (And.intro @kld2 (And.intro @kfa61_2 (And.intro @kld9 (And.intro @kbs150_1_0 (And.intro @kfa61_3 @kld59))))))))))
theorem st26 : type_of% (And.intro @kbx23 (And.intro @kfa23_0 (And.intro @kld2 (And.intro @kfa23_1 (And.intro @kfa23_2 (And.intro @kbs59_3_0_1_2 (And.intro @kfa23_3 (And.intro @kld9 @kbs150_1_0)))))))) := And.intro @kbx23 (And.intro @kfa23_0 (And.intro @kld2 (And.intro @kfa23_1 (And.intro @kfa23_2 (And.intro @kbs59_3_0_1_2 (And.intro @kfa23_3 (And.intro @kld9 @kbs150_1_0)))))))
theorem st27 : type_of% (And.intro @kbx26 (And.intro @kfa26_0 (And.intro @kld9 (And.intro @kbs150_1_0 (And.intro @kfa26_1 (And.intro @kld23 (And.intro @kfa26_2 @kld24))))))) := And.intro @kbx26 (And.intro @kfa26_0 (And.intro @kld9 (And.intro @kbs150_1_0 (And.intro @kfa26_1 (And.intro @kld23 (And.intro @kfa26_2 @kld24))))))
theorem st28 : type_of% (And.intro @kbx72 (And.intro @kfa72_0 (And.intro @kld3 (And.intro @kbeql3 (And.intro @kfa72_1 (And.intro @kld2 (And.intro @kfa72_2 (And.intro @kld9 (And.intro @kfa72_3 (And.intro @kld59 (And.intro @klen59 (And.intro @hlen59 (And.intro @kblss3 (And.intro @kia59 @kbadd3)))))))))))))) := And.intro @kbx72 (And.intro @kfa72_0 (And.intro @kld3 (And.intro @kbeql3 (And.intro @kfa72_1 (And.intro @kld2 (And.intro @kfa72_2 (And.intro @kld9 (And.intro @kfa72_3 (And.intro @kld59 (And.intro @klen59 (And.intro @hlen59 (And.intro @kblss3 (And.intro @kia59 @kbadd3)))))))))))))
theorem st29 : type_of% (And.intro @kld72 (And.intro @kbx61 (And.intro @kal72 (And.intro @kfa61_0 (And.intro @kld3 (And.intro @kfa61_1 (And.intro @kld2 (And.intro @kfa61_2 (And.intro @kld9 (And.intro @kfa61_3 (And.intro @kld59 (And.intro @kbd72_0_1_2_3 @kst72f)))))))))))) := And.intro @kld72 (And.intro @kbx61 (And.intro @kal72 (And.intro @kfa61_0 (And.intro @kld3 (And.intro @kfa61_1 (And.intro @kld2 (And.intro @kfa61_2 (And.intro @kld9 (And.intro @kfa61_3 (And.intro @kld59 (And.intro @kbd72_0_1_2_3 @kst72f)))))))))))
theorem st30 : type_of% (And.intro @kbx35 (And.intro @qkfa35_0 (And.intro @kfa35_0 (And.intro @kld2 (And.intro @qkfa35_1 (And.intro @kfa35_1 (And.intro @kfa35_2 (And.intro @kfa35_3 @kld9)))))))) := And.intro @kbx35 (And.intro @qkfa35_0 (And.intro @kfa35_0 (And.intro @kld2 (And.intro @qkfa35_1 (And.intro @kfa35_1 (And.intro @kfa35_2 (And.intro @kfa35_3 @kld9)))))))
theorem st31 : type_of% (And.intro @kld35 (And.intro @kbx23 (And.intro @kal35 (And.intro @kfa23_0 (And.intro @kld2 (And.intro @kfa23_1 (And.intro @kfa23_2 (And.intro @kfa23_3 (And.intro @kld9 (And.intro @kbd35_0_1_2_3 @kst35f)))))))))) := And.intro @kld35 (And.intro @kbx23 (And.intro @kal35 (And.intro @kfa23_0 (And.intro @kld2 (And.intro @kfa23_1 (And.intro @kfa23_2 (And.intro @kfa23_3 (And.intro @kld9 (And.intro @kbd35_0_1_2_3 @kst35f)))))))))
theorem st32 : type_of% (And.intro @kbx38 (And.intro @qkfa38_0 (And.intro @kfa38_0 (And.intro @kld9 (And.intro @qkfa38_1 (And.intro @kfa38_1 (And.intro @kld35 (And.intro @kfa38_2 (And.intro @kld36 (And.intro @klen36 (And.intro @hlen36 (And.intro @kblss3 (And.intro @kia36 (And.intro @kfa123_0 (And.intro @kfa123_1 (And.intro @kld72 @kbadd3)))))))))))))))) := And.intro @kbx38 (And.intro @qkfa38_0 (And.intro @kfa38_0 (And.intro @kld9 (And.intro @qkfa38_1 (And.intro @kfa38_1 (And.intro @kld35 (And.intro @kfa38_2 (And.intro @kld36 (And.intro @klen36 (And.intro @hlen36 (And.intro @kblss3 (And.intro @kia36 (And.intro @kfa123_0 (And.intro @kfa123_1 (And.intro @kld72 @kbadd3)))))))))))))))
theorem st33 : type_of% (And.intro @kfa67_0 @kld29) := And.intro @kfa67_0 @kld29
theorem st34 : type_of% (And.intro @kbd125_0 @kbx125) := And.intro @kbd125_0 @kbx125
theorem st35 : type_of% (And.intro @kld61 (And.intro @kal61 (And.intro @kbd61_0 (And.intro @kst61f (And.intro @kfa61_0 (And.intro @kld3 (And.intro @kbeql3 (And.intro @kfa61_1 (And.intro @kst2 (And.intro @kfa61_2 (And.intro @kst9 (And.intro @kfa61_3 @kst59)))))))))))) := And.intro @kld61 (And.intro @kal61 (And.intro @kbd61_0 (And.intro @kst61f (And.intro @kfa61_0 (And.intro @kld3 (And.intro @kbeql3 (And.intro @kfa61_1 (And.intro @kst2 (And.intro @kfa61_2 (And.intro @kst9 (And.intro @kfa61_3 @kst59)))))))))))
theorem st36 : type_of% (And.intro @kld23 (And.intro @kal23 (And.intro @kbd23_0_1_2_3 @kst23f))) := And.intro @kld23 (And.intro @kal23 (And.intro @kbd23_0_1_2_3 @kst23f))
theorem st37 : type_of% (And.intro @kld26 (And.intro @kal26 (And.intro @kbd26_0_1_2 @kst26f))) := And.intro @kld26 (And.intro @kal26 (And.intro @kbd26_0_1_2 @kst26f))
theorem st38 : type_of% (And.intro @kbx72 (And.intro @kfa72_0 (And.intro @kld3 (And.intro @kbneq3 (And.intro @kbeql3 (And.intro @kfa72_1 (And.intro @kld2 (And.intro @kfa72_2 (And.intro @kld9 (And.intro @kfa72_3 (And.intro @kld59 (And.intro @klen59 (And.intro @hlen59 (And.intro @kblss3 (And.intro @qkfa72_3 (And.intro @qkia59 (And.intro @kia59 (And.intro @qkbneq2 (And.intro @kbneq2 @kbadd3))))))))))))))))))) := And.intro @kbx72 (And.intro @kfa72_0 (And.intro @kld3 (And.intro @kbneq3 (And.intro @kbeql3 (And.intro @kfa72_1 (And.intro @kld2 (And.intro @kfa72_2 (And.intro @kld9 (And.intro @kfa72_3 (And.intro @kld59 (And.intro @klen59 (And.intro @hlen59 (And.intro @kblss3 (And.intro @qkfa72_3 (And.intro @qkia59 (And.intro @kia59 (And.intro @qkbneq2 (And.intro @kbneq2 @kbadd3))))))))))))))))))
theorem st39 : type_of% (And.intro @kfa125_1 (And.intro @kld30 (And.intro @kbneq30 (And.intro @kfa125_0 (And.intro @kld29 (And.intro @klen29 @hlen29)))))) := And.intro @kfa125_1 (And.intro @kld30 (And.intro @kbneq30 (And.intro @kfa125_0 (And.intro @kld29 (And.intro @klen29 @hlen29)))))
theorem st40 : type_of% (And.intro @kfa125_1 @kld30) := And.intro @kfa125_1 @kld30
theorem st41 : type_of% (And.intro @kbx38 (And.intro @kfa38_0 (And.intro @kld9 (And.intro @kfa38_1 (And.intro @kld35 (And.intro @kbneq3 (And.intro @kfa38_2 (And.intro @kld36 (And.intro @klen36 (And.intro @hlen36 (And.intro @kbgtr3 (And.intro @kblss3 (And.intro @kia36 (And.intro @kfa123_1 (And.intro @kld72 (And.intro @kfa123_0 (And.intro @qkbgtr3 (And.intro @qkfa38_2 (And.intro @qkbsub3 (And.intro @kbsub3 (And.intro @qkia36 (And.intro @qkfa123_0 (And.intro @qkbgeq9 (And.intro @kbgeq9 @kbadd3)))))))))))))))))))))))) := And.intro @kbx38 (And.intro @kfa38_0 (And.intro @kld9 (And.intro @kfa38_1 (And.intro @kld35 (And.intro @kbneq3 (And.intro @kfa38_2 (And.intro @kld36 (And.intro @klen36 (And.intro @hlen36 (And.intro @kbgtr3 (And.intro @kblss3 (And.intro @kia36 (And.intro @kfa123_1 (And.intro @kld72 (And.intro @kfa123_0 (And.intro @qkbgtr3 (And.intro @qkfa38_2 (And.intro @qkbsub3 (And.intro @kbsub3 (And.intro @qkia36 (And.intro @qkfa123_0 (And.intro @qkbgeq9 (And.intro @kbgeq9 @kbadd3)))))))))))))))))))))))
theorem st42 : type_of% (And.intro @kbx26 (And.intro @kfa26_0 (And.intro @kld9 (And.intro @kbeql9 (And.intro @kfa26_1 (And.intro @kld23 (And.intro @kbeql3 (And.intro @kfa26_2 @kld24)))))))) := And.intro @kbx26 (And.intro @kfa26_0 (And.intro @kld9 (And.intro @kbeql9 (And.intro @kfa26_1 (And.intro @kld23 (And.intro @kbeql3 (And.intro @kfa26_2 @kld24)))))))
theorem st43 : type_of% (And.intro @klen24 (And.intro @hlen24 (And.intro @kbgtr3 (And.intro @kblss3 (And.intro @kia24 (And.intro @kfa64_0 (And.intro @kld9 (And.intro @klen9 (And.intro @hlen9 (And.intro @kfa64_1 (And.intro @kld61 @kbadd3))))))))))) := And.intro @klen24 (And.intro @hlen24 (And.intro @kbgtr3 (And.intro @kblss3 (And.intro @kia24 (And.intro @kfa64_0 (And.intro @kld9 (And.intro @klen9 (And.intro @hlen9 (And.intro @kfa64_1 (And.intro @kld61 @kbadd3))))))))))
theorem st44 : type_of% (And.intro @kbx26 (And.intro @kfa26_0 (And.intro @kld9 (And.intro @kfa26_1 (And.intro @kld23 (And.intro @kbneq30 (And.intro @kfa26_2 @kld24))))))) := And.intro @kbx26 (And.intro @kfa26_0 (And.intro @kld9 (And.intro @kfa26_1 (And.intro @kld23 (And.intro @kbneq30 (And.intro @kfa26_2 @kld24))))))
theorem st45 : type_of% (And.intro @kbx26 (And.intro @kbd67_ (And.intro @kbx67 @kld26))) := And.intro @kbx26 (And.intro @kbd67_ (And.intro @kbx67 @kld26))
theorem st46 : type_of% (And.intro @klen24 (And.intro @hlen24 (And.intro @kblss3 (And.intro @qkia24 (And.intro @kia24 (And.intro @qkfa64_0 (And.intro @kfa64_0 (And.intro @kld9 (And.intro @qkfa64_1 (And.intro @kfa64_1 (And.intro @kld61 (And.intro @kbd123_0_1 (And.intro @kbs36_1_0 @kbadd3))))))))))))) := And.intro @klen24 (And.intro @hlen24 (And.intro @kblss3 (And.intro @qkia24 (And.intro @kia24 (And.intro @qkfa64_0 (And.intro @kfa64_0 (And.intro @kld9 (And.intro @qkfa64_1 (And.intro @kfa64_1 (And.intro @kld61 (And.intro @kbd123_0_1 (And.intro @kbs36_1_0 @kbadd3))))))))))))
theorem st47 : type_of% (And.intro @kld26 (And.intro @kal26 (And.intro @kbneq30 (And.intro @kst26f @kbgtr3)))) := And.intro @kld26 (And.intro @kal26 (And.intro @kbneq30 (And.intro @kst26f @kbgtr3)))
theorem st48 : type_of% (And.intro @kbx35 (And.intro @qkfa35_0 (And.intro @kfa35_0 (And.intro @kld2 (And.intro @qkfa35_1 (And.intro @kfa35_1 (And.intro @qkfa35_2 (And.intro @kfa35_2 (And.intro @qkfa35_3 (And.intro @kfa35_3 (And.intro @kld9 (And.intro @kbs145_4_0_1_2_3 (And.intro @kblss3 (And.intro @kia145 (And.intro @kld3 (And.intro @kbneq3 @kbadd3)))))))))))))))) := And.intro @kbx35 (And.intro @qkfa35_0 (And.intro @kfa35_0 (And.intro @kld2 (And.intro @qkfa35_1 (And.intro @kfa35_1 (And.intro @qkfa35_2 (And.intro @kfa35_2 (And.intro @qkfa35_3 (And.intro @kfa35_3 (And.intro @kld9 (And.intro @kbs145_4_0_1_2_3 (And.intro @kblss3 (And.intro @kia145 (And.intro @kld3 (And.intro @kbneq3 @kbadd3)))))))))))))))
theorem st49 : type_of% (And.intro @klen36 (And.intro @hlen36 (And.intro @kbneq3 (And.intro @kblss3 (And.intro @qkia36 (And.intro @kia36 (And.intro @qkfa123_0 (And.intro @kfa123_0 (And.intro @kld9 (And.intro @qkbneq9 (And.intro @kbneq9 (And.intro @qkfa123_1 (And.intro @kfa123_1 (And.intro @kld72 (And.intro @qkbneq3 @kbadd3))))))))))))))) := And.intro @klen36 (And.intro @hlen36 (And.intro @kbneq3 (And.intro @kblss3 (And.intro @qkia36 (And.intro @kia36 (And.intro @qkfa123_0 (And.intro @kfa123_0 (And.intro @kld9 (And.intro @qkbneq9 (And.intro @kbneq9 (And.intro @qkfa123_1 (And.intro @kfa123_1 (And.intro @kld72 (And.intro @qkbneq3 @kbadd3))))))))))))))
theorem st50 : type_of% (And.intro @klen43 (And.intro @hlen43 (And.intro @kbgtr3 (And.intro @kblss3 (And.intro @kia43 (And.intro @kld26 (And.intro @kal26 (And.intro @kst26f (And.intro @kbneq30 @kbadd3))))))))) := And.intro @klen43 (And.intro @hlen43 (And.intro @kbgtr3 (And.intro @kblss3 (And.intro @kia43 (And.intro @kld26 (And.intro @kal26 (And.intro @kst26f (And.intro @kbneq30 @kbadd3))))))))
theorem st51 : type_of% (And.intro @kbd67_ @kbx67) := And.intro @kbd67_ @kbx67
theorem st53 : type_of% (And.intro @klen43 (And.intro @hlen43 (And.intro @kbs59_1_0 (And.intro @kblss3 (And.intro @kia43 (And.intro @kld26 (And.intro @kal26 (And.intro @kst26f @kbadd3)))))))) := And.intro @klen43 (And.intro @hlen43 (And.intro @kbs59_1_0 (And.intro @kblss3 (And.intro @kia43 (And.intro @kld26 (And.intro @kal26 (And.intro @kst26f @kbadd3)))))))
theorem st54 : type_of% (And.intro @kcv2_146 (And.intro @kbshl146_i32 (And.intro @kbshl146_i64 (And.intro @kbshl146_u16 (And.intro @kbshl146_u32 (And.intro @kbshl146_u64 (And.intro @kbshl146_u8 (And.intro @kblss2 (And.intro @kbadd2 (And.intro @kbsub2 (And.intro @kbor146 (And.intro @kbgeq146 (And.intro @kband146 (And.intro @kcv146_5 (And.intro @kbs29_1_0 (And.intro @kbshr146_i32 (And.intro @kbshr146_i64 (And.intro @kbshr146_u16 (And.intro @kbshr146_u32 (And.intro @kbshr146_u64 @kbshr146_u8)))))))))))))))))))) := And.intro @kcv2_146 (And.intro @kbshl146_i32 (And.intro @kbshl146_i64 (And.intro @kbshl146_u16 (And.intro @kbshl146_u32 (And.intro @kbshl146_u64 (And.intro @kbshl146_u8 (And.intro @kblss2 (And.intro @kbadd2 (And.intro @kbsub2 (And.intro @kbor146 (And.intro @kbgeq146 (And.intro @kband146 (And.intro @kcv146_5 (And.intro @kbs29_1_0 (And.intro @kbshr146_i32 (And.intro @kbshr146_i64 (And.intro @kbshr146_u16 (And.intro @kbshr146_u32 (And.intro @kbshr146_u64 @kbshr146_u8)))))))))))))))))))
theorem st55 : type_of% (And.intro @kbneq30 @kbgtr3) := And.intro @kbneq30 @kbgtr3
theorem st57 : type_of% (And.intro @kblss3 (And.intro @kbs43_1_0 @kbadd3)) := And.intro @kblss3 (And.intro @kbs43_1_0 @kbadd3)
theorem st58 : type_of% (And.intro @klen29 (And.intro @hlen29 (And.intro @kblss3 (And.intro @kia29 (And.intro @kld5 (And.intro @kcv5_106 (And.intro @kbxor106 (And.intro @kband106 (And.intro @kbshr106_i32 (And.intro @kbshr106_i64 (And.intro @kbshr106_u16 (And.intro @kbshr106_u32 (And.intro @kbshr106_u64 (And.intro @kbshr106_u8 (And.intro @kbeql106 (And.intro @kbadd3 @kuxor106)))))))))))))))) := And.intro @klen29 (And.intro @hlen29 (And.intro @kblss3 (And.intro @kia29 (And.intro @kld5 (And.intro @kcv5_106 (And.intro @kbxor106 (And.intro @kband106 (And.intro @kbshr106_i32 (And.intro @kbshr106_i64 (And.intro @kbshr106_u16 (And.intro @kbshr106_u32 (And.intro @kbshr106_u64 (And.intro @kbshr106_u8 (And.intro @kbeql106 (And.intro @kbadd3 @kuxor106)))))))))))))))
theorem st59 : type_of% (And.intro @klen29 (And.intro @hlen29 (And.intro @kbsub3 (And.intro @kblss3 (And.intro @qksl29_010z (And.intro @ksl29_010z (And.intro @qksl29_010 (And.intro @ksl29_010 (And.intro @qkbneq9 (And.intro @kbneq9 @kbs29_0)))))))))) := And.intro @klen29 (And.intro @hlen29 (And.intro @kbsub3 (And.intro @kblss3 (And.intro @qksl29_010z (And.intro @ksl29_010z (And.intro @qksl29_010 (And.intro @ksl29_010 (And.intro @qkbneq9 (And.intro @kbneq9 @kbs29_0)))))))))
theorem st60 : type_of% (And.intro @kld38 (And.intro @kal38 (And.intro @kbd38_0 (And.intro @kst38f (And.intro @kfa38_1 (And.intro @kst35f (And.intro @kblss3 (And.intro @kbd123_0 (And.intro @kal123 (And.intro @kst123f (And.intro @kfa123_1 (And.intro @kst72f (And.intro @kfa38_2 (And.intro @kld36 (And.intro @kld123 (And.intro @kbs36_1_0 (And.intro @kst36 (And.intro @kbadd3 (And.intro @kfa112_2 (And.intro @kld3 (And.intro @kbneq3 @kbd38_))))))))))))))))))))) := And.intro @kld38 (And.intro @kal38 (And.intro @kbd38_0 (And.intro @kst38f (And.intro @kfa38_1 (And.intro @kst35f (And.intro @kblss3 (And.intro @kbd123_0 (And.intro @kal123 (And.intro @kst123f (And.intro @kfa123_1 (And.intro @kst72f (And.intro @kfa38_2 (And.intro @kld36 (And.intro @kld123 (And.intro @kbs36_1_0 (And.intro @kst36 (And.intro @kbadd3 (And.intro @kfa112_2 (And.intro @kld3 (And.intro @kbneq3 @kbd38_))))))))))))))))))))
theorem st61 : type_of% (And.intro @kfa112_2 (And.intro @kld3 (And.intro @kbneq3 (And.intro @qkfa112_0 (And.intro @kfa112_0 (And.intro @kld29 (And.intro @qklen29 (And.intro @klen29 (And.intro @hlen29 (And.intro @qkfa112_1 (And.intro @kfa112_1 (And.intro @qkbsub3 @kbsub3)))))))))))) := And.intro @kfa112_2 (And.intro @kld3 (And.intro @kbneq3 (And.intro @qkfa112_0 (And.intro @kfa112_0 (And.intro @kld29 (And.intro @qklen29 (And.intro @klen29 (And.intro @hlen29 (And.intro @qkfa112_1 (And.intro @kfa112_1 (And.intro @qkbsub3 @kbsub3)))))))))))
theorem st62 : type_of% (And.intro @kfa112_2 (And.intro @kld3 (And.intro @kbeql3 (And.intro @kblss2 (And.intro @kbgtr2 (And.intro @kst3 @kbneq3)))))) := And.intro @kfa112_2 (And.intro @kld3 (And.intro @kbeql3 (And.intro @kblss2 (And.intro @kbgtr2 (And.intro @kst3 @kbneq3)))))
theorem st63 : type_of% (And.intro @klen59 (And.intro @hlen59 (And.intro @kblss3 (And.intro @kia59 (And.intro @kld2 (And.intro @kcv2_146 (And.intro @kbshl146_i32 (And.intro @kbshl146_i64 (And.intro @kbshl146_u16 (And.intro @kbshl146_u32 (And.intro @kbshl146_u64 (And.intro @kbshl146_u8 (And.intro @kbshr2_i32 (And.intro @kbshr2_i64 (And.intro @kbshr2_u16 (And.intro @kbshr2_u32 (And.intro @kbshr2_u64 (And.intro @kbshr2_u8 (And.intro @kbxor146 (And.intro @kbgeq146 (And.intro @kfa67_0 (And.intro @kld29 (And.intro @kcv146_5 (And.intro @kbor5 (And.intro @kbs29_1_0 (And.intro @kst29 (And.intro @kbshr146_i32 (And.intro @kbshr146_i64 (And.intro @kbshr146_u16 (And.intro @kbshr146_u32 (And.intro @kbshr146_u64 (And.intro @kbshr146_u8 @kbadd3)))))))))))))))))))))))))))))))) := And.intro @klen59 (And.intro @hlen59 (And.intro @kblss3 (And.intro @kia59 (And.intro @kld2 (And.intro @kcv2_146 (And.intro @kbshl146_i32 (And.intro @kbshl146_i64 (And.intro @kbshl146_u16 (And.intro @kbshl146_u32 (And.intro @kbshl146_u64 (And.intro @kbshl146_u8 (And.intro @kbshr2_i32 (And.intro @kbshr2_i64 (And.intro @kbshr2_u16 (And.intro @kbshr2_u32 (And.intro @kbshr2_u64 (And.intro @kbshr2_u8 (And.intro @kbxor146 (And.intro @kbgeq146 (And.intro @kfa67_0 (And.intro @kld29 (And.intro @kcv146_5 (And.intro @kbor5 (And.intro @kbs29_1_0 (And.intro @kst29 (And.intro @kbshr146_i32 (And.intro @kbshr146_i64 (And.intro @kbshr146_u16 (And.intro @kbshr146_u32 (And.intro @kbshr146_u64 (And.intro @kbshr146_u8 @kbadd3)))))))))))))))))))))))))))))))
theorem st64 : type_of% (And.intro @klen150 (And.intro @hlen150 (And.intro @kblss3 (And.intro @kia150 (And.intro @kld9 (And.intro @klen9 (And.intro @hlen9 (And.intro @kbs59_1_0 (And.intro @kfa67_0 (And.intro @kld29 (And.intro @kst29 @kbadd3))))))))))) := And.intro @klen150 (And.intro @hlen150 (And.intro @kblss3 (And.intro @kia150 (And.intro @kld9 (And.intro @klen9 (And.intro @hlen9 (And.intro @kbs59_1_0 (And.intro @kfa67_0 (And.intro @kld29 (And.intro @kst29 @kbadd3))))))))))
theorem st65 : type_of% (And.intro @klen59 (And.intro @hlen59 (And.intro @kbs59_1_0 (And.intro @kblss3 (And.intro @kia59 (And.intro @kld2 @kbadd3)))))) := And.intro @klen59 (And.intro @hlen59 (And.intro @kbs59_1_0 (And.intro @kblss3 (And.intro @kia59 (And.intro @kld2 @kbadd3)))))
theorem st66 : type_of% (@kbs59_1_0) := @kbs59_1_0
theorem st67 : type_of% (And.intro @klen24 (And.intro @hlen24 (And.intro @kbs59_1_0 (And.intro @kblss3 (And.intro @kia24 (And.intro @kld64 (And.intro @kal64 (And.intro @kst64f @kbadd3)))))))) := And.intro @klen24 (And.intro @hlen24 (And.intro @kbs59_1_0 (And.intro @kblss3 (And.intro @kia24 (And.intro @kld64 (And.intro @kal64 (And.intro @kst64f @kbadd3)))))))
theorem st68 : type_of% (And.intro @kbx64 (And.intro @kfa64_0 (And.intro @kld9 (And.intro @kbs150_1_0 (And.intro @kfa64_1 @kld61))))) := And.intro @kbx64 (And.intro @kfa64_0 (And.intro @kld9 (And.intro @kbs150_1_0 (And.intro @kfa64_1 @kld61))))
theorem st69 : type_of% (And.intro @klen9 @hlen9) := And.intro @klen9 @hlen9
theorem st70 : type_of% (And.intro @klen29 (And.intro @hlen29 (And.intro @ksl29_011 @ksl29_011z))) := And.intro @klen29 (And.intro @hlen29 (And.intro @ksl29_011 @ksl29_011z))
theorem st71 : type_of% (And.intro @kbeql29n (And.intro @kbeql29z @kbs29_0)) := And.intro @kbeql29n (And.intro @kbeql29z @kbs29_0)
theorem st72 : type_of% (And.intro @kfa125_1 (And.intro @kld30 (And.intro @kbneq30 (And.intro @kst30 (And.intro @kbshr146_i32 (And.intro @kbshr146_i64 (And.intro @kbshr146_u16 (And.intro @kbshr146_u32 (And.intro @kbshr146_u64 (And.intro @kbshr146_u8 (And.intro @kcv146_2 (And.intro @kband146 (And.intro @kuneg2 @kbxor2))))))))))))) := And.intro @kfa125_1 (And.intro @kld30 (And.intro @kbneq30 (And.intro @kst30 (And.intro @kbshr146_i32 (And.intro @kbshr146_i64 (And.intro @kbshr146_u16 (And.intro @kbshr146_u32 (And.intro @kbshr146_u64 (And.intro @kbshr146_u8 (And.intro @kcv146_2 (And.intro @kband146 (And.intro @kuneg2 @kbxor2))))))))))))
theorem st73 : type_of% (And.intro @kfa125_1 (And.intro @kld30 (And.intro @kbneq30 (And.intro @kblss2 (And.intro @kst30 (And.intro @kfa125_0 (And.intro @kld29 (And.intro @klen29 (And.intro @hlen29 (And.intro @kbgtr2 (And.intro @ksl29_010z (And.intro @ksl29_010 (And.intro @ksl29_100z (And.intro @ksl29_100 @kst29)))))))))))))) := And.intro @kfa125_1 (And.intro @kld30 (And.intro @kbneq30 (And.intro @kblss2 (And.intro @kst30 (And.intro @kfa125_0 (And.intro @kld29 (And.intro @klen29 (And.intro @hlen29 (And.intro @kbgtr2 (And.intro @ksl29_010z (And.intro @ksl29_010 (And.intro @ksl29_100z (And.intro @ksl29_100 @kst29)))))))))))))
theorem st74 : type_of% (And.intro @kblss3 (And.intro @kbs59_1_0 @kbadd3)) := And.intro @kblss3 (And.intro @kbs59_1_0 @kbadd3)
theorem st75 : type_of% (And.intro @kld61 (And.intro @kbx61 (And.intro @kal61 (And.intro @kbneq30 @kst61f)))) := And.intro @kld61 (And.intro @kbx61 (And.intro @kal61 (And.intro @kbneq30 @kst61f)))
theorem st76 : type_of% (And.intro @kld23 (And.intro @kbx23 (And.intro @kal23 (And.intro @kbneq30 @kst23f)))) := And.intro @kld23 (And.intro @kbx23 (And.intro @kal23 (And.intro @kbneq30 @kst23f)))
theorem st77 : type_of% (And.intro @kld26 (And.intro @kbx26 (And.intro @kal26 (And.intro @kbneq30 @kst26f)))) := And.intro @kld26 (And.intro @kbx26 (And.intro @kal26 (And.intro @kbneq30 @kst26f)))
theorem st78 : type_of% (And.intro @kblss3 (And.intro @kbs24_1_0 @kbadd3)) := And.intro @kblss3 (And.intro @kbs24_1_0 @kbadd3)
theorem st79 : type_of% (And.intro @kld64 (And.intro @kal64 (And.intro @kbd64_0_1 @kst64f))) := And.intro @kld64 (And.intro @kal64 (And.intro @kbd64_0_1 @kst64f))
theorem st80 : type_of% (And.intro @kblss2 @kbgtr2) := And.intro @kblss2 @kbgtr2
theorem st81 : type_of% (And.intro @kblss9 @kbgtr9) := And.intro @kblss9 @kbgtr9
theorem st82 : type_of% (And.intro @klen9 (And.intro @hlen9 (And.intro @kblss3 (And.intro @kbgtr3 (And.intro @kblss5 (And.intro @kbgtr5 @kbadd3)))))) := And.intro @klen9 (And.intro @hlen9 (And.intro @kblss3 (And.intro @kbgtr3 (And.intro @kblss5 (And.intro @kbgtr5 @kbadd3)))))
theorem st83 : type_of% (And.intro @kbx35 (And.intro @kfa35_0 (And.intro @kld2 (And.intro @kfa35_1 (And.intro @kfa35_2 (And.intro @kfa35_3 @kld9)))))) := And.intro @kbx35 (And.intro @kfa35_0 (And.intro @kld2 (And.intro @kfa35_1 (And.intro @kfa35_2 (And.intro @kfa35_3 @kld9)))))
theorem st84 : type_of% (And.intro @kbx72 (And.intro @kfa72_0 (And.intro @kld3 (And.intro @kbeql3 (And.intro @kfa72_2 (And.intro @kld9 (And.intro @klen9 (And.intro @hlen9 (And.intro @kbgtr3 (And.intro @kblss3 (And.intro @kblss5 (And.intro @kbgtr5 (And.intro @kbeql5 (And.intro @kbadd3 (And.intro @kfa72_3 (And.intro @kld59 (And.intro @klen59 (And.intro @hlen59 (And.intro @qkfa72_3 (And.intro @qkbsub3 (And.intro @kbsub3 (And.intro @qkia59 (And.intro @kia59 (And.intro @kld2 (And.intro @qkbgeq2 @kbgeq2))))))))))))))))))))))))) := And.intro @kbx72 (And.intro @kfa72_0 (And.intro @kld3 (And.intro @kbeql3 (And.intro @kfa72_2 (And.intro @kld9 (And.intro @klen9 (And.intro @hlen9 (And.intro @kbgtr3 (And.intro @kblss3 (And.intro @kblss5 (And.intro @kbgtr5 (And.intro @kbeql5 (And.intro @kbadd3 (And.intro @kfa72_3 (And.intro @kld59 (And.intro @klen59 (And.intro @hlen59 (And.intro @qkfa72_3 (And.intro @qkbsub3 (And.intro @kbsub3 (And.intro @qkia59 (And.intro @kia59 (And.intro @kld2 (And.intro @qkbgeq2 @kbgeq2))))))))))))))))))))))))
theorem st85 : type_of% (And.intro @kbx23 (And.intro @qkfa23_0 (And.intro @kfa23_0 (And.intro @kld2 (And.intro @qkfa23_1 (And.intro @kfa23_1 (And.intro @qkfa23_2 (And.intro @kfa23_2 (And.intro @qkfa23_3 (And.intro @kfa23_3 (And.intro @kld9 @kbs145_4_0_1_2_3))))))))))) := And.intro @kbx23 (And.intro @qkfa23_0 (And.intro @kfa23_0 (And.intro @kld2 (And.intro @qkfa23_1 (And.intro @kfa23_1 (And.intro @qkfa23_2 (And.intro @kfa23_2 (And.intro @qkfa23_3 (And.intro @kfa23_3 (And.intro @kld9 @kbs145_4_0_1_2_3))))))))))
theorem st87 : type_of% (And.intro @kbeql9 (And.intro @klen9 (And.intro @hlen9 (And.intro @kbgtr3 (And.intro @kblss5 (And.intro @kblss3 (And.intro @kbgtr5 @kbadd3))))))) := And.intro @kbeql9 (And.intro @klen9 (And.intro @hlen9 (And.intro @kbgtr3 (And.intro @kblss5 (And.intro @kblss3 (And.intro @kbgtr5 @kbadd3))))))
theorem st88 : type_of% (And.intro @kbx23 (And.intro @kfa23_0 (And.intro @kld2 (And.intro @kfa23_1 (And.intro @kfa23_2 (And.intro @kfa23_3 @kld9)))))) := And.intro @kbx23 (And.intro @kfa23_0 (And.intro @kld2 (And.intro @kfa23_1 (And.intro @kfa23_2 (And.intro @kfa23_3 @kld9)))))
theorem st89 : type_of% (And.intro @klen24 (And.intro @hlen24 (And.intro @kbgtr3 (And.intro @kblss3 (And.intro @kia24 (And.intro @kld64 (And.intro @kal64 (And.intro @kst64f (And.intro @kfa64_0 (And.intro @kld9 (And.intro @qkbgtr3 (And.intro @qkbsub3 (And.intro @kbsub3 (And.intro @qkia24 (And.intro @qkfa64_0 (And.intro @qkbgeq9 (And.intro @kbgeq9 (And.intro @kfa64_1 (And.intro @kld61 (And.intro @kbneq30 @kbadd3)))))))))))))))))))) := And.intro @klen24 (And.intro @hlen24 (And.intro @kbgtr3 (And.intro @kblss3 (And.intro @kia24 (And.intro @kld64 (And.intro @kal64 (And.intro @kst64f (And.intro @kfa64_0 (And.intro @kld9 (And.intro @qkbgtr3 (And.intro @qkbsub3 (And.intro @kbsub3 (And.intro @qkia24 (And.intro @qkfa64_0 (And.intro @qkbgeq9 (And.intro @kbgeq9 (And.intro @kfa64_1 (And.intro @kld61 (And.intro @kbneq30 @kbadd3)))))))))))))))))))
theorem st90 : type_of% (And.intro @kblss3 (And.intro @kbmul3 (And.intro @kbshr106_i32 (And.intro @kbshr106_i64 (And.intro @kbshr106_u16 (And.intro @kbshr106_u32 (And.intro @kbshr106_u64 (And.intro @kbshr106_u8 (And.intro @kcv106_5 (And.intro @kbs29_1_0 @kbadd3)))))))))) := And.intro @kblss3 (And.intro @kbmul3 (And.intro @kbshr106_i32 (And.intro @kbshr106_i64 (And.intro @kbshr106_u16 (And.intro @kbshr106_u32 (And.intro @kbshr106_u64 (And.intro @kbshr106_u8 (And.intro @kcv106_5 (And.intro @kbs29_1_0 @kbadd3)))))))))
theorem st91 : type_of% (And.intro @klen29 (And.intro @hlen29 (And.intro @kblss3 (And.intro @kbsub3 (And.intro @ksl29_010z (And.intro @ksl29_010 (And.intro @qkbneq9 @kbneq9))))))) := And.intro @klen29 (And.intro @hlen29 (And.intro @kblss3 (And.intro @kbsub3 (And.intro @ksl29_010z (And.intro @ksl29_010 (And.intro @qkbneq9 @kbneq9))))))
theorem st92 : type_of% (And.intro @kfa125_1 (And.intro @kld30 (And.intro @kbeql30 (And.intro @kblss2 (And.intro @kbgtr2 (And.intro @kst30 @kbneq30)))))) := And.intro @kfa125_1 (And.intro @kld30 (And.intro @kbeql30 (And.intro @kblss2 (And.intro @kbgtr2 (And.intro @kst30 @kbneq30)))))
theorem st93 : type_of% (And.intro @klen43 (And.intro @hlen43 (And.intro @ksl43_011 @ksl43_011z))) := And.intro @klen43 (And.intro @hlen43 (And.intro @ksl43_011 @ksl43_011z))
theorem st94 : type_of% (And.intro @kfa112_2 (And.intro @kld3 (And.intro @kbneq3 (And.intro @kblss2 (And.intro @kst3 (And.intro @qkfa112_0 (And.intro @kfa112_0 (And.intro @kld29 (And.intro @qklen29 (And.intro @klen29 (And.intro @hlen29 (And.intro @qkfa112_1 (And.intro @kfa112_1 (And.intro @qkbsub3 (And.intro @kbsub3 (And.intro @qkbgtr2 (And.intro @kbgtr2 (And.intro @qkbadd3 (And.intro @kbadd3 (And.intro @qksl29_110 @ksl29_110)))))))))))))))))))) := And.intro @kfa112_2 (And.intro @kld3 (And.intro @kbneq3 (And.intro @kblss2 (And.intro @kst3 (And.intro @qkfa112_0 (And.intro @kfa112_0 (And.intro @kld29 (And.intro @qklen29 (And.intro @klen29 (And.intro @hlen29 (And.intro @qkfa112_1 (And.intro @kfa112_1 (And.intro @qkbsub3 (And.intro @kbsub3 (And.intro @qkbgtr2 (And.intro @kbgtr2 (And.intro @qkbadd3 (And.intro @kbadd3 (And.intro @qksl29_110 @ksl29_110)))))))))))))))))))
theorem st95 : type_of% (And.intro @kld35 (And.intro @kal35 (And.intro @kbd35_0 (And.intro @kst35f (And.intro @kfa35_1 (And.intro @kst2 (And.intro @kfa35_2 (And.intro @kfa35_3 (And.intro @kst9 (And.intro @kfa112_2 (And.intro @kld3 (And.intro @kbneq3 @kbd35_)))))))))))) := And.intro @kld35 (And.intro @kal35 (And.intro @kbd35_0 (And.intro @kst35f (And.intro @kfa35_1 (And.intro @kst2 (And.intro @kfa35_2 (And.intro @kfa35_3 (And.intro @kst9 (And.intro @kfa112_2 (And.intro @kld3 (And.intro @kbneq3 @kbd35_)))))))))))
theorem st96 : type_of% (And.intro @kld72 (And.intro @kal72 (And.intro @kbd72_0 (And.intro @kst72f (And.intro @kfa72_0 (And.intro @kld3 (And.intro @kbeql3 (And.intro @kfa72_1 (And.intro @kst2 (And.intro @kfa72_2 (And.intro @kst9 (And.intro @kblss3 (And.intro @qkfa72_3 (And.intro @kfa72_3 (And.intro @kld59 (And.intro @kbs59_1_0 (And.intro @kst59 (And.intro @kbadd3 (And.intro @kfa112_2 (And.intro @kbneq3 @kbd72_)))))))))))))))))))) := And.intro @kld72 (And.intro @kal72 (And.intro @kbd72_0 (And.intro @kst72f (And.intro @kfa72_0 (And.intro @kld3 (And.intro @kbeql3 (And.intro @kfa72_1 (And.intro @kst2 (And.intro @kfa72_2 (And.intro @kst9 (And.intro @kblss3 (And.intro @qkfa72_3 (And.intro @kfa72_3 (And.intro @kld59 (And.intro @kbs59_1_0 (And.intro @kst59 (And.intro @kbadd3 (And.intro @kfa112_2 (And.intro @kbneq3 @kbd72_)))))))))))))))))))
theorem st97 : type_of% (And.intro @kfa112_2 (And.intro @kld3 (And.intro @kbneq3 (And.intro @kblss3 (And.intro @qkfa112_1 (And.intro @kfa112_1 (And.intro @qkbadd3 (And.intro @kbadd3 (And.intro @qkfa112_0 (And.intro @kfa112_0 (And.intro @kld29 (And.intro @qklen29 (And.intro @klen29 (And.intro @hlen29 (And.intro @qkbeql3 (And.intro @kbeql3 (And.intro @kst3 (And.intro @qkia29 (And.intro @kia29 (And.intro @kld5 (And.intro @qkcv5_146 (And.intro @kcv5_146 (And.intro @kbgtr146 (And.intro @kbgtr3 (And.intro @kbeql146 (And.intro @kband146 (And.intro @kbmul3 (And.intro @kcv3_108 (And.intro @kbshl146_i32 (And.intro @kbshl146_i64 (And.intro @kbshl146_u16 (And.intro @kbshl146_u32 (And.intro @kbshl146_u64 (And.intro @kbshl146_u8 (And.intro @kbor146 (And.intro @kblss146 (And.intro @kbshr146_i32 (And.intro @kbshr146_i64 (And.intro @kbshr146_u16 (And.intro @kbshr146_u32 (And.intro @kbshr146_u64 (And.intro @kbshr146_u8 (And.intro @kcv146_2 @kbsub2))))))))))))))))))))))))))))))))))))))))))) := And.intro @kfa112_2 (And.intro @kld3 (And.intro @kbneq3 (And.intro @kblss3 (And.intro @qkfa112_1 (And.intro @kfa112_1 (And.intro @qkbadd3 (And.intro @kbadd3 (And.intro @qkfa112_0 (And.intro @kfa112_0 (And.intro @kld29 (And.intro @qklen29 (And.intro @klen29 (And.intro @hlen29 (And.intro @qkbeql3 (And.intro @kbeql3 (And.intro @kst3 (And.intro @qkia29 (And.intro @kia29 (And.intro @kld5 (And.intro @qkcv5_146 (And.intro @kcv5_146 (And.intro @kbgtr146 (And.intro @kbgtr3 (And.intro @kbeql146 (And.intro @kband146 (And.intro @kbmul3 (And.intro @kcv3_108 (And.intro @kbshl146_i32 (And.intro @kbshl146_i64 (And.intro @kbshl146_u16 (And.intro @kbshl146_u32 (And.intro @kbshl146_u64 (And.intro @kbshl146_u8 (And.intro @kbor146 (And.intro @kblss146 (And.intro @kbshr146_i32 (And.intro @kbshr146_i64 (And.intro @kbshr146_u16 (And.intro @kbshr146_u32 (And.intro @kbshr146_u64 (And.intro @kbshr146_u8 (And.intro @kcv146_2 @kbsub2))))))))))))))))))))))))))))))))))))))))))
theorem st98 : type_of% (And.intro @kfa125_0 (And.intro @kld29 (And.intro @klen29 (And.intro @hlen29 (And.intro @kblss3 (And.intro @kia29 (And.intro @kld5 (And.intro @kbeql3 (And.intro @kbgtr5 (And.intro @kbgtr3 (And.intro @kbeql5 (And.intro @kbandNot5 (And.intro @kcv5_146 (And.intro @kbmul3 (And.intro @kbshl146_i32 (And.intro @kbshl146_i64 (And.intro @kbshl146_u16 (And.intro @kbshl146_u32 (And.intro @kbshl146_u64 (And.intro @kbshl146_u8 (And.intro @kbor146 (And.intro @kblss5 (And.intro @kbadd3 (And.intro @ksl29_100z (And.intro @ksl29_100 @kst29))))))))))))))))))))))))) := And.intro @kfa125_0 (And.intro @kld29 (And.intro @klen29 (And.intro @hlen29 (And.intro @kblss3 (And.intro @kia29 (And.intro @kld5 (And.intro @kbeql3 (And.intro @kbgtr5 (And.intro @kbgtr3 (And.intro @kbeql5 (And.intro @kbandNot5 (And.intro @kcv5_146 (And.intro @kbmul3 (And.intro @kbshl146_i32 (And.intro @kbshl146_i64 (And.intro @kbshl146_u16 (And.intro @kbshl146_u32 (And.intro @kbshl146_u64 (And.intro @kbshl146_u8 (And.intro @kbor146 (And.intro @kblss5 (And.intro @kbadd3 (And.intro @ksl29_100z (And.intro @ksl29_100 @kst29))))))))))))))))))))))))
theorem st99 : type_of% (And.intro @klen59 (And.intro @hlen59 (And.intro @ksl59_011 @ksl59_011z))) := And.intro @klen59 (And.intro @hlen59 (And.intro @ksl59_011 @ksl59_011z))
theorem st100 : type_of% (And.intro @klen24 (And.intro @hlen24 (And.intro @ksl24_011 @ksl24_011z))) := And.intro @klen24 (And.intro @hlen24 (And.intro @ksl24_011 @ksl24_011z))
theorem st101 : type_of% (And.intro @kbgeq2 @kbleq2) := And.intro @kbgeq2 @kbleq2
theorem st102 : type_of% (@kbneq9) := @kbneq9
theorem st103 : type_of% (And.intro @klen145 (And.intro @hlen145 (And.intro @kblss3 (And.intro @kia145 (And.intro @kld3 (And.intro @kbneq3 @kbadd3)))))) := And.intro @klen145 (And.intro @hlen145 (And.intro @kblss3 (And.intro @kia145 (And.intro @kld3 (And.intro @kbneq3 @kbadd3)))))
theorem st104 : type_of% (And.intro @kblss2 @kbgtr2) := And.intro @kblss2 @kbgtr2
theorem st105 : type_of% (And.intro @kblss9 @kbgtr9) := And.intro @kblss9 @kbgtr9
theorem st106 : type_of% (And.intro @klen24 (And.intro @hlen24 (And.intro @kbneq3 (And.intro @kblss3 (And.intro @kia24 (And.intro @kld64 (And.intro @kal64 (And.intro @kst64f @kbadd3)))))))) := And.intro @klen24 (And.intro @hlen24 (And.intro @kbneq3 (And.intro @kblss3 (And.intro @kia24 (And.intro @kld64 (And.intro @kal64 (And.intro @kst64f @kbadd3)))))))
theorem st107 : type_of% (And.intro @kbx64 (And.intro @kfa64_0 (And.intro @kld9 (And.intro @kbeql9 (And.intro @kfa64_1 @kld61))))) := And.intro @kbx64 (And.intro @kfa64_0 (And.intro @kld9 (And.intro @kbeql9 (And.intro @kfa64_1 @kld61))))
theorem st108 : type_of% (And.intro @kbx61 (And.intro @kld61 @kbeql3)) := And.intro @kbx61 (And.intro @kld61 @kbeql3)
theorem st109 : type_of% (And.intro @kbgeq2 @kbleq2) := And.intro @kbgeq2 @kbleq2
theorem st110 : type_of% (And.intro @klen150 (And.intro @hlen150 (And.intro @kblss3 (And.intro @kia150 (And.intro @kld9 (And.intro @kbadd3 @kbleq3)))))) := And.intro @klen150 (And.intro @hlen150 (And.intro @kblss3 (And.intro @kia150 (And.intro @kld9 (And.intro @kbadd3 @kbleq3)))))
theorem st111 : type_of% (And.intro @kbx61 (And.intro @kfa61_0 (And.intro @kld3 (And.intro @kbeql3 (And.intro @kfa61_2 (And.intro @kld9 (And.intro @kfa61_3 @kld59))))))) := And.intro @kbx61 (And.intro @kfa61_0 (And.intro @kld3 (And.intro @kbeql3 (And.intro @kfa61_2 (And.intro @kld9 (And.intro @kfa61_3 @kld59))))))
theorem st112 : type_of% (And.intro @klen29 (And.intro @hlen29 (And.intro @kblss3 (And.intro @kia29 (And.intro @kld5 (And.intro @kcv5_106 (And.intro @kbxor106 (And.intro @kband106 (And.intro @kbshr106_i32 (And.intro @kbshr106_i64 (And.intro @kbshr106_u16 (And.intro @kbshr106_u32 (And.intro @kbshr106_u64 (And.intro @kbshr106_u8 (And.intro @kbeql106 (And.intro @kbadd3 @kuxor106)))))))))))))))) := And.intro @klen29 (And.intro @hlen29 (And.intro @kblss3 (And.intro @kia29 (And.intro @kld5 (And.intro @kcv5_106 (And.intro @kbxor106 (And.intro @kband106 (And.intro @kbshr106_i32 (And.intro @kbshr106_i64 (And.intro @kbshr106_u16 (And.intro @kbshr106_u32 (And.intro @kbshr106_u64 (And.intro @kbshr106_u8 (And.intro @kbeql106 (And.intro @kbadd3 @kuxor106)))))))))))))))
theorem st113 : type_of% (@kbeql3) := @kbeql3
theorem st114 : type_of% (@kbneq2) := @kbneq2
theorem st115 : type_of% (@kbneq9) := @kbneq9
theorem st116 : type_of% (And.intro @kbx61 (And.intro @kfa61_0 (And.intro @kld3 (And.intro @kbneq3 (And.intro @kbeql3 (And.intro @kfa61_1 (And.intro @kld2 (And.intro @kfa61_2 (And.intro @kld9 (And.intro @kfa61_3 @kld59)))))))))) := And.intro @kbx61 (And.intro @kfa61_0 (And.intro @kld3 (And.intro @kbneq3 (And.intro @kbeql3 (And.intro @kfa61_1 (And.intro @kld2 (And.intro @kfa61_2 (And.intro @kld9 (And.intro @kfa61_3 @kld59)))))))))
theorem st119 : type_of% (And.intro @kbeql9 (And.intro @klen9 (And.intro @hlen9 (And.intro @kbgtr3 (And.intro @kblss5 (And.intro @kblss3 (And.intro @kbgtr5 @kbadd3))))))) := And.intro @kbeql9 (And.intro @klen9 (And.intro @hlen9 (And.intro @kbgtr3 (And.intro @kblss5 (And.intro @kblss3 (And.intro @kbgtr5 @kbadd3))))))
theorem st120 : type_of% (And.intro @klen9 (And.intro @hlen9 (And.intro @kbgtr3 (And.intro @kblss3 @kbadd3)))) := And.intro @klen9 (And.intro @hlen9 (And.intro @kbgtr3 (And.intro @kblss3 @kbadd3)))
theorem st121 : type_of% (And.intro @klen59 (And.intro @hlen59 (And.intro @kbgtr3 (And.intro @kblss3 (And.intro @qkbsub3 (And.intro @kbsub3 (And.intro @qkia59 (And.intro @kia59 (And.intro @kld2 (And.intro @qkbgeq2 (And.intro @kbgeq2 @kbadd3))))))))))) := And.intro @klen59 (And.intro @hlen59 (And.intro @kbgtr3 (And.intro @kblss3 (And.intro @qkbsub3 (And.intro @kbsub3 (And.intro @qkia59 (And.intro @kia59 (And.intro @kld2 (And.intro @qkbgeq2 (And.intro @kbgeq2 @kbadd3))))))))))
theorem st122 : type_of% (And.intro @klen150 (And.intro @hlen150 (And.intro @kblss3 (And.intro @kia150 (And.intro @kld9 (And.intro @kbadd3 @kbgtr3)))))) := And.intro @klen150 (And.intro @hlen150 (And.intro @kblss3 (And.intro @kia150 (And.intro @kld9 (And.intro @kbadd3 @kbgtr3)))))
theorem st123 : type_of% (And.intro @kblss3 @kbgtr3) := And.intro @kblss3 @kbgtr3
theorem st124 : type_of% (And.intro @klen59 (And.intro @hlen59 (And.intro @kblss3 (And.intro @kia59 (And.intro @kld2 (And.intro @kbgeq3 (And.intro @kbneq3 @kbadd3))))))) := And.intro @klen59 (And.intro @hlen59 (And.intro @kblss3 (And.intro @kia59 (And.intro @kld2 (And.intro @kbgeq3 (And.intro @kbneq3 @kbadd3))))))
theorem st125 : type_of% (And.intro @klen9 @hlen9) := And.intro @klen9 @hlen9
theorem st127 : type_of% (And.intro @kbgeq5 (And.intro @kbleq5 @kbneq5)) := And.intro @kbgeq5 (And.intro @kbleq5 @kbneq5)
theorem st128 : type_of% (And.intro @kbeql9 (And.intro @kbneq5 (And.intro @kbs150_1_0 (And.intro @klen9 (And.intro @hlen9 (And.intro @kblss3 (And.intro @kbeql5 (And.intro @qklen150 (And.intro @klen150 (And.intro @hlen150 (And.intro @qkbsub3 (And.intro @kbsub3 (And.intro @qkia150 (And.intro @kia150 (And.intro @kld9 (And.intro @qkbadd3 (And.intro @kbadd3 @kst9))))))))))))))))) := And.intro @kbeql9 (And.intro @kbneq5 (And.intro @kbs150_1_0 (And.intro @klen9 (And.intro @hlen9 (And.intro @kblss3 (And.intro @kbeql5 (And.intro @qklen150 (And.intro @klen150 (And.intro @hlen150 (And.intro @qkbsub3 (And.intro @kbsub3 (And.intro @qkia150 (And.intro @kia150 (And.intro @kld9 (And.intro @qkbadd3 (And.intro @kbadd3 @kst9))))))))))))))))
theorem st129 : type_of% (@kbneq3) := @kbneq3
theorem st130 : type_of% (And.intro @klen9 (And.intro @hlen9 (And.intro @kbgeq3 @kbeql9))) := And.intro @klen9 (And.intro @hlen9 (And.intro @kbgeq3 @kbeql9))
end Go.Proofs.YtpjeohellehgjaaGreatDoor