import Derived.Test.YtpjeohellehgjaaDoorRows
import Derived.Test.YtpjeohellehgjaaDoorV6
set_option linter.unusedVariables false
set_option linter.unusedSimpArgs false
set_option maxRecDepth 100000
namespace Go.Proofs.YtpjeohellehgjaaDoor
open Go.RowKit Go.Cn
theorem klen24 (A : Option Addr) (n c : Nat) (K : Value → World → Prop) (w : World) : BuiltinK Tryd.prog .len #[24] 3 #[false] #[(.slice A n c)] K w = K (.int .i64 (n : Int)) w := by
  unfold BuiltinK; (first | (go_simp; rfl) | (go_simp; done))

theorem hlen24 (A : Option Addr) (n c : Nat) {K : Value → Prop} {w1 : World} : TakeO Tryd.prog (fun w' => w' = w1) (builtin .len #[24] 3 #[false] #[(.slice A n c)]) K = K (.int .i64 (n : Int)) := by
  exact here_o (fun w => by (first | (go_simp; rfl) | (go_simp; done)))

theorem kbgtr3 (x y : Int) (K : Value → World → Prop) (w : World) : BinK Tryd.prog .gtr 3 (.int .i64 x) (.int .i64 y) K w = K (.bool (decide (y < x))) w := by
  unfold BinK; (first | (go_simp; rfl) | (go_simp; done))

theorem kbneq3 (x y : Int) (K : Value → World → Prop) (w : World) : BinK Tryd.prog .neq 3 (.int .i64 x) (.int .i64 y) K w = K (.bool (x != y)) w := by
  unfold BinK; (first | (go_simp; rfl) | (go_simp; done))

theorem kblss3 (x y : Int) (K : Value → World → Prop) (w : World) : BinK Tryd.prog .lss 3 (.int .i64 x) (.int .i64 y) K w = K (.bool (decide (x < y))) w := by
  unfold BinK; (first | (go_simp; rfl) | (go_simp; done))

theorem kia24 (g o n c : Nat) (i : Int) (h : 0 ≤ i ∧ i < (n : Int)) (K : Value → World → Prop) (w : World) : IndexAtK Tryd.prog 24 (.slice (some ⟨g, o, none⟩) n c) (.int .i64 i) K w = K (.pointer (some ⟨g, o + i.toNat, none⟩)) w := by
  obtain ⟨h0, h1⟩ := h
  unfold IndexAtK; (first | (go_simp; rfl) | (go_simp; done))

theorem kld9 (a : Addr) (K : Value → World → Prop) (w : World) : LoadK Tryd.prog 9 (.pointer (some a)) K w = OptK (w.cell? a) (@hid _ ⟨fun v => K v w⟩) (LoadRaw Tryd.prog 9 a K w) := by
  exact loadK_eq Tryd.underlying9 rfl a K w

theorem klen9 (s : ByteArray) (K : Value → World → Prop) (w : World) : BuiltinK Tryd.prog .len #[9] 3 #[false] #[(.string s)] K w = K (.int .i64 (s.size : Int)) w := by
  unfold BuiltinK; (first | (go_simp; rfl) | (go_simp; done))

theorem hlen9 (s : ByteArray) {K : Value → Prop} {w1 : World} : TakeO Tryd.prog (fun w' => w' = w1) (builtin .len #[9] 3 #[false] #[(.string s)]) K = K (.int .i64 (s.size : Int)) := by
  exact here_o (fun w => by (first | (go_simp; rfl) | (go_simp; done)))

theorem kbsub3 (x y : Int) (K : Value → World → Prop) (w : World) : BinK Tryd.prog .sub 3 (.int .i64 x) (.int .i64 y) K w = K (.int .i64 (IntKind.i64.wrap (x - y))) w := by
  unfold BinK; (first | (go_simp; rfl) | (go_simp; done))

theorem kbgeq9 (x y : ByteArray) (K : Value → World → Prop) (w : World) : BinK Tryd.prog .geq 9 (.string x) (.string y) K w = K (.bool (!(Op.bytesLess x.toList y.toList))) w := by
  unfold BinK; (first | (go_simp; rfl) | (go_simp; done))

theorem kbadd3 (x y : Int) (K : Value → World → Prop) (w : World) : BinK Tryd.prog .add 3 (.int .i64 x) (.int .i64 y) K w = K (.int .i64 (IntKind.i64.wrap (x + y))) w := by
  unfold BinK; (first | (go_simp; rfl) | (go_simp; done))

theorem klen28 (A : Option Addr) (n c : Nat) (K : Value → World → Prop) (w : World) : BuiltinK Tryd.prog .len #[28] 3 #[false] #[(.slice A n c)] K w = K (.int .i64 (n : Int)) w := by
  unfold BuiltinK; (first | (go_simp; rfl) | (go_simp; done))

theorem hlen28 (A : Option Addr) (n c : Nat) {K : Value → Prop} {w1 : World} : TakeO Tryd.prog (fun w' => w' = w1) (builtin .len #[28] 3 #[false] #[(.slice A n c)]) K = K (.int .i64 (n : Int)) := by
  exact here_o (fun w => by (first | (go_simp; rfl) | (go_simp; done)))

theorem kia28 (g o n c : Nat) (i : Int) (h : 0 ≤ i ∧ i < (n : Int)) (K : Value → World → Prop) (w : World) : IndexAtK Tryd.prog 28 (.slice (some ⟨g, o, none⟩) n c) (.int .i64 i) K w = K (.pointer (some ⟨g, o + i.toNat * 5, none⟩)) w := by
  obtain ⟨h0, h1⟩ := h
  unfold IndexAtK; (first | (go_simp; rfl) | (go_simp; done))

theorem kld40 (g o : Nat) (K : Value → World → Prop) (w : World) : LoadK Tryd.prog 40 (.pointer (some ⟨g, o, none⟩)) K w = OptK (w.cell? ⟨g, o, none⟩) (@hid _ ⟨fun v0 => OptK (w.cell? ⟨g, o + 1, none⟩) (@hid _ ⟨fun v1 => OptK (w.cell? ⟨g, o + 2, none⟩) (@hid _ ⟨fun v2 => OptK (w.cell? ⟨g, o + 3, none⟩) (@hid _ ⟨fun v3 => OptK (w.cell? ⟨g, o + 4, none⟩) (@hid _ ⟨fun v4 => K (.agg #[v0, v1, v2, v3, v4]) w⟩) (LoadRaw Tryd.prog 40 ⟨g, o, none⟩ K w)⟩) (LoadRaw Tryd.prog 40 ⟨g, o, none⟩ K w)⟩) (LoadRaw Tryd.prog 40 ⟨g, o, none⟩ K w)⟩) (LoadRaw Tryd.prog 40 ⟨g, o, none⟩ K w)⟩) (LoadRaw Tryd.prog 40 ⟨g, o, none⟩ K w) := by
  cases h0 : w.cell? ⟨g, o, none⟩ with
  | none => rfl
  | some v0 =>
  cases h1 : w.cell? ⟨g, o + 1, none⟩ with
  | none => rfl
  | some v1 =>
  cases h2 : w.cell? ⟨g, o + 2, none⟩ with
  | none => rfl
  | some v2 =>
  cases h3 : w.cell? ⟨g, o + 3, none⟩ with
  | none => rfl
  | some v3 =>
  cases h4 : w.cell? ⟨g, o + 4, none⟩ with
  | none => rfl
  | some v4 =>
  simp only [optK_some]
  unfold LoadK; (first | (go_simp; rfl) | (go_simp; done))

theorem klen22 (A : Option Addr) (n c : Nat) (K : Value → World → Prop) (w : World) : BuiltinK Tryd.prog .len #[22] 3 #[false] #[(.slice A n c)] K w = K (.int .i64 (n : Int)) w := by
  unfold BuiltinK; (first | (go_simp; rfl) | (go_simp; done))

theorem hlen22 (A : Option Addr) (n c : Nat) {K : Value → Prop} {w1 : World} : TakeO Tryd.prog (fun w' => w' = w1) (builtin .len #[22] 3 #[false] #[(.slice A n c)]) K = K (.int .i64 (n : Int)) := by
  exact here_o (fun w => by (first | (go_simp; rfl) | (go_simp; done)))

theorem kbrem3 (x y : Int) (h : 0 ≤ x ∧ 1 ≤ y ∧ x ≤ 9223372036854775807) (K : Value → World → Prop) (w : World) : BinK Tryd.prog .rem 3 (.int .i64 x) (.int .i64 y) K w = K (.int .i64 (x % y)) w := by
  obtain ⟨h0, h1, h2⟩ := h
  have h3 : ¬ y = 0 := by omega
  have h4 : x.tmod y = x % y := Int.tmod_eq_emod_of_nonneg h0
  have h5 : x.tdiv y = x / y := Int.tdiv_eq_ediv_of_nonneg h0
  have h6 : 0 ≤ x / y := Int.ediv_nonneg h0 (by omega)
  have h7 : x / y ≤ x := Int.ediv_le_self y h0
  unfold BinK; (first | (go_simp; rw [wrap_in (by omega)]; exact Iff.rfl) | (go_simp; rfl) | (go_simp; done))

theorem kcv3_51 (x : Int) (K : Value → World → Prop) (w : World) : ConvK Tryd.prog 3 51 (.int .i64 x) K w = K (.int .u64 (IntKind.u64.wrap x)) w := by
  unfold ConvK; (first | (go_simp; rfl) | (go_simp; done))

theorem kbshr50_i32 (x y : Int) (h : 0 ≤ y) (K : Value → World → Prop) (w : World) : BinK Tryd.prog .shr 50 (.int .u16 x) (.int .i32 y) K w = K (.int .u16 (x / 2 ^ min y.toNat 16)) w := by
  unfold BinK; (first | (go_simp; rfl) | (go_simp; done))

theorem kbshr50_i64 (x y : Int) (h : 0 ≤ y) (K : Value → World → Prop) (w : World) : BinK Tryd.prog .shr 50 (.int .u16 x) (.int .i64 y) K w = K (.int .u16 (x / 2 ^ min y.toNat 16)) w := by
  unfold BinK; (first | (go_simp; rfl) | (go_simp; done))

theorem kbshr50_u16 (x y : Int) (h : 0 ≤ y) (K : Value → World → Prop) (w : World) : BinK Tryd.prog .shr 50 (.int .u16 x) (.int .u16 y) K w = K (.int .u16 (x / 2 ^ min y.toNat 16)) w := by
  unfold BinK; (first | (go_simp; rfl) | (go_simp; done))

theorem kbshr50_u32 (x y : Int) (h : 0 ≤ y) (K : Value → World → Prop) (w : World) : BinK Tryd.prog .shr 50 (.int .u16 x) (.int .u32 y) K w = K (.int .u16 (x / 2 ^ min y.toNat 16)) w := by
  unfold BinK; (first | (go_simp; rfl) | (go_simp; done))

theorem kbshr50_u64 (x y : Int) (h : 0 ≤ y) (K : Value → World → Prop) (w : World) : BinK Tryd.prog .shr 50 (.int .u16 x) (.int .u64 y) K w = K (.int .u16 (x / 2 ^ min y.toNat 16)) w := by
  unfold BinK; (first | (go_simp; rfl) | (go_simp; done))

theorem kbshr50_u8 (x y : Int) (h : 0 ≤ y) (K : Value → World → Prop) (w : World) : BinK Tryd.prog .shr 50 (.int .u16 x) (.int .u8 y) K w = K (.int .u16 (x / 2 ^ min y.toNat 16)) w := by
  unfold BinK; (first | (go_simp; rfl) | (go_simp; done))

theorem kband50 (x y : Int) (K : Value → World → Prop) (w : World) : BinK Tryd.prog .and 50 (.int .u16 x) (.int .u16 y) K w = K (.int .u16 (bits .and .u16 x y)) w := by
  unfold BinK; (first | (go_simp; rfl) | (go_simp; done))

theorem kbeql50 (x y : Int) (K : Value → World → Prop) (w : World) : BinK Tryd.prog .eql 50 (.int .u16 x) (.int .u16 y) K w = K (.bool (x == y)) w := by
  unfold BinK; (first | (go_simp; rfl) | (go_simp; done))

theorem kia22 (g o n c : Nat) (i : Int) (h : 0 ≤ i ∧ i < (n : Int)) (K : Value → World → Prop) (w : World) : IndexAtK Tryd.prog 22 (.slice (some ⟨g, o, none⟩) n c) (.int .i64 i) K w = K (.pointer (some ⟨g, o + i.toNat * 6, none⟩)) w := by
  obtain ⟨h0, h1⟩ := h
  unfold IndexAtK; (first | (go_simp; rfl) | (go_simp; done))

theorem kfa55_0 (g o : Nat) (K : Value → World → Prop) (w : World) : FieldAtK Tryd.prog 55 (.pointer (some ⟨g, o, none⟩)) 0 K w = K (.pointer (some ⟨g, o, none⟩)) w := by
  unfold FieldAtK; (first | (go_simp; rfl) | (go_simp; done))

theorem kbs24_1_0 (v0 : ByteArray) (K : Value → World → Prop) (w : World) : BuildSliceK Tryd.prog 24 1 #[(0, (.string v0))] K w = K (.slice (some ⟨w.heap.size, 0, none⟩) 1 1) (w.alloc (.cells #[(.string v0)] 9)) := by
  unfold BuildSliceK; (first | (go_simp; rfl) | (go_simp; done))

theorem kbneq9 (x y : ByteArray) (K : Value → World → Prop) (w : World) : BinK Tryd.prog .neq 9 (.string x) (.string y) K w = K (.bool (!(x.toList == y.toList))) w := by
  unfold BinK; (first | (go_simp; rfl) | (go_simp; done))

theorem kbeql3 (x y : Int) (K : Value → World → Prop) (w : World) : BinK Tryd.prog .eql 3 (.int .i64 x) (.int .i64 y) K w = K (.bool (x == y)) w := by
  unfold BinK; (first | (go_simp; rfl) | (go_simp; done))

theorem kbeql9 (x y : ByteArray) (K : Value → World → Prop) (w : World) : BinK Tryd.prog .eql 9 (.string x) (.string y) K w = K (.bool (x.toList == y.toList)) w := by
  unfold BinK; (first | (go_simp; rfl) | (go_simp; done))

theorem kfa55_1 (g o : Nat) (K : Value → World → Prop) (w : World) : FieldAtK Tryd.prog 55 (.pointer (some ⟨g, o, none⟩)) 1 K w = K (.pointer (some ⟨g, o + 1, none⟩)) w := by
  unfold FieldAtK; (first | (go_simp; rfl) | (go_simp; done))

theorem kld52 (g o : Nat) (K : Value → World → Prop) (w : World) : LoadK Tryd.prog 52 (.pointer (some ⟨g, o, none⟩)) K w = OptK (w.cell? ⟨g, o, none⟩) (@hid _ ⟨fun v0 => OptK (w.cell? ⟨g, o + 1, none⟩) (@hid _ ⟨fun v1 => OptK (w.cell? ⟨g, o + 2, none⟩) (@hid _ ⟨fun v2 => OptK (w.cell? ⟨g, o + 3, none⟩) (@hid _ ⟨fun v3 => K (.agg #[v0, v1, v2, v3]) w⟩) (LoadRaw Tryd.prog 52 ⟨g, o, none⟩ K w)⟩) (LoadRaw Tryd.prog 52 ⟨g, o, none⟩ K w)⟩) (LoadRaw Tryd.prog 52 ⟨g, o, none⟩ K w)⟩) (LoadRaw Tryd.prog 52 ⟨g, o, none⟩ K w) := by
  cases h0 : w.cell? ⟨g, o, none⟩ with
  | none => rfl
  | some v0 =>
  cases h1 : w.cell? ⟨g, o + 1, none⟩ with
  | none => rfl
  | some v1 =>
  cases h2 : w.cell? ⟨g, o + 2, none⟩ with
  | none => rfl
  | some v2 =>
  cases h3 : w.cell? ⟨g, o + 3, none⟩ with
  | none => rfl
  | some v3 =>
  simp only [optK_some]
  unfold LoadK; (first | (go_simp; rfl) | (go_simp; done))

theorem kld55 (g o : Nat) (K : Value → World → Prop) (w : World) : LoadK Tryd.prog 55 (.pointer (some ⟨g, o, none⟩)) K w = OptK (w.cell? ⟨g, o, none⟩) (@hid _ ⟨fun v0 => OptK (w.cell? ⟨g, o + 1, none⟩) (@hid _ ⟨fun v1 => OptK (w.cell? ⟨g, o + 2, none⟩) (@hid _ ⟨fun v2 => OptK (w.cell? ⟨g, o + 3, none⟩) (@hid _ ⟨fun v3 => OptK (w.cell? ⟨g, o + 4, none⟩) (@hid _ ⟨fun v4 => OptK (w.cell? ⟨g, o + 5, none⟩) (@hid _ ⟨fun v5 => K (.agg #[v0, v1, v2, v3, v4, v5]) w⟩) (LoadRaw Tryd.prog 55 ⟨g, o, none⟩ K w)⟩) (LoadRaw Tryd.prog 55 ⟨g, o, none⟩ K w)⟩) (LoadRaw Tryd.prog 55 ⟨g, o, none⟩ K w)⟩) (LoadRaw Tryd.prog 55 ⟨g, o, none⟩ K w)⟩) (LoadRaw Tryd.prog 55 ⟨g, o, none⟩ K w)⟩) (LoadRaw Tryd.prog 55 ⟨g, o, none⟩ K w) := by
  cases h0 : w.cell? ⟨g, o, none⟩ with
  | none => rfl
  | some v0 =>
  cases h1 : w.cell? ⟨g, o + 1, none⟩ with
  | none => rfl
  | some v1 =>
  cases h2 : w.cell? ⟨g, o + 2, none⟩ with
  | none => rfl
  | some v2 =>
  cases h3 : w.cell? ⟨g, o + 3, none⟩ with
  | none => rfl
  | some v3 =>
  cases h4 : w.cell? ⟨g, o + 4, none⟩ with
  | none => rfl
  | some v4 =>
  cases h5 : w.cell? ⟨g, o + 5, none⟩ with
  | none => rfl
  | some v5 =>
  simp only [optK_some]
  unfold LoadK; (first | (go_simp; rfl) | (go_simp; done))

theorem kbd60_0_1 (v0 : Int) (v1A : Option Addr) (v1n v1c : Nat) (K : Value → World → Prop) (w : World) : BuildK Tryd.prog 60 #[(0, (.int .i64 v0)), (1, (.slice v1A v1n v1c))] K w = K (.agg #[(.int .i64 v0), (.slice v1A v1n v1c)]) w := by
  unfold BuildK; (first | (go_simp; rfl) | (go_simp; done))

theorem kal60 (K : Value → World → Prop) (w : World) : AllocK Tryd.prog 60 K w = K (.pointer (some ⟨w.heap.size, 0, none⟩)) (w.alloc (.cells #[.int .i64 0, .slice none 0 0] 60)) := by
  unfold AllocK; (first | (go_simp; rfl) | (go_simp; done))

theorem kst60f (v_0 : Int) (v_1A : Option Addr) (v_1n v_1c : Nat) (z0 z1 : Value) (K : Value → World → Prop) (w : World) : StoreK Tryd.prog 60 (.pointer (some ⟨w.heap.size, 0, none⟩)) (.agg #[(.int .i64 v_0), (.slice v_1A v_1n v_1c)]) K (w.alloc (.cells #[z0, z1] 60)) = K undef (w.alloc (.cells #[(.int .i64 v_0), (.slice v_1A v_1n v_1c)] 60)) := by
  unfold StoreK; (first | (go_simp; rfl) | (go_simp; done))

theorem klen33 (A : Option Addr) (n c : Nat) (K : Value → World → Prop) (w : World) : BuiltinK Tryd.prog .len #[33] 3 #[false] #[(.slice A n c)] K w = K (.int .i64 (n : Int)) w := by
  unfold BuiltinK; (first | (go_simp; rfl) | (go_simp; done))

theorem hlen33 (A : Option Addr) (n c : Nat) {K : Value → Prop} {w1 : World} : TakeO Tryd.prog (fun w' => w' = w1) (builtin .len #[33] 3 #[false] #[(.slice A n c)]) K = K (.int .i64 (n : Int)) := by
  exact here_o (fun w => by (first | (go_simp; rfl) | (go_simp; done)))

theorem kld60 (g o : Nat) (K : Value → World → Prop) (w : World) : LoadK Tryd.prog 60 (.pointer (some ⟨g, o, none⟩)) K w = OptK (w.cell? ⟨g, o, none⟩) (@hid _ ⟨fun v0 => OptK (w.cell? ⟨g, o + 1, none⟩) (@hid _ ⟨fun v1 => K (.agg #[v0, v1]) w⟩) (LoadRaw Tryd.prog 60 ⟨g, o, none⟩ K w)⟩) (LoadRaw Tryd.prog 60 ⟨g, o, none⟩ K w) := by
  cases h0 : w.cell? ⟨g, o, none⟩ with
  | none => rfl
  | some v0 =>
  cases h1 : w.cell? ⟨g, o + 1, none⟩ with
  | none => rfl
  | some v1 =>
  simp only [optK_some]
  unfold LoadK; (first | (go_simp; rfl) | (go_simp; done))

theorem kia33 (g o n c : Nat) (i : Int) (h : 0 ≤ i ∧ i < (n : Int)) (K : Value → World → Prop) (w : World) : IndexAtK Tryd.prog 33 (.slice (some ⟨g, o, none⟩) n c) (.int .i64 i) K w = K (.pointer (some ⟨g, o + i.toNat * 6, none⟩)) w := by
  obtain ⟨h0, h1⟩ := h
  unfold IndexAtK; (first | (go_simp; rfl) | (go_simp; done))

theorem kld65 (g o : Nat) (K : Value → World → Prop) (w : World) : LoadK Tryd.prog 65 (.pointer (some ⟨g, o, none⟩)) K w = OptK (w.cell? ⟨g, o, none⟩) (@hid _ ⟨fun v0 => OptK (w.cell? ⟨g, o + 1, none⟩) (@hid _ ⟨fun v1 => OptK (w.cell? ⟨g, o + 2, none⟩) (@hid _ ⟨fun v2 => OptK (w.cell? ⟨g, o + 3, none⟩) (@hid _ ⟨fun v3 => OptK (w.cell? ⟨g, o + 4, none⟩) (@hid _ ⟨fun v4 => OptK (w.cell? ⟨g, o + 5, none⟩) (@hid _ ⟨fun v5 => K (.agg #[v0, v1, v2, v3, v4, v5]) w⟩) (LoadRaw Tryd.prog 65 ⟨g, o, none⟩ K w)⟩) (LoadRaw Tryd.prog 65 ⟨g, o, none⟩ K w)⟩) (LoadRaw Tryd.prog 65 ⟨g, o, none⟩ K w)⟩) (LoadRaw Tryd.prog 65 ⟨g, o, none⟩ K w)⟩) (LoadRaw Tryd.prog 65 ⟨g, o, none⟩ K w)⟩) (LoadRaw Tryd.prog 65 ⟨g, o, none⟩ K w) := by
  cases h0 : w.cell? ⟨g, o, none⟩ with
  | none => rfl
  | some v0 =>
  cases h1 : w.cell? ⟨g, o + 1, none⟩ with
  | none => rfl
  | some v1 =>
  cases h2 : w.cell? ⟨g, o + 2, none⟩ with
  | none => rfl
  | some v2 =>
  cases h3 : w.cell? ⟨g, o + 3, none⟩ with
  | none => rfl
  | some v3 =>
  cases h4 : w.cell? ⟨g, o + 4, none⟩ with
  | none => rfl
  | some v4 =>
  cases h5 : w.cell? ⟨g, o + 5, none⟩ with
  | none => rfl
  | some v5 =>
  simp only [optK_some]
  unfold LoadK; (first | (go_simp; rfl) | (go_simp; done))

theorem kfa60_1 (g o : Nat) (K : Value → World → Prop) (w : World) : FieldAtK Tryd.prog 60 (.pointer (some ⟨g, o, none⟩)) 1 K w = K (.pointer (some ⟨g, o + 1, none⟩)) w := by
  unfold FieldAtK; (first | (go_simp; rfl) | (go_simp; done))

theorem kld33 (a : Addr) (K : Value → World → Prop) (w : World) : LoadK Tryd.prog 33 (.pointer (some a)) K w = OptK (w.cell? a) (@hid _ ⟨fun v => K v w⟩) (LoadRaw Tryd.prog 33 a K w) := by
  exact loadK_eq Tryd.underlying33 rfl a K w

theorem kal73 (K : Value → World → Prop) (w : World) : AllocK Tryd.prog 73 K w = K (.pointer (some ⟨w.heap.size, 0, none⟩)) (w.alloc (.cells #[.string ByteArray.empty, .string ByteArray.empty, .int .i64 0] 73)) := by
  unfold AllocK; (first | (go_simp; rfl) | (go_simp; done))

theorem kst73f (v_0 : ByteArray) (v_1 : ByteArray) (v_2 : Int) (z0 z1 z2 : Value) (K : Value → World → Prop) (w : World) : StoreK Tryd.prog 73 (.pointer (some ⟨w.heap.size, 0, none⟩)) (.agg #[(.string v_0), (.string v_1), (.int .i64 v_2)]) K (w.alloc (.cells #[z0, z1, z2] 73)) = K undef (w.alloc (.cells #[(.string v_0), (.string v_1), (.int .i64 v_2)] 73)) := by
  unfold StoreK; (first | (go_simp; rfl) | (go_simp; done))

theorem kal76 (K : Value → World → Prop) (w : World) : AllocK Tryd.prog 76 K w = K (.pointer (some ⟨w.heap.size, 0, none⟩)) (w.alloc (.cells #[.string ByteArray.empty, .string ByteArray.empty, .int .i64 0] 76)) := by
  unfold AllocK; (first | (go_simp; rfl) | (go_simp; done))

theorem kst76f (v_0 : ByteArray) (v_1 : ByteArray) (v_2 : Int) (z0 z1 z2 : Value) (K : Value → World → Prop) (w : World) : StoreK Tryd.prog 76 (.pointer (some ⟨w.heap.size, 0, none⟩)) (.agg #[(.string v_0), (.string v_1), (.int .i64 v_2)]) K (w.alloc (.cells #[z0, z1, z2] 76)) = K undef (w.alloc (.cells #[(.string v_0), (.string v_1), (.int .i64 v_2)] 76)) := by
  unfold StoreK; (first | (go_simp; rfl) | (go_simp; done))

theorem klen68 (A : Option Addr) (n c : Nat) (K : Value → World → Prop) (w : World) : BuiltinK Tryd.prog .len #[68] 3 #[false] #[(.slice A n c)] K w = K (.int .i64 (n : Int)) w := by
  unfold BuiltinK; (first | (go_simp; rfl) | (go_simp; done))

theorem hlen68 (A : Option Addr) (n c : Nat) {K : Value → Prop} {w1 : World} : TakeO Tryd.prog (fun w' => w' = w1) (builtin .len #[68] 3 #[false] #[(.slice A n c)]) K = K (.int .i64 (n : Int)) := by
  exact here_o (fun w => by (first | (go_simp; rfl) | (go_simp; done)))

theorem klen70 (A : Option Addr) (n c : Nat) (K : Value → World → Prop) (w : World) : BuiltinK Tryd.prog .len #[70] 3 #[false] #[(.slice A n c)] K w = K (.int .i64 (n : Int)) w := by
  unfold BuiltinK; (first | (go_simp; rfl) | (go_simp; done))

theorem hlen70 (A : Option Addr) (n c : Nat) {K : Value → Prop} {w1 : World} : TakeO Tryd.prog (fun w' => w' = w1) (builtin .len #[70] 3 #[false] #[(.slice A n c)]) K = K (.int .i64 (n : Int)) := by
  exact here_o (fun w => by (first | (go_simp; rfl) | (go_simp; done)))

theorem kbneq4 (x y : Bool) (K : Value → World → Prop) (w : World) : BinK Tryd.prog .neq 4 (.bool x) (.bool y) K w = K (.bool (x != y)) w := by
  cases x <;> cases y <;> (unfold BinK; (first | (go_simp; rfl) | (go_simp; done)))

theorem kfa73_0 (g o : Nat) (K : Value → World → Prop) (w : World) : FieldAtK Tryd.prog 73 (.pointer (some ⟨g, o, none⟩)) 0 K w = K (.pointer (some ⟨g, o, none⟩)) w := by
  unfold FieldAtK; (first | (go_simp; rfl) | (go_simp; done))

theorem kfa76_0 (g o : Nat) (K : Value → World → Prop) (w : World) : FieldAtK Tryd.prog 76 (.pointer (some ⟨g, o, none⟩)) 0 K w = K (.pointer (some ⟨g, o, none⟩)) w := by
  unfold FieldAtK; (first | (go_simp; rfl) | (go_simp; done))

theorem kfa73_1 (g o : Nat) (K : Value → World → Prop) (w : World) : FieldAtK Tryd.prog 73 (.pointer (some ⟨g, o, none⟩)) 1 K w = K (.pointer (some ⟨g, o + 1, none⟩)) w := by
  unfold FieldAtK; (first | (go_simp; rfl) | (go_simp; done))

theorem kfa76_1 (g o : Nat) (K : Value → World → Prop) (w : World) : FieldAtK Tryd.prog 76 (.pointer (some ⟨g, o, none⟩)) 1 K w = K (.pointer (some ⟨g, o + 1, none⟩)) w := by
  unfold FieldAtK; (first | (go_simp; rfl) | (go_simp; done))

theorem kfa73_2 (g o : Nat) (K : Value → World → Prop) (w : World) : FieldAtK Tryd.prog 73 (.pointer (some ⟨g, o, none⟩)) 2 K w = K (.pointer (some ⟨g, o + 2, none⟩)) w := by
  unfold FieldAtK; (first | (go_simp; rfl) | (go_simp; done))

theorem kld2 (a : Addr) (K : Value → World → Prop) (w : World) : LoadK Tryd.prog 2 (.pointer (some a)) K w = OptK (w.cell? a) (@hid _ ⟨fun v => K v w⟩) (LoadRaw Tryd.prog 2 a K w) := by
  exact loadK_eq Tryd.underlying2 rfl a K w

theorem kfa76_2 (g o : Nat) (K : Value → World → Prop) (w : World) : FieldAtK Tryd.prog 76 (.pointer (some ⟨g, o, none⟩)) 2 K w = K (.pointer (some ⟨g, o + 2, none⟩)) w := by
  unfold FieldAtK; (first | (go_simp; rfl) | (go_simp; done))

theorem kbneq2 (x y : Int) (K : Value → World → Prop) (w : World) : BinK Tryd.prog .neq 2 (.int .i64 x) (.int .i64 y) K w = K (.bool (x != y)) w := by
  unfold BinK; (first | (go_simp; rfl) | (go_simp; done))

theorem kia68 (g o n c : Nat) (i : Int) (h : 0 ≤ i ∧ i < (n : Int)) (K : Value → World → Prop) (w : World) : IndexAtK Tryd.prog 68 (.slice (some ⟨g, o, none⟩) n c) (.int .i64 i) K w = K (.pointer (some ⟨g, o + i.toNat * 3, none⟩)) w := by
  obtain ⟨h0, h1⟩ := h
  unfold IndexAtK; (first | (go_simp; rfl) | (go_simp; done))

theorem kia70 (g o n c : Nat) (i : Int) (h : 0 ≤ i ∧ i < (n : Int)) (K : Value → World → Prop) (w : World) : IndexAtK Tryd.prog 70 (.slice (some ⟨g, o, none⟩) n c) (.int .i64 i) K w = K (.pointer (some ⟨g, o + i.toNat * 3, none⟩)) w := by
  obtain ⟨h0, h1⟩ := h
  unfold IndexAtK; (first | (go_simp; rfl) | (go_simp; done))

theorem kbs22_1_0 (v0_0 : ByteArray) (v0_1_0 : Int) (v0_1_1 : Int) (v0_1_2 : Int) (v0_1_3 : ByteArray) (v0_2A : Option Addr) (v0_2n v0_2c : Nat) (K : Value → World → Prop) (w : World) : BuildSliceK Tryd.prog 22 1 #[(0, .agg #[(.string v0_0), (.int .i64 v0_1_0), (.int .i64 v0_1_1), (.int .i64 v0_1_2), (.string v0_1_3), (.slice v0_2A v0_2n v0_2c)])] K w = K (.slice (some ⟨w.heap.size, 0, none⟩) 1 1) (w.alloc (.cells #[(.string v0_0), (.int .i64 v0_1_0), (.int .i64 v0_1_1), (.int .i64 v0_1_2), (.string v0_1_3), (.slice v0_2A v0_2n v0_2c)] 55)) := by
  unfold BuildSliceK; (first | (go_simp; rfl) | (go_simp; done))

theorem kld73 (g o : Nat) (K : Value → World → Prop) (w : World) : LoadK Tryd.prog 73 (.pointer (some ⟨g, o, none⟩)) K w = OptK (w.cell? ⟨g, o, none⟩) (@hid _ ⟨fun v0 => OptK (w.cell? ⟨g, o + 1, none⟩) (@hid _ ⟨fun v1 => OptK (w.cell? ⟨g, o + 2, none⟩) (@hid _ ⟨fun v2 => K (.agg #[v0, v1, v2]) w⟩) (LoadRaw Tryd.prog 73 ⟨g, o, none⟩ K w)⟩) (LoadRaw Tryd.prog 73 ⟨g, o, none⟩ K w)⟩) (LoadRaw Tryd.prog 73 ⟨g, o, none⟩ K w) := by
  cases h0 : w.cell? ⟨g, o, none⟩ with
  | none => rfl
  | some v0 =>
  cases h1 : w.cell? ⟨g, o + 1, none⟩ with
  | none => rfl
  | some v1 =>
  cases h2 : w.cell? ⟨g, o + 2, none⟩ with
  | none => rfl
  | some v2 =>
  simp only [optK_some]
  unfold LoadK; (first | (go_simp; rfl) | (go_simp; done))

theorem klen80 (A : Option Addr) (n c : Nat) (K : Value → World → Prop) (w : World) : BuiltinK Tryd.prog .len #[80] 3 #[false] #[(.slice A n c)] K w = K (.int .i64 (n : Int)) w := by
  unfold BuiltinK; (first | (go_simp; rfl) | (go_simp; done))

theorem hlen80 (A : Option Addr) (n c : Nat) {K : Value → Prop} {w1 : World} : TakeO Tryd.prog (fun w' => w' = w1) (builtin .len #[80] 3 #[false] #[(.slice A n c)]) K = K (.int .i64 (n : Int)) := by
  exact here_o (fun w => by (first | (go_simp; rfl) | (go_simp; done)))

theorem kcv3_5 (x : Int) (K : Value → World → Prop) (w : World) : ConvK Tryd.prog 3 5 (.int .i64 x) K w = K (.int .u8 (IntKind.u8.wrap x)) w := by
  unfold ConvK; (first | (go_simp; rfl) | (go_simp; done))

theorem kbs82_1_0 (v0 : Int) (K : Value → World → Prop) (w : World) : BuildSliceK Tryd.prog 82 1 #[(0, (.int .u8 v0))] K w = K (.slice (some ⟨w.heap.size, 0, none⟩) 1 1) (w.alloc (.cells #[(.int .u8 v0)] 5)) := by
  unfold BuildSliceK; (first | (go_simp; rfl) | (go_simp; done))

theorem kia80 (g o n c : Nat) (i : Int) (h : 0 ≤ i ∧ i < (n : Int)) (K : Value → World → Prop) (w : World) : IndexAtK Tryd.prog 80 (.slice (some ⟨g, o, none⟩) n c) (.int .i64 i) K w = K (.pointer (some ⟨g, o + i.toNat, none⟩)) w := by
  obtain ⟨h0, h1⟩ := h
  unfold IndexAtK; (first | (go_simp; rfl) | (go_simp; done))

theorem kbleq2 (x y : Int) (K : Value → World → Prop) (w : World) : BinK Tryd.prog .leq 2 (.int .i64 x) (.int .i64 y) K w = K (.bool (decide (x ≤ y))) w := by
  unfold BinK; (first | (go_simp; rfl) | (go_simp; done))

theorem kbgtr2 (x y : Int) (K : Value → World → Prop) (w : World) : BinK Tryd.prog .gtr 2 (.int .i64 x) (.int .i64 y) K w = K (.bool (decide (y < x))) w := by
  unfold BinK; (first | (go_simp; rfl) | (go_simp; done))

theorem kbeql2 (x y : Int) (K : Value → World → Prop) (w : World) : BinK Tryd.prog .eql 2 (.int .i64 x) (.int .i64 y) K w = K (.bool (x == y)) w := by
  unfold BinK; (first | (go_simp; rfl) | (go_simp; done))

theorem kbd52_0_3 (v0 : Int) (v3 : ByteArray) (K : Value → World → Prop) (w : World) : BuildK Tryd.prog 52 #[(0, (.int .i64 v0)), (3, (.string v3))] K w = K (.agg #[(.int .i64 v0), .int .i64 0, .int .i64 0, (.string v3)]) w := by
  unfold BuildK; (first | (go_simp; rfl) | (go_simp; done))

theorem kbd55_0_1 (v0 : ByteArray) (v1_0 : Int) (v1_1 : Int) (v1_2 : Int) (v1_3 : ByteArray) (K : Value → World → Prop) (w : World) : BuildK Tryd.prog 55 #[(0, (.string v0)), (1, .agg #[(.int .i64 v1_0), (.int .i64 v1_1), (.int .i64 v1_2), (.string v1_3)])] K w = K (.agg #[(.string v0), (.int .i64 v1_0), (.int .i64 v1_1), (.int .i64 v1_2), (.string v1_3), .slice none 0 0]) w := by
  unfold BuildK; (first | (go_simp; rfl) | (go_simp; done))

theorem kbs22_2_0_1 (v0_0 : ByteArray) (v0_1_0 : Int) (v0_1_1 : Int) (v0_1_2 : Int) (v0_1_3 : ByteArray) (v0_2A : Option Addr) (v0_2n v0_2c : Nat) (v1_0 : ByteArray) (v1_1_0 : Int) (v1_1_1 : Int) (v1_1_2 : Int) (v1_1_3 : ByteArray) (v1_2A : Option Addr) (v1_2n v1_2c : Nat) (K : Value → World → Prop) (w : World) : BuildSliceK Tryd.prog 22 2 #[(0, .agg #[(.string v0_0), (.int .i64 v0_1_0), (.int .i64 v0_1_1), (.int .i64 v0_1_2), (.string v0_1_3), (.slice v0_2A v0_2n v0_2c)]), (1, .agg #[(.string v1_0), (.int .i64 v1_1_0), (.int .i64 v1_1_1), (.int .i64 v1_1_2), (.string v1_1_3), (.slice v1_2A v1_2n v1_2c)])] K w = K (.slice (some ⟨w.heap.size, 0, none⟩) 2 2) (w.alloc (.cells #[(.string v0_0), (.int .i64 v0_1_0), (.int .i64 v0_1_1), (.int .i64 v0_1_2), (.string v0_1_3), (.slice v0_2A v0_2n v0_2c), (.string v1_0), (.int .i64 v1_1_0), (.int .i64 v1_1_1), (.int .i64 v1_1_2), (.string v1_1_3), (.slice v1_2A v1_2n v1_2c)] 55)) := by
  unfold BuildSliceK; (first | (go_simp; rfl) | (go_simp; done))

theorem kbd85_0_1 (v0 : ByteArray) (v1_0 : Int) (v1_1 : Int) (v1_2 : Int) (v1_3 : ByteArray) (K : Value → World → Prop) (w : World) : BuildK Tryd.prog 85 #[(0, (.string v0)), (1, .agg #[(.int .i64 v1_0), (.int .i64 v1_1), (.int .i64 v1_2), (.string v1_3)])] K w = K (.agg #[(.string v0), (.int .i64 v1_0), (.int .i64 v1_1), (.int .i64 v1_2), (.string v1_3)]) w := by
  unfold BuildK; (first | (go_simp; rfl) | (go_simp; done))

theorem kbs23_2_0_1 (v0_0 : ByteArray) (v0_1_0 : Int) (v0_1_1 : Int) (v0_1_2 : Int) (v0_1_3 : ByteArray) (v1_0 : ByteArray) (v1_1_0 : Int) (v1_1_1 : Int) (v1_1_2 : Int) (v1_1_3 : ByteArray) (K : Value → World → Prop) (w : World) : BuildSliceK Tryd.prog 23 2 #[(0, .agg #[(.string v0_0), (.int .i64 v0_1_0), (.int .i64 v0_1_1), (.int .i64 v0_1_2), (.string v0_1_3)]), (1, .agg #[(.string v1_0), (.int .i64 v1_1_0), (.int .i64 v1_1_1), (.int .i64 v1_1_2), (.string v1_1_3)])] K w = K (.slice (some ⟨w.heap.size, 0, none⟩) 2 2) (w.alloc (.cells #[(.string v0_0), (.int .i64 v0_1_0), (.int .i64 v0_1_1), (.int .i64 v0_1_2), (.string v0_1_3), (.string v1_0), (.int .i64 v1_1_0), (.int .i64 v1_1_1), (.int .i64 v1_1_2), (.string v1_1_3)] 85)) := by
  unfold BuildSliceK; (first | (go_simp; rfl) | (go_simp; done))

theorem kbs24_2_0_1 (v0 : ByteArray) (v1 : ByteArray) (K : Value → World → Prop) (w : World) : BuildSliceK Tryd.prog 24 2 #[(0, (.string v0)), (1, (.string v1))] K w = K (.slice (some ⟨w.heap.size, 0, none⟩) 2 2) (w.alloc (.cells #[(.string v0), (.string v1)] 9)) := by
  unfold BuildSliceK; (first | (go_simp; rfl) | (go_simp; done))

theorem klen23 (A : Option Addr) (n c : Nat) (K : Value → World → Prop) (w : World) : BuiltinK Tryd.prog .len #[23] 3 #[false] #[(.slice A n c)] K w = K (.int .i64 (n : Int)) w := by
  unfold BuiltinK; (first | (go_simp; rfl) | (go_simp; done))

theorem hlen23 (A : Option Addr) (n c : Nat) {K : Value → Prop} {w1 : World} : TakeO Tryd.prog (fun w' => w' = w1) (builtin .len #[23] 3 #[false] #[(.slice A n c)]) K = K (.int .i64 (n : Int)) := by
  exact here_o (fun w => by (first | (go_simp; rfl) | (go_simp; done)))

theorem kia23 (g o n c : Nat) (i : Int) (h : 0 ≤ i ∧ i < (n : Int)) (K : Value → World → Prop) (w : World) : IndexAtK Tryd.prog 23 (.slice (some ⟨g, o, none⟩) n c) (.int .i64 i) K w = K (.pointer (some ⟨g, o + i.toNat * 5, none⟩)) w := by
  obtain ⟨h0, h1⟩ := h
  unfold IndexAtK; (first | (go_simp; rfl) | (go_simp; done))

theorem kfa85_0 (g o : Nat) (K : Value → World → Prop) (w : World) : FieldAtK Tryd.prog 85 (.pointer (some ⟨g, o, none⟩)) 0 K w = K (.pointer (some ⟨g, o, none⟩)) w := by
  unfold FieldAtK; (first | (go_simp; rfl) | (go_simp; done))

theorem kbd85_0 (v0 : ByteArray) (K : Value → World → Prop) (w : World) : BuildK Tryd.prog 85 #[(0, (.string v0))] K w = K (.agg #[(.string v0), .int .i64 0, .int .i64 0, .int .i64 0, .string ByteArray.empty]) w := by
  unfold BuildK; (first | (go_simp; rfl) | (go_simp; done))

theorem kbs23_1_0 (v0_0 : ByteArray) (v0_1_0 : Int) (v0_1_1 : Int) (v0_1_2 : Int) (v0_1_3 : ByteArray) (K : Value → World → Prop) (w : World) : BuildSliceK Tryd.prog 23 1 #[(0, .agg #[(.string v0_0), (.int .i64 v0_1_0), (.int .i64 v0_1_1), (.int .i64 v0_1_2), (.string v0_1_3)])] K w = K (.slice (some ⟨w.heap.size, 0, none⟩) 1 1) (w.alloc (.cells #[(.string v0_0), (.int .i64 v0_1_0), (.int .i64 v0_1_1), (.int .i64 v0_1_2), (.string v0_1_3)] 85)) := by
  unfold BuildSliceK; (first | (go_simp; rfl) | (go_simp; done))

theorem kfa85_1 (g o : Nat) (K : Value → World → Prop) (w : World) : FieldAtK Tryd.prog 85 (.pointer (some ⟨g, o, none⟩)) 1 K w = K (.pointer (some ⟨g, o + 1, none⟩)) w := by
  unfold FieldAtK; (first | (go_simp; rfl) | (go_simp; done))

theorem kfa52_3 (g o : Nat) (K : Value → World → Prop) (w : World) : FieldAtK Tryd.prog 52 (.pointer (some ⟨g, o, none⟩)) 3 K w = K (.pointer (some ⟨g, o + 3, none⟩)) w := by
  unfold FieldAtK; (first | (go_simp; rfl) | (go_simp; done))

theorem kfa40_1 (g o : Nat) (K : Value → World → Prop) (w : World) : FieldAtK Tryd.prog 40 (.pointer (some ⟨g, o, none⟩)) 1 K w = K (.pointer (some ⟨g, o + 1, none⟩)) w := by
  unfold FieldAtK; (first | (go_simp; rfl) | (go_simp; done))

theorem kld38 (g o : Nat) (K : Value → World → Prop) (w : World) : LoadK Tryd.prog 38 (.pointer (some ⟨g, o, none⟩)) K w = OptK (w.cell? ⟨g, o, none⟩) (@hid _ ⟨fun v0 => OptK (w.cell? ⟨g, o + 1, none⟩) (@hid _ ⟨fun v1 => OptK (w.cell? ⟨g, o + 2, none⟩) (@hid _ ⟨fun v2 => OptK (w.cell? ⟨g, o + 3, none⟩) (@hid _ ⟨fun v3 => K (.agg #[v0, v1, v2, v3]) w⟩) (LoadRaw Tryd.prog 38 ⟨g, o, none⟩ K w)⟩) (LoadRaw Tryd.prog 38 ⟨g, o, none⟩ K w)⟩) (LoadRaw Tryd.prog 38 ⟨g, o, none⟩ K w)⟩) (LoadRaw Tryd.prog 38 ⟨g, o, none⟩ K w) := by
  cases h0 : w.cell? ⟨g, o, none⟩ with
  | none => rfl
  | some v0 =>
  cases h1 : w.cell? ⟨g, o + 1, none⟩ with
  | none => rfl
  | some v1 =>
  cases h2 : w.cell? ⟨g, o + 2, none⟩ with
  | none => rfl
  | some v2 =>
  cases h3 : w.cell? ⟨g, o + 3, none⟩ with
  | none => rfl
  | some v3 =>
  simp only [optK_some]
  unfold LoadK; (first | (go_simp; rfl) | (go_simp; done))

theorem kfa40_0 (g o : Nat) (K : Value → World → Prop) (w : World) : FieldAtK Tryd.prog 40 (.pointer (some ⟨g, o, none⟩)) 0 K w = K (.pointer (some ⟨g, o, none⟩)) w := by
  unfold FieldAtK; (first | (go_simp; rfl) | (go_simp; done))

theorem kbd40_0_1 (v0 : ByteArray) (v1_0 : Int) (v1_1 : Int) (v1_2 : Int) (v1_3 : ByteArray) (K : Value → World → Prop) (w : World) : BuildK Tryd.prog 40 #[(0, (.string v0)), (1, .agg #[(.int .i64 v1_0), (.int .i64 v1_1), (.int .i64 v1_2), (.string v1_3)])] K w = K (.agg #[(.string v0), (.int .i64 v1_0), (.int .i64 v1_1), (.int .i64 v1_2), (.string v1_3)]) w := by
  unfold BuildK; (first | (go_simp; rfl) | (go_simp; done))

theorem kbs28_1_0 (v0_0 : ByteArray) (v0_1_0 : Int) (v0_1_1 : Int) (v0_1_2 : Int) (v0_1_3 : ByteArray) (K : Value → World → Prop) (w : World) : BuildSliceK Tryd.prog 28 1 #[(0, .agg #[(.string v0_0), (.int .i64 v0_1_0), (.int .i64 v0_1_1), (.int .i64 v0_1_2), (.string v0_1_3)])] K w = K (.slice (some ⟨w.heap.size, 0, none⟩) 1 1) (w.alloc (.cells #[(.string v0_0), (.int .i64 v0_1_0), (.int .i64 v0_1_1), (.int .i64 v0_1_2), (.string v0_1_3)] 40)) := by
  unfold BuildSliceK; (first | (go_simp; rfl) | (go_simp; done))

theorem kld85 (g o : Nat) (K : Value → World → Prop) (w : World) : LoadK Tryd.prog 85 (.pointer (some ⟨g, o, none⟩)) K w = OptK (w.cell? ⟨g, o, none⟩) (@hid _ ⟨fun v0 => OptK (w.cell? ⟨g, o + 1, none⟩) (@hid _ ⟨fun v1 => OptK (w.cell? ⟨g, o + 2, none⟩) (@hid _ ⟨fun v2 => OptK (w.cell? ⟨g, o + 3, none⟩) (@hid _ ⟨fun v3 => OptK (w.cell? ⟨g, o + 4, none⟩) (@hid _ ⟨fun v4 => K (.agg #[v0, v1, v2, v3, v4]) w⟩) (LoadRaw Tryd.prog 85 ⟨g, o, none⟩ K w)⟩) (LoadRaw Tryd.prog 85 ⟨g, o, none⟩ K w)⟩) (LoadRaw Tryd.prog 85 ⟨g, o, none⟩ K w)⟩) (LoadRaw Tryd.prog 85 ⟨g, o, none⟩ K w)⟩) (LoadRaw Tryd.prog 85 ⟨g, o, none⟩ K w) := by
  cases h0 : w.cell? ⟨g, o, none⟩ with
  | none => rfl
  | some v0 =>
  cases h1 : w.cell? ⟨g, o + 1, none⟩ with
  | none => rfl
  | some v1 =>
  cases h2 : w.cell? ⟨g, o + 2, none⟩ with
  | none => rfl
  | some v2 =>
  cases h3 : w.cell? ⟨g, o + 3, none⟩ with
  | none => rfl
  | some v3 =>
  cases h4 : w.cell? ⟨g, o + 4, none⟩ with
  | none => rfl
  | some v4 =>
  simp only [optK_some]
  unfold LoadK; (first | (go_simp; rfl) | (go_simp; done))

theorem kal85 (K : Value → World → Prop) (w : World) : AllocK Tryd.prog 85 K w = K (.pointer (some ⟨w.heap.size, 0, none⟩)) (w.alloc (.cells #[.string ByteArray.empty, .int .i64 0, .int .i64 0, .int .i64 0, .string ByteArray.empty] 85)) := by
  unfold AllocK; (first | (go_simp; rfl) | (go_simp; done))

theorem kst85f (v_0 : ByteArray) (v_1_0 : Int) (v_1_1 : Int) (v_1_2 : Int) (v_1_3 : ByteArray) (z0 z1 z2 z3 z4 : Value) (K : Value → World → Prop) (w : World) : StoreK Tryd.prog 85 (.pointer (some ⟨w.heap.size, 0, none⟩)) (.agg #[(.string v_0), (.int .i64 v_1_0), (.int .i64 v_1_1), (.int .i64 v_1_2), (.string v_1_3)]) K (w.alloc (.cells #[z0, z1, z2, z3, z4] 85)) = K undef (w.alloc (.cells #[(.string v_0), (.int .i64 v_1_0), (.int .i64 v_1_1), (.int .i64 v_1_2), (.string v_1_3)] 85)) := by
  unfold StoreK; (first | (go_simp; rfl) | (go_simp; done))

theorem kbgeq3 (x y : Int) (K : Value → World → Prop) (w : World) : BinK Tryd.prog .geq 3 (.int .i64 x) (.int .i64 y) K w = K (.bool (decide (y ≤ x))) w := by
  unfold BinK; (first | (go_simp; rfl) | (go_simp; done))

theorem kbneq30 (x y : Int) (K : Value → World → Prop) (w : World) : BinK Tryd.prog .neq 30 (.int .i64 x) (.int .i64 y) K w = K (.bool (x != y)) w := by
  unfold BinK; (first | (go_simp; rfl) | (go_simp; done))

theorem kbs33_1_0 (v0_0 : ByteArray) (v0_1_0 : Int) (v0_1_1 : Int) (v0_1_2 : Int) (v0_1_3 : ByteArray) (v0_2A : Option Addr) (v0_2n v0_2c : Nat) (K : Value → World → Prop) (w : World) : BuildSliceK Tryd.prog 33 1 #[(0, .agg #[(.string v0_0), (.int .i64 v0_1_0), (.int .i64 v0_1_1), (.int .i64 v0_1_2), (.string v0_1_3), (.slice v0_2A v0_2n v0_2c)])] K w = K (.slice (some ⟨w.heap.size, 0, none⟩) 1 1) (w.alloc (.cells #[(.string v0_0), (.int .i64 v0_1_0), (.int .i64 v0_1_1), (.int .i64 v0_1_2), (.string v0_1_3), (.slice v0_2A v0_2n v0_2c)] 65)) := by
  unfold BuildSliceK; (first | (go_simp; rfl) | (go_simp; done))

theorem kal55 (K : Value → World → Prop) (w : World) : AllocK Tryd.prog 55 K w = K (.pointer (some ⟨w.heap.size, 0, none⟩)) (w.alloc (.cells #[.string ByteArray.empty, .int .i64 0, .int .i64 0, .int .i64 0, .string ByteArray.empty, .slice none 0 0] 55)) := by
  unfold AllocK; (first | (go_simp; rfl) | (go_simp; done))

theorem kst55f (v_0 : ByteArray) (v_1_0 : Int) (v_1_1 : Int) (v_1_2 : Int) (v_1_3 : ByteArray) (v_2A : Option Addr) (v_2n v_2c : Nat) (z0 z1 z2 z3 z4 z5 : Value) (K : Value → World → Prop) (w : World) : StoreK Tryd.prog 55 (.pointer (some ⟨w.heap.size, 0, none⟩)) (.agg #[(.string v_0), (.int .i64 v_1_0), (.int .i64 v_1_1), (.int .i64 v_1_2), (.string v_1_3), (.slice v_2A v_2n v_2c)]) K (w.alloc (.cells #[z0, z1, z2, z3, z4, z5] 55)) = K undef (w.alloc (.cells #[(.string v_0), (.int .i64 v_1_0), (.int .i64 v_1_1), (.int .i64 v_1_2), (.string v_1_3), (.slice v_2A v_2n v_2c)] 55)) := by
  unfold StoreK; (first | (go_simp; rfl) | (go_simp; done))

theorem kfa65_0 (g o : Nat) (K : Value → World → Prop) (w : World) : FieldAtK Tryd.prog 65 (.pointer (some ⟨g, o, none⟩)) 0 K w = K (.pointer (some ⟨g, o, none⟩)) w := by
  unfold FieldAtK; (first | (go_simp; rfl) | (go_simp; done))

theorem kfa65_1 (g o : Nat) (K : Value → World → Prop) (w : World) : FieldAtK Tryd.prog 65 (.pointer (some ⟨g, o, none⟩)) 1 K w = K (.pointer (some ⟨g, o + 1, none⟩)) w := by
  unfold FieldAtK; (first | (go_simp; rfl) | (go_simp; done))

theorem kal22 (K : Value → World → Prop) (w : World) : AllocK Tryd.prog 22 K w = K (.pointer (some ⟨w.heap.size, 0, none⟩)) (w.alloc (.cells #[.slice none 0 0] 22)) := by
  unfold AllocK; (first | (go_simp; rfl) | (go_simp; done))

theorem kld22 (a : Addr) (K : Value → World → Prop) (w : World) : LoadK Tryd.prog 22 (.pointer (some a)) K w = OptK (w.cell? a) (@hid _ ⟨fun v => K v w⟩) (LoadRaw Tryd.prog 22 a K w) := by
  exact loadK_eq Tryd.underlying22 rfl a K w

theorem kbleq3 (x y : Int) (K : Value → World → Prop) (w : World) : BinK Tryd.prog .leq 3 (.int .i64 x) (.int .i64 y) K w = K (.bool (decide (x ≤ y))) w := by
  unfold BinK; (first | (go_simp; rfl) | (go_simp; done))

theorem kal24 (K : Value → World → Prop) (w : World) : AllocK Tryd.prog 24 K w = K (.pointer (some ⟨w.heap.size, 0, none⟩)) (w.alloc (.cells #[.slice none 0 0] 24)) := by
  unfold AllocK; (first | (go_simp; rfl) | (go_simp; done))

theorem kld24 (a : Addr) (K : Value → World → Prop) (w : World) : LoadK Tryd.prog 24 (.pointer (some a)) K w = OptK (w.cell? a) (@hid _ ⟨fun v => K v w⟩) (LoadRaw Tryd.prog 24 a K w) := by
  exact loadK_eq Tryd.underlying24 rfl a K w

theorem kbx52 (v_0 : Int) (v_1 : Int) (v_2 : Int) (v_3 : ByteArray) (K : Value → World → Prop) (w : World) : BoxK Tryd.prog 52 (.agg #[(.int .i64 v_0), (.int .i64 v_1), (.int .i64 v_2), (.string v_3)]) K w = K (.pointer (some ⟨w.heap.size, 0, none⟩)) (w.alloc (.cells #[(.int .i64 v_0), (.int .i64 v_1), (.int .i64 v_2), (.string v_3)] 52)) := by
  unfold BoxK; (first | (go_simp; rfl) | (go_simp; done))

theorem kfa52_0 (g o : Nat) (K : Value → World → Prop) (w : World) : FieldAtK Tryd.prog 52 (.pointer (some ⟨g, o, none⟩)) 0 K w = K (.pointer (some ⟨g, o, none⟩)) w := by
  unfold FieldAtK; (first | (go_simp; rfl) | (go_simp; done))

theorem kfa52_1 (g o : Nat) (K : Value → World → Prop) (w : World) : FieldAtK Tryd.prog 52 (.pointer (some ⟨g, o, none⟩)) 1 K w = K (.pointer (some ⟨g, o + 1, none⟩)) w := by
  unfold FieldAtK; (first | (go_simp; rfl) | (go_simp; done))

theorem kfa52_2 (g o : Nat) (K : Value → World → Prop) (w : World) : FieldAtK Tryd.prog 52 (.pointer (some ⟨g, o, none⟩)) 2 K w = K (.pointer (some ⟨g, o + 2, none⟩)) w := by
  unfold FieldAtK; (first | (go_simp; rfl) | (go_simp; done))

theorem kbs136_4_0_1_2_3 (v0 : Int) (v1 : Int) (v2 : Int) (v3 : Int) (K : Value → World → Prop) (w : World) : BuildSliceK Tryd.prog 136 4 #[(0, (.int .i64 v0)), (1, (.int .i64 v1)), (2, (.int .i64 v2)), (3, (.int .i64 v3))] K w = K (.slice (some ⟨w.heap.size, 0, none⟩) 4 4) (w.alloc (.cells #[(.int .i64 v0), (.int .i64 v1), (.int .i64 v2), (.int .i64 v3)] 3)) := by
  unfold BuildSliceK; (first | (go_simp; rfl) | (go_simp; done))

theorem kbx55 (v_0 : ByteArray) (v_1_0 : Int) (v_1_1 : Int) (v_1_2 : Int) (v_1_3 : ByteArray) (v_2A : Option Addr) (v_2n v_2c : Nat) (K : Value → World → Prop) (w : World) : BoxK Tryd.prog 55 (.agg #[(.string v_0), (.int .i64 v_1_0), (.int .i64 v_1_1), (.int .i64 v_1_2), (.string v_1_3), (.slice v_2A v_2n v_2c)]) K w = K (.pointer (some ⟨w.heap.size, 0, none⟩)) (w.alloc (.cells #[(.string v_0), (.int .i64 v_1_0), (.int .i64 v_1_1), (.int .i64 v_1_2), (.string v_1_3), (.slice v_2A v_2n v_2c)] 55)) := by
  unfold BoxK; (first | (go_simp; rfl) | (go_simp; done))

theorem kfa55_2 (g o : Nat) (K : Value → World → Prop) (w : World) : FieldAtK Tryd.prog 55 (.pointer (some ⟨g, o, none⟩)) 2 K w = K (.pointer (some ⟨g, o + 5, none⟩)) w := by
  unfold FieldAtK; (first | (go_simp; rfl) | (go_simp; done))

theorem kld53 (a : Addr) (K : Value → World → Prop) (w : World) : LoadK Tryd.prog 53 (.pointer (some a)) K w = OptK (w.cell? a) (@hid _ ⟨fun v => K v w⟩) (LoadRaw Tryd.prog 53 a K w) := by
  exact loadK_eq Tryd.underlying53 rfl a K w

theorem kbx60 (v_0 : Int) (v_1A : Option Addr) (v_1n v_1c : Nat) (K : Value → World → Prop) (w : World) : BoxK Tryd.prog 60 (.agg #[(.int .i64 v_0), (.slice v_1A v_1n v_1c)]) K w = K (.pointer (some ⟨w.heap.size, 0, none⟩)) (w.alloc (.cells #[(.int .i64 v_0), (.slice v_1A v_1n v_1c)] 60)) := by
  unfold BoxK; (first | (go_simp; rfl) | (go_simp; done))

theorem kbx65 (v_0 : ByteArray) (v_1_0 : Int) (v_1_1 : Int) (v_1_2 : Int) (v_1_3 : ByteArray) (v_2A : Option Addr) (v_2n v_2c : Nat) (K : Value → World → Prop) (w : World) : BoxK Tryd.prog 65 (.agg #[(.string v_0), (.int .i64 v_1_0), (.int .i64 v_1_1), (.int .i64 v_1_2), (.string v_1_3), (.slice v_2A v_2n v_2c)]) K w = K (.pointer (some ⟨w.heap.size, 0, none⟩)) (w.alloc (.cells #[(.string v_0), (.int .i64 v_1_0), (.int .i64 v_1_1), (.int .i64 v_1_2), (.string v_1_3), (.slice v_2A v_2n v_2c)] 65)) := by
  unfold BoxK; (first | (go_simp; rfl) | (go_simp; done))

theorem kal65 (K : Value → World → Prop) (w : World) : AllocK Tryd.prog 65 K w = K (.pointer (some ⟨w.heap.size, 0, none⟩)) (w.alloc (.cells #[.string ByteArray.empty, .int .i64 0, .int .i64 0, .int .i64 0, .string ByteArray.empty, .slice none 0 0] 65)) := by
  unfold AllocK; (first | (go_simp; rfl) | (go_simp; done))

theorem kst65f (v_0 : ByteArray) (v_1_0 : Int) (v_1_1 : Int) (v_1_2 : Int) (v_1_3 : ByteArray) (v_2A : Option Addr) (v_2n v_2c : Nat) (z0 z1 z2 z3 z4 z5 : Value) (K : Value → World → Prop) (w : World) : StoreK Tryd.prog 65 (.pointer (some ⟨w.heap.size, 0, none⟩)) (.agg #[(.string v_0), (.int .i64 v_1_0), (.int .i64 v_1_1), (.int .i64 v_1_2), (.string v_1_3), (.slice v_2A v_2n v_2c)]) K (w.alloc (.cells #[z0, z1, z2, z3, z4, z5] 65)) = K undef (w.alloc (.cells #[(.string v_0), (.int .i64 v_1_0), (.int .i64 v_1_1), (.int .i64 v_1_2), (.string v_1_3), (.slice v_2A v_2n v_2c)] 65)) := by
  unfold StoreK; (first | (go_simp; rfl) | (go_simp; done))

theorem kfa60_0 (g o : Nat) (K : Value → World → Prop) (w : World) : FieldAtK Tryd.prog 60 (.pointer (some ⟨g, o, none⟩)) 0 K w = K (.pointer (some ⟨g, o, none⟩)) w := by
  unfold FieldAtK; (first | (go_simp; rfl) | (go_simp; done))

theorem kld3 (a : Addr) (K : Value → World → Prop) (w : World) : LoadK Tryd.prog 3 (.pointer (some a)) K w = OptK (w.cell? a) (@hid _ ⟨fun v => K v w⟩) (LoadRaw Tryd.prog 3 a K w) := by
  exact loadK_eq Tryd.underlying3 rfl a K w

theorem kbs33_0  (K : Value → World → Prop) (w : World) : BuildSliceK Tryd.prog 33 0 #[] K w = K (.slice (some ⟨w.heap.size, 0, none⟩) 0 0) (w.alloc (.cells #[] 65)) := by
  unfold BuildSliceK; (first | (go_simp; rfl) | (go_simp; done))

theorem ksl33_010z (K : Value → World → Prop) (w : World) : SliceK Tryd.prog 33 (.slice none 0 0) none (some (.int .i64 0)) none K w = K (.slice none 0 0) w := by
  unfold SliceK; (first | (go_simp; rfl) | (go_simp; done) | (go_simp; split <;> simp_all))

theorem ksl33_010 (g o n c : Nat) (h : Int) (hb : 0 ≤ h ∧ h ≤ (c : Int)) (K : Value → World → Prop) (w : World) : SliceK Tryd.prog 33 (.slice (some ⟨g, o, none⟩) n c) none (some (.int .i64 h)) none K w = K (.slice (some ⟨g, o, none⟩) h.toNat c) w := by
  obtain ⟨q0, q1⟩ := hb
  unfold SliceK; (first | (go_simp; rfl) | (go_simp; done) | (go_simp; split <;> simp_all))

theorem ksl33_100z (K : Value → World → Prop) (w : World) : SliceK Tryd.prog 33 (.slice none 0 0) (some (.int .i64 0)) none none K w = K (.slice none 0 0) w := by
  unfold SliceK; (first | (go_simp; rfl) | (go_simp; done) | (go_simp; split <;> simp_all))

theorem ksl33_100 (g o n c : Nat) (l : Int) (hb : 0 ≤ l ∧ l ≤ (n : Int)) (K : Value → World → Prop) (w : World) : SliceK Tryd.prog 33 (.slice (some ⟨g, o, none⟩) n c) (some (.int .i64 l)) none none K w = K (.slice (if c = l.toNat then some ⟨g, o, none⟩ else some ⟨g, o + l.toNat * 6, none⟩) (n - l.toNat) (c - l.toNat)) w := by
  obtain ⟨q0, q1⟩ := hb
  unfold SliceK; (first | (go_simp; rfl) | (go_simp; done) | (go_simp; split <;> simp_all))

theorem kst33 (g o : Nat) (vA : Option Addr) (vn vc : Nat) (K : Value → World → Prop) (w : World) : StoreK Tryd.prog 33 (.pointer (some ⟨g, o, none⟩)) (.slice vA vn vc) K w = OptK (w.cell? ⟨g, o, none⟩) (@hid _ ⟨fun _ => FzK (w.frozen? ⟨g, o, none⟩) (@hid _ ⟨K undef (w.setCell ⟨g, o, none⟩ (.slice vA vn vc))⟩) (StoreRaw Tryd.prog 33 ⟨g, o, none⟩ (.slice vA vn vc) K w)⟩) (StoreRaw Tryd.prog 33 ⟨g, o, none⟩ (.slice vA vn vc) K w) := by
  cases h0 : w.cell? ⟨g, o, none⟩ with
  | none => rfl
  | some x =>
  cases f0 : w.frozen? ⟨g, o, none⟩ with
  | true => rfl
  | false =>
  simp only [optK_some, fzK_false]
  unfold StoreK; (first | (go_simp; rfl) | (go_simp; done))

theorem kbd55_0 (v0 : ByteArray) (K : Value → World → Prop) (w : World) : BuildK Tryd.prog 55 #[(0, (.string v0))] K w = K (.agg #[(.string v0), .int .i64 0, .int .i64 0, .int .i64 0, .string ByteArray.empty, .slice none 0 0]) w := by
  unfold BuildK; (first | (go_simp; rfl) | (go_simp; done))

theorem ksl22_100z (K : Value → World → Prop) (w : World) : SliceK Tryd.prog 22 (.slice none 0 0) (some (.int .i64 0)) none none K w = K (.slice none 0 0) w := by
  unfold SliceK; (first | (go_simp; rfl) | (go_simp; done) | (go_simp; split <;> simp_all))

theorem ksl22_100 (g o n c : Nat) (l : Int) (hb : 0 ≤ l ∧ l ≤ (n : Int)) (K : Value → World → Prop) (w : World) : SliceK Tryd.prog 22 (.slice (some ⟨g, o, none⟩) n c) (some (.int .i64 l)) none none K w = K (.slice (if c = l.toNat then some ⟨g, o, none⟩ else some ⟨g, o + l.toNat * 6, none⟩) (n - l.toNat) (c - l.toNat)) w := by
  obtain ⟨q0, q1⟩ := hb
  unfold SliceK; (first | (go_simp; rfl) | (go_simp; done) | (go_simp; split <;> simp_all))

theorem kbs68_1_0 (v0_0 : ByteArray) (v0_1 : ByteArray) (v0_2 : Int) (K : Value → World → Prop) (w : World) : BuildSliceK Tryd.prog 68 1 #[(0, .agg #[(.string v0_0), (.string v0_1), (.int .i64 v0_2)])] K w = K (.slice (some ⟨w.heap.size, 0, none⟩) 1 1) (w.alloc (.cells #[(.string v0_0), (.string v0_1), (.int .i64 v0_2)] 73)) := by
  unfold BuildSliceK; (first | (go_simp; rfl) | (go_simp; done))

theorem kfa65_2 (g o : Nat) (K : Value → World → Prop) (w : World) : FieldAtK Tryd.prog 65 (.pointer (some ⟨g, o, none⟩)) 2 K w = K (.pointer (some ⟨g, o + 5, none⟩)) w := by
  unfold FieldAtK; (first | (go_simp; rfl) | (go_simp; done))

theorem kld63 (a : Addr) (K : Value → World → Prop) (w : World) : LoadK Tryd.prog 63 (.pointer (some a)) K w = OptK (w.cell? a) (@hid _ ⟨fun v => K v w⟩) (LoadRaw Tryd.prog 63 a K w) := by
  exact loadK_eq Tryd.underlying63 rfl a K w

theorem kal121 (K : Value → World → Prop) (w : World) : AllocK Tryd.prog 121 K w = K (.pointer (some ⟨w.heap.size, 0, none⟩)) (w.alloc (.cells #[.int .i64 0, .int .i64 0, .string ByteArray.empty, .slice none 0 0] 121)) := by
  unfold AllocK; (first | (go_simp; rfl) | (go_simp; done))

theorem kst121f (v_0 : Int) (v_1 : Int) (v_2 : ByteArray) (v_3A : Option Addr) (v_3n v_3c : Nat) (z0 z1 z2 z3 : Value) (K : Value → World → Prop) (w : World) : StoreK Tryd.prog 121 (.pointer (some ⟨w.heap.size, 0, none⟩)) (.agg #[(.int .i64 v_0), (.int .i64 v_1), (.string v_2), (.slice v_3A v_3n v_3c)]) K (w.alloc (.cells #[z0, z1, z2, z3] 121)) = K undef (w.alloc (.cells #[(.int .i64 v_0), (.int .i64 v_1), (.string v_2), (.slice v_3A v_3n v_3c)] 121)) := by
  unfold StoreK; (first | (go_simp; rfl) | (go_simp; done))

theorem kfa121_0 (g o : Nat) (K : Value → World → Prop) (w : World) : FieldAtK Tryd.prog 121 (.pointer (some ⟨g, o, none⟩)) 0 K w = K (.pointer (some ⟨g, o, none⟩)) w := by
  unfold FieldAtK; (first | (go_simp; rfl) | (go_simp; done))

theorem kfa121_2 (g o : Nat) (K : Value → World → Prop) (w : World) : FieldAtK Tryd.prog 121 (.pointer (some ⟨g, o, none⟩)) 2 K w = K (.pointer (some ⟨g, o + 2, none⟩)) w := by
  unfold FieldAtK; (first | (go_simp; rfl) | (go_simp; done))

theorem kbd76_0_1 (v0 : ByteArray) (v1 : ByteArray) (K : Value → World → Prop) (w : World) : BuildK Tryd.prog 76 #[(0, (.string v0)), (1, (.string v1))] K w = K (.agg #[(.string v0), (.string v1), .int .i64 0]) w := by
  unfold BuildK; (first | (go_simp; rfl) | (go_simp; done))

theorem kfa121_1 (g o : Nat) (K : Value → World → Prop) (w : World) : FieldAtK Tryd.prog 121 (.pointer (some ⟨g, o, none⟩)) 1 K w = K (.pointer (some ⟨g, o + 1, none⟩)) w := by
  unfold FieldAtK; (first | (go_simp; rfl) | (go_simp; done))

theorem kst2 (g o : Nat) (v : Int) (K : Value → World → Prop) (w : World) : StoreK Tryd.prog 2 (.pointer (some ⟨g, o, none⟩)) (.int .i64 v) K w = OptK (w.cell? ⟨g, o, none⟩) (@hid _ ⟨fun _ => FzK (w.frozen? ⟨g, o, none⟩) (@hid _ ⟨K undef (w.setCell ⟨g, o, none⟩ (.int .i64 v))⟩) (StoreRaw Tryd.prog 2 ⟨g, o, none⟩ (.int .i64 v) K w)⟩) (StoreRaw Tryd.prog 2 ⟨g, o, none⟩ (.int .i64 v) K w) := by
  cases h0 : w.cell? ⟨g, o, none⟩ with
  | none => rfl
  | some x =>
  cases f0 : w.frozen? ⟨g, o, none⟩ with
  | true => rfl
  | false =>
  simp only [optK_some, fzK_false]
  unfold StoreK; (first | (go_simp; rfl) | (go_simp; done))

theorem kld76 (g o : Nat) (K : Value → World → Prop) (w : World) : LoadK Tryd.prog 76 (.pointer (some ⟨g, o, none⟩)) K w = OptK (w.cell? ⟨g, o, none⟩) (@hid _ ⟨fun v0 => OptK (w.cell? ⟨g, o + 1, none⟩) (@hid _ ⟨fun v1 => OptK (w.cell? ⟨g, o + 2, none⟩) (@hid _ ⟨fun v2 => K (.agg #[v0, v1, v2]) w⟩) (LoadRaw Tryd.prog 76 ⟨g, o, none⟩ K w)⟩) (LoadRaw Tryd.prog 76 ⟨g, o, none⟩ K w)⟩) (LoadRaw Tryd.prog 76 ⟨g, o, none⟩ K w) := by
  cases h0 : w.cell? ⟨g, o, none⟩ with
  | none => rfl
  | some v0 =>
  cases h1 : w.cell? ⟨g, o + 1, none⟩ with
  | none => rfl
  | some v1 =>
  cases h2 : w.cell? ⟨g, o + 2, none⟩ with
  | none => rfl
  | some v2 =>
  simp only [optK_some]
  unfold LoadK; (first | (go_simp; rfl) | (go_simp; done))

theorem kbs70_0  (K : Value → World → Prop) (w : World) : BuildSliceK Tryd.prog 70 0 #[] K w = K (.slice (some ⟨w.heap.size, 0, none⟩) 0 0) (w.alloc (.cells #[] 76)) := by
  unfold BuildSliceK; (first | (go_simp; rfl) | (go_simp; done))

theorem ksl70_010z (K : Value → World → Prop) (w : World) : SliceK Tryd.prog 70 (.slice none 0 0) none (some (.int .i64 0)) none K w = K (.slice none 0 0) w := by
  unfold SliceK; (first | (go_simp; rfl) | (go_simp; done) | (go_simp; split <;> simp_all))

theorem ksl70_010 (g o n c : Nat) (h : Int) (hb : 0 ≤ h ∧ h ≤ (c : Int)) (K : Value → World → Prop) (w : World) : SliceK Tryd.prog 70 (.slice (some ⟨g, o, none⟩) n c) none (some (.int .i64 h)) none K w = K (.slice (some ⟨g, o, none⟩) h.toNat c) w := by
  obtain ⟨q0, q1⟩ := hb
  unfold SliceK; (first | (go_simp; rfl) | (go_simp; done) | (go_simp; split <;> simp_all))

theorem kbs70_1_0 (v0_0 : ByteArray) (v0_1 : ByteArray) (v0_2 : Int) (K : Value → World → Prop) (w : World) : BuildSliceK Tryd.prog 70 1 #[(0, .agg #[(.string v0_0), (.string v0_1), (.int .i64 v0_2)])] K w = K (.slice (some ⟨w.heap.size, 0, none⟩) 1 1) (w.alloc (.cells #[(.string v0_0), (.string v0_1), (.int .i64 v0_2)] 76)) := by
  unfold BuildSliceK; (first | (go_simp; rfl) | (go_simp; done))

theorem ksl70_100z (K : Value → World → Prop) (w : World) : SliceK Tryd.prog 70 (.slice none 0 0) (some (.int .i64 0)) none none K w = K (.slice none 0 0) w := by
  unfold SliceK; (first | (go_simp; rfl) | (go_simp; done) | (go_simp; split <;> simp_all))

theorem ksl70_100 (g o n c : Nat) (l : Int) (hb : 0 ≤ l ∧ l ≤ (n : Int)) (K : Value → World → Prop) (w : World) : SliceK Tryd.prog 70 (.slice (some ⟨g, o, none⟩) n c) (some (.int .i64 l)) none none K w = K (.slice (if c = l.toNat then some ⟨g, o, none⟩ else some ⟨g, o + l.toNat * 3, none⟩) (n - l.toNat) (c - l.toNat)) w := by
  obtain ⟨q0, q1⟩ := hb
  unfold SliceK; (first | (go_simp; rfl) | (go_simp; done) | (go_simp; split <;> simp_all))

theorem kbd76_  (K : Value → World → Prop) (w : World) : BuildK Tryd.prog 76 #[] K w = K (.agg #[.string ByteArray.empty, .string ByteArray.empty, .int .i64 0]) w := by
  unfold BuildK; (first | (go_simp; rfl) | (go_simp; done))

theorem kbd126_0_1 (v0 : Int) (v1 : Int) (K : Value → World → Prop) (w : World) : BuildK Tryd.prog 126 #[(0, (.int .i64 v0)), (1, (.int .i64 v1))] K w = K (.agg #[(.int .i64 v0), (.int .i64 v1), .string ByteArray.empty, .slice none 0 0]) w := by
  unfold BuildK; (first | (go_simp; rfl) | (go_simp; done))

theorem kbd128_0_1 (v0 : ByteArray) (v1_0 : Int) (v1_1 : Int) (v1_2 : ByteArray) (v1_3A : Option Addr) (v1_3n v1_3c : Nat) (K : Value → World → Prop) (w : World) : BuildK Tryd.prog 128 #[(0, (.string v0)), (1, .agg #[(.int .i64 v1_0), (.int .i64 v1_1), (.string v1_2), (.slice v1_3A v1_3n v1_3c)])] K w = K (.agg #[(.string v0), (.int .i64 v1_0), (.int .i64 v1_1), (.string v1_2), (.slice v1_3A v1_3n v1_3c)]) w := by
  unfold BuildK; (first | (go_simp; rfl) | (go_simp; done))

theorem kbd126_0_2 (v0 : Int) (v2 : ByteArray) (K : Value → World → Prop) (w : World) : BuildK Tryd.prog 126 #[(0, (.int .i64 v0)), (2, (.string v2))] K w = K (.agg #[(.int .i64 v0), .int .i64 0, (.string v2), .slice none 0 0]) w := by
  unfold BuildK; (first | (go_simp; rfl) | (go_simp; done))

theorem kbs53_2_0_1 (v0_0 : ByteArray) (v0_1_0 : Int) (v0_1_1 : Int) (v0_1_2 : ByteArray) (v0_1_3A : Option Addr) (v0_1_3n v0_1_3c : Nat) (v1_0 : ByteArray) (v1_1_0 : Int) (v1_1_1 : Int) (v1_1_2 : ByteArray) (v1_1_3A : Option Addr) (v1_1_3n v1_1_3c : Nat) (K : Value → World → Prop) (w : World) : BuildSliceK Tryd.prog 53 2 #[(0, .agg #[(.string v0_0), (.int .i64 v0_1_0), (.int .i64 v0_1_1), (.string v0_1_2), (.slice v0_1_3A v0_1_3n v0_1_3c)]), (1, .agg #[(.string v1_0), (.int .i64 v1_1_0), (.int .i64 v1_1_1), (.string v1_1_2), (.slice v1_1_3A v1_1_3n v1_1_3c)])] K w = K (.slice (some ⟨w.heap.size, 0, none⟩) 2 2) (w.alloc (.cells #[(.string v0_0), (.int .i64 v0_1_0), (.int .i64 v0_1_1), (.string v0_1_2), (.slice v0_1_3A v0_1_3n v0_1_3c), (.string v1_0), (.int .i64 v1_1_0), (.int .i64 v1_1_1), (.string v1_1_2), (.slice v1_1_3A v1_1_3n v1_1_3c)] 128)) := by
  unfold BuildSliceK; (first | (go_simp; rfl) | (go_simp; done))

theorem kbd55_0_2 (v0 : ByteArray) (v2A : Option Addr) (v2n v2c : Nat) (K : Value → World → Prop) (w : World) : BuildK Tryd.prog 55 #[(0, (.string v0)), (2, (.slice v2A v2n v2c))] K w = K (.agg #[(.string v0), .int .i64 0, .int .i64 0, .int .i64 0, .string ByteArray.empty, (.slice v2A v2n v2c)]) w := by
  unfold BuildK; (first | (go_simp; rfl) | (go_simp; done))

theorem kbx38 (v_0 : Int) (v_1 : Int) (v_2 : Int) (v_3 : ByteArray) (K : Value → World → Prop) (w : World) : BoxK Tryd.prog 38 (.agg #[(.int .i64 v_0), (.int .i64 v_1), (.int .i64 v_2), (.string v_3)]) K w = K (.pointer (some ⟨w.heap.size, 0, none⟩)) (w.alloc (.cells #[(.int .i64 v_0), (.int .i64 v_1), (.int .i64 v_2), (.string v_3)] 38)) := by
  unfold BoxK; (first | (go_simp; rfl) | (go_simp; done))

theorem kfa38_0 (g o : Nat) (K : Value → World → Prop) (w : World) : FieldAtK Tryd.prog 38 (.pointer (some ⟨g, o, none⟩)) 0 K w = K (.pointer (some ⟨g, o, none⟩)) w := by
  unfold FieldAtK; (first | (go_simp; rfl) | (go_simp; done))

theorem kfa38_1 (g o : Nat) (K : Value → World → Prop) (w : World) : FieldAtK Tryd.prog 38 (.pointer (some ⟨g, o, none⟩)) 1 K w = K (.pointer (some ⟨g, o + 1, none⟩)) w := by
  unfold FieldAtK; (first | (go_simp; rfl) | (go_simp; done))

theorem kfa38_2 (g o : Nat) (K : Value → World → Prop) (w : World) : FieldAtK Tryd.prog 38 (.pointer (some ⟨g, o, none⟩)) 2 K w = K (.pointer (some ⟨g, o + 2, none⟩)) w := by
  unfold FieldAtK; (first | (go_simp; rfl) | (go_simp; done))

theorem kfa38_3 (g o : Nat) (K : Value → World → Prop) (w : World) : FieldAtK Tryd.prog 38 (.pointer (some ⟨g, o, none⟩)) 3 K w = K (.pointer (some ⟨g, o + 3, none⟩)) w := by
  unfold FieldAtK; (first | (go_simp; rfl) | (go_simp; done))

theorem kblss5 (x y : Int) (K : Value → World → Prop) (w : World) : BinK Tryd.prog .lss 5 (.int .u8 x) (.int .u8 y) K w = K (.bool (decide (x < y))) w := by
  unfold BinK; (first | (go_simp; rfl) | (go_simp; done))

theorem kbgtr5 (x y : Int) (K : Value → World → Prop) (w : World) : BinK Tryd.prog .gtr 5 (.int .u8 x) (.int .u8 y) K w = K (.bool (decide (y < x))) w := by
  unfold BinK; (first | (go_simp; rfl) | (go_simp; done))

theorem kal38 (K : Value → World → Prop) (w : World) : AllocK Tryd.prog 38 K w = K (.pointer (some ⟨w.heap.size, 0, none⟩)) (w.alloc (.cells #[.int .i64 0, .int .i64 0, .int .i64 0, .string ByteArray.empty] 38)) := by
  unfold AllocK; (first | (go_simp; rfl) | (go_simp; done))

theorem kbd38_0_1_2_3 (v0 : Int) (v1 : Int) (v2 : Int) (v3 : ByteArray) (K : Value → World → Prop) (w : World) : BuildK Tryd.prog 38 #[(0, (.int .i64 v0)), (1, (.int .i64 v1)), (2, (.int .i64 v2)), (3, (.string v3))] K w = K (.agg #[(.int .i64 v0), (.int .i64 v1), (.int .i64 v2), (.string v3)]) w := by
  unfold BuildK; (first | (go_simp; rfl) | (go_simp; done))

theorem kst38f (v_0 : Int) (v_1 : Int) (v_2 : Int) (v_3 : ByteArray) (z0 z1 z2 z3 : Value) (K : Value → World → Prop) (w : World) : StoreK Tryd.prog 38 (.pointer (some ⟨w.heap.size, 0, none⟩)) (.agg #[(.int .i64 v_0), (.int .i64 v_1), (.int .i64 v_2), (.string v_3)]) K (w.alloc (.cells #[z0, z1, z2, z3] 38)) = K undef (w.alloc (.cells #[(.int .i64 v_0), (.int .i64 v_1), (.int .i64 v_2), (.string v_3)] 38)) := by
  unfold StoreK; (first | (go_simp; rfl) | (go_simp; done))

theorem kblss9 (x y : ByteArray) (K : Value → World → Prop) (w : World) : BinK Tryd.prog .lss 9 (.string x) (.string y) K w = K (.bool (Op.bytesLess x.toList y.toList)) w := by
  unfold BinK; (first | (go_simp; rfl) | (go_simp; done))

theorem kbgtr9 (x y : ByteArray) (K : Value → World → Prop) (w : World) : BinK Tryd.prog .gtr 9 (.string x) (.string y) K w = K (.bool (!(Op.bytesLess x.toList y.toList || x.toList == y.toList))) w := by
  unfold BinK; (first | (go_simp; rfl) | (go_simp; done))

theorem klen63 (A : Option Addr) (n c : Nat) (K : Value → World → Prop) (w : World) : BuiltinK Tryd.prog .len #[63] 3 #[false] #[(.slice A n c)] K w = K (.int .i64 (n : Int)) w := by
  unfold BuiltinK; (first | (go_simp; rfl) | (go_simp; done))

theorem hlen63 (A : Option Addr) (n c : Nat) {K : Value → Prop} {w1 : World} : TakeO Tryd.prog (fun w' => w' = w1) (builtin .len #[63] 3 #[false] #[(.slice A n c)]) K = K (.int .i64 (n : Int)) := by
  exact here_o (fun w => by (first | (go_simp; rfl) | (go_simp; done)))

theorem kia63 (g o n c : Nat) (i : Int) (h : 0 ≤ i ∧ i < (n : Int)) (K : Value → World → Prop) (w : World) : IndexAtK Tryd.prog 63 (.slice (some ⟨g, o, none⟩) n c) (.int .i64 i) K w = K (.pointer (some ⟨g, o + i.toNat * 5, none⟩)) w := by
  obtain ⟨h0, h1⟩ := h
  unfold IndexAtK; (first | (go_simp; rfl) | (go_simp; done))

theorem kfa133_1 (g o : Nat) (K : Value → World → Prop) (w : World) : FieldAtK Tryd.prog 133 (.pointer (some ⟨g, o, none⟩)) 1 K w = K (.pointer (some ⟨g, o + 1, none⟩)) w := by
  unfold FieldAtK; (first | (go_simp; rfl) | (go_simp; done))

theorem kld121 (g o : Nat) (K : Value → World → Prop) (w : World) : LoadK Tryd.prog 121 (.pointer (some ⟨g, o, none⟩)) K w = OptK (w.cell? ⟨g, o, none⟩) (@hid _ ⟨fun v0 => OptK (w.cell? ⟨g, o + 1, none⟩) (@hid _ ⟨fun v1 => OptK (w.cell? ⟨g, o + 2, none⟩) (@hid _ ⟨fun v2 => OptK (w.cell? ⟨g, o + 3, none⟩) (@hid _ ⟨fun v3 => K (.agg #[v0, v1, v2, v3]) w⟩) (LoadRaw Tryd.prog 121 ⟨g, o, none⟩ K w)⟩) (LoadRaw Tryd.prog 121 ⟨g, o, none⟩ K w)⟩) (LoadRaw Tryd.prog 121 ⟨g, o, none⟩ K w)⟩) (LoadRaw Tryd.prog 121 ⟨g, o, none⟩ K w) := by
  cases h0 : w.cell? ⟨g, o, none⟩ with
  | none => rfl
  | some v0 =>
  cases h1 : w.cell? ⟨g, o + 1, none⟩ with
  | none => rfl
  | some v1 =>
  cases h2 : w.cell? ⟨g, o + 2, none⟩ with
  | none => rfl
  | some v2 =>
  cases h3 : w.cell? ⟨g, o + 3, none⟩ with
  | none => rfl
  | some v3 =>
  simp only [optK_some]
  unfold LoadK; (first | (go_simp; rfl) | (go_simp; done))

theorem kfa133_0 (g o : Nat) (K : Value → World → Prop) (w : World) : FieldAtK Tryd.prog 133 (.pointer (some ⟨g, o, none⟩)) 0 K w = K (.pointer (some ⟨g, o, none⟩)) w := by
  unfold FieldAtK; (first | (go_simp; rfl) | (go_simp; done))

theorem kbd65_0_1_2 (v0 : ByteArray) (v1_0 : Int) (v1_1 : Int) (v1_2 : Int) (v1_3 : ByteArray) (v2A : Option Addr) (v2n v2c : Nat) (K : Value → World → Prop) (w : World) : BuildK Tryd.prog 65 #[(0, (.string v0)), (1, .agg #[(.int .i64 v1_0), (.int .i64 v1_1), (.int .i64 v1_2), (.string v1_3)]), (2, (.slice v2A v2n v2c))] K w = K (.agg #[(.string v0), (.int .i64 v1_0), (.int .i64 v1_1), (.int .i64 v1_2), (.string v1_3), (.slice v2A v2n v2c)]) w := by
  unfold BuildK; (first | (go_simp; rfl) | (go_simp; done))

theorem ksl23_011 (g o n c : Nat) (h m : Int) (hb : 0 ≤ h ∧ h ≤ m ∧ m ≤ (c : Int)) (K : Value → World → Prop) (w : World) : SliceK Tryd.prog 23 (.slice (some ⟨g, o, none⟩) n c) none (some (.int .i64 h)) (some (.int .i64 m)) K w = K (.slice (some ⟨g, o, none⟩) h.toNat m.toNat) w := by
  obtain ⟨q0, q1, q2⟩ := hb
  unfold SliceK; (first | (go_simp; rfl) | (go_simp; done) | (go_simp; split <;> simp_all))

theorem ksl23_011z (K : Value → World → Prop) (w : World) : SliceK Tryd.prog 23 (.slice none 0 0) none (some (.int .i64 0)) (some (.int .i64 0)) K w = K (.slice none 0 0) w := by
  unfold SliceK; (first | (go_simp; rfl) | (go_simp; done) | (go_simp; split <;> simp_all))

theorem kbx85 (v_0 : ByteArray) (v_1_0 : Int) (v_1_1 : Int) (v_1_2 : Int) (v_1_3 : ByteArray) (K : Value → World → Prop) (w : World) : BoxK Tryd.prog 85 (.agg #[(.string v_0), (.int .i64 v_1_0), (.int .i64 v_1_1), (.int .i64 v_1_2), (.string v_1_3)]) K w = K (.pointer (some ⟨w.heap.size, 0, none⟩)) (w.alloc (.cells #[(.string v_0), (.int .i64 v_1_0), (.int .i64 v_1_1), (.int .i64 v_1_2), (.string v_1_3)] 85)) := by
  unfold BoxK; (first | (go_simp; rfl) | (go_simp; done))

theorem kst22 (g o : Nat) (vA : Option Addr) (vn vc : Nat) (K : Value → World → Prop) (w : World) : StoreK Tryd.prog 22 (.pointer (some ⟨g, o, none⟩)) (.slice vA vn vc) K w = OptK (w.cell? ⟨g, o, none⟩) (@hid _ ⟨fun _ => FzK (w.frozen? ⟨g, o, none⟩) (@hid _ ⟨K undef (w.setCell ⟨g, o, none⟩ (.slice vA vn vc))⟩) (StoreRaw Tryd.prog 22 ⟨g, o, none⟩ (.slice vA vn vc) K w)⟩) (StoreRaw Tryd.prog 22 ⟨g, o, none⟩ (.slice vA vn vc) K w) := by
  cases h0 : w.cell? ⟨g, o, none⟩ with
  | none => rfl
  | some x =>
  cases f0 : w.frozen? ⟨g, o, none⟩ with
  | true => rfl
  | false =>
  simp only [optK_some, fzK_false]
  unfold StoreK; (first | (go_simp; rfl) | (go_simp; done))

theorem kst53 (g o : Nat) (vA : Option Addr) (vn vc : Nat) (K : Value → World → Prop) (w : World) : StoreK Tryd.prog 53 (.pointer (some ⟨g, o, none⟩)) (.slice vA vn vc) K w = OptK (w.cell? ⟨g, o, none⟩) (@hid _ ⟨fun _ => FzK (w.frozen? ⟨g, o, none⟩) (@hid _ ⟨K undef (w.setCell ⟨g, o, none⟩ (.slice vA vn vc))⟩) (StoreRaw Tryd.prog 53 ⟨g, o, none⟩ (.slice vA vn vc) K w)⟩) (StoreRaw Tryd.prog 53 ⟨g, o, none⟩ (.slice vA vn vc) K w) := by
  cases h0 : w.cell? ⟨g, o, none⟩ with
  | none => rfl
  | some x =>
  cases f0 : w.frozen? ⟨g, o, none⟩ with
  | true => rfl
  | false =>
  simp only [optK_some, fzK_false]
  unfold StoreK; (first | (go_simp; rfl) | (go_simp; done))

theorem ksl22_011 (g o n c : Nat) (h m : Int) (hb : 0 ≤ h ∧ h ≤ m ∧ m ≤ (c : Int)) (K : Value → World → Prop) (w : World) : SliceK Tryd.prog 22 (.slice (some ⟨g, o, none⟩) n c) none (some (.int .i64 h)) (some (.int .i64 m)) K w = K (.slice (some ⟨g, o, none⟩) h.toNat m.toNat) w := by
  obtain ⟨q0, q1, q2⟩ := hb
  unfold SliceK; (first | (go_simp; rfl) | (go_simp; done) | (go_simp; split <;> simp_all))

theorem ksl22_011z (K : Value → World → Prop) (w : World) : SliceK Tryd.prog 22 (.slice none 0 0) none (some (.int .i64 0)) (some (.int .i64 0)) K w = K (.slice none 0 0) w := by
  unfold SliceK; (first | (go_simp; rfl) | (go_simp; done) | (go_simp; split <;> simp_all))

theorem kia136 (g o n c : Nat) (i : Int) (h : 0 ≤ i ∧ i < (n : Int)) (K : Value → World → Prop) (w : World) : IndexAtK Tryd.prog 136 (.slice (some ⟨g, o, none⟩) n c) (.int .i64 i) K w = K (.pointer (some ⟨g, o + i.toNat, none⟩)) w := by
  obtain ⟨h0, h1⟩ := h
  unfold IndexAtK; (first | (go_simp; rfl) | (go_simp; done))

theorem kst24 (g o : Nat) (vA : Option Addr) (vn vc : Nat) (K : Value → World → Prop) (w : World) : StoreK Tryd.prog 24 (.pointer (some ⟨g, o, none⟩)) (.slice vA vn vc) K w = OptK (w.cell? ⟨g, o, none⟩) (@hid _ ⟨fun _ => FzK (w.frozen? ⟨g, o, none⟩) (@hid _ ⟨K undef (w.setCell ⟨g, o, none⟩ (.slice vA vn vc))⟩) (StoreRaw Tryd.prog 24 ⟨g, o, none⟩ (.slice vA vn vc) K w)⟩) (StoreRaw Tryd.prog 24 ⟨g, o, none⟩ (.slice vA vn vc) K w) := by
  cases h0 : w.cell? ⟨g, o, none⟩ with
  | none => rfl
  | some x =>
  cases f0 : w.frozen? ⟨g, o, none⟩ with
  | true => rfl
  | false =>
  simp only [optK_some, fzK_false]
  unfold StoreK; (first | (go_simp; rfl) | (go_simp; done))

theorem ksl24_011 (g o n c : Nat) (h m : Int) (hb : 0 ≤ h ∧ h ≤ m ∧ m ≤ (c : Int)) (K : Value → World → Prop) (w : World) : SliceK Tryd.prog 24 (.slice (some ⟨g, o, none⟩) n c) none (some (.int .i64 h)) (some (.int .i64 m)) K w = K (.slice (some ⟨g, o, none⟩) h.toNat m.toNat) w := by
  obtain ⟨q0, q1, q2⟩ := hb
  unfold SliceK; (first | (go_simp; rfl) | (go_simp; done) | (go_simp; split <;> simp_all))

theorem ksl24_011z (K : Value → World → Prop) (w : World) : SliceK Tryd.prog 24 (.slice none 0 0) none (some (.int .i64 0)) (some (.int .i64 0)) K w = K (.slice none 0 0) w := by
  unfold SliceK; (first | (go_simp; rfl) | (go_simp; done) | (go_simp; split <;> simp_all))

theorem klen136 (A : Option Addr) (n c : Nat) (K : Value → World → Prop) (w : World) : BuiltinK Tryd.prog .len #[136] 3 #[false] #[(.slice A n c)] K w = K (.int .i64 (n : Int)) w := by
  unfold BuiltinK; (first | (go_simp; rfl) | (go_simp; done))

theorem hlen136 (A : Option Addr) (n c : Nat) {K : Value → Prop} {w1 : World} : TakeO Tryd.prog (fun w' => w' = w1) (builtin .len #[136] 3 #[false] #[(.slice A n c)]) K = K (.int .i64 (n : Int)) := by
  exact here_o (fun w => by (first | (go_simp; rfl) | (go_simp; done)))

theorem kblss2 (x y : Int) (K : Value → World → Prop) (w : World) : BinK Tryd.prog .lss 2 (.int .i64 x) (.int .i64 y) K w = K (.bool (decide (x < y))) w := by
  unfold BinK; (first | (go_simp; rfl) | (go_simp; done))

theorem kbd65_  (K : Value → World → Prop) (w : World) : BuildK Tryd.prog 65 #[] K w = K (.agg #[.string ByteArray.empty, .int .i64 0, .int .i64 0, .int .i64 0, .string ByteArray.empty, .slice none 0 0]) w := by
  unfold BuildK; (first | (go_simp; rfl) | (go_simp; done))

theorem kbd60_0 (v0 : Int) (K : Value → World → Prop) (w : World) : BuildK Tryd.prog 60 #[(0, (.int .i64 v0))] K w = K (.agg #[(.int .i64 v0), .slice none 0 0]) w := by
  unfold BuildK; (first | (go_simp; rfl) | (go_simp; done))

theorem kal126 (K : Value → World → Prop) (w : World) : AllocK Tryd.prog 126 K w = K (.pointer (some ⟨w.heap.size, 0, none⟩)) (w.alloc (.cells #[.int .i64 0, .int .i64 0, .string ByteArray.empty, .slice none 0 0] 126)) := by
  unfold AllocK; (first | (go_simp; rfl) | (go_simp; done))

theorem kst126f (v_0 : Int) (v_1 : Int) (v_2 : ByteArray) (v_3A : Option Addr) (v_3n v_3c : Nat) (z0 z1 z2 z3 : Value) (K : Value → World → Prop) (w : World) : StoreK Tryd.prog 126 (.pointer (some ⟨w.heap.size, 0, none⟩)) (.agg #[(.int .i64 v_0), (.int .i64 v_1), (.string v_2), (.slice v_3A v_3n v_3c)]) K (w.alloc (.cells #[z0, z1, z2, z3] 126)) = K undef (w.alloc (.cells #[(.int .i64 v_0), (.int .i64 v_1), (.string v_2), (.slice v_3A v_3n v_3c)] 126)) := by
  unfold StoreK; (first | (go_simp; rfl) | (go_simp; done))

theorem kfa126_0 (g o : Nat) (K : Value → World → Prop) (w : World) : FieldAtK Tryd.prog 126 (.pointer (some ⟨g, o, none⟩)) 0 K w = K (.pointer (some ⟨g, o, none⟩)) w := by
  unfold FieldAtK; (first | (go_simp; rfl) | (go_simp; done))

theorem kfa126_2 (g o : Nat) (K : Value → World → Prop) (w : World) : FieldAtK Tryd.prog 126 (.pointer (some ⟨g, o, none⟩)) 2 K w = K (.pointer (some ⟨g, o + 2, none⟩)) w := by
  unfold FieldAtK; (first | (go_simp; rfl) | (go_simp; done))

theorem kbd73_  (K : Value → World → Prop) (w : World) : BuildK Tryd.prog 73 #[] K w = K (.agg #[.string ByteArray.empty, .string ByteArray.empty, .int .i64 0]) w := by
  unfold BuildK; (first | (go_simp; rfl) | (go_simp; done))

theorem kbd73_0_1 (v0 : ByteArray) (v1 : ByteArray) (K : Value → World → Prop) (w : World) : BuildK Tryd.prog 73 #[(0, (.string v0)), (1, (.string v1))] K w = K (.agg #[(.string v0), (.string v1), .int .i64 0]) w := by
  unfold BuildK; (first | (go_simp; rfl) | (go_simp; done))

theorem kfa126_1 (g o : Nat) (K : Value → World → Prop) (w : World) : FieldAtK Tryd.prog 126 (.pointer (some ⟨g, o, none⟩)) 1 K w = K (.pointer (some ⟨g, o + 1, none⟩)) w := by
  unfold FieldAtK; (first | (go_simp; rfl) | (go_simp; done))

theorem kbx73 (v_0 : ByteArray) (v_1 : ByteArray) (v_2 : Int) (K : Value → World → Prop) (w : World) : BoxK Tryd.prog 73 (.agg #[(.string v_0), (.string v_1), (.int .i64 v_2)]) K w = K (.pointer (some ⟨w.heap.size, 0, none⟩)) (w.alloc (.cells #[(.string v_0), (.string v_1), (.int .i64 v_2)] 73)) := by
  unfold BoxK; (first | (go_simp; rfl) | (go_simp; done))

theorem kbs136_3_0_1_2 (v0 : Int) (v1 : Int) (v2 : Int) (K : Value → World → Prop) (w : World) : BuildSliceK Tryd.prog 136 3 #[(0, (.int .i64 v0)), (1, (.int .i64 v1)), (2, (.int .i64 v2))] K w = K (.slice (some ⟨w.heap.size, 0, none⟩) 3 3) (w.alloc (.cells #[(.int .i64 v0), (.int .i64 v1), (.int .i64 v2)] 3)) := by
  unfold BuildSliceK; (first | (go_simp; rfl) | (go_simp; done))

theorem ksl68_011 (g o n c : Nat) (h m : Int) (hb : 0 ≤ h ∧ h ≤ m ∧ m ≤ (c : Int)) (K : Value → World → Prop) (w : World) : SliceK Tryd.prog 68 (.slice (some ⟨g, o, none⟩) n c) none (some (.int .i64 h)) (some (.int .i64 m)) K w = K (.slice (some ⟨g, o, none⟩) h.toNat m.toNat) w := by
  obtain ⟨q0, q1, q2⟩ := hb
  unfold SliceK; (first | (go_simp; rfl) | (go_simp; done) | (go_simp; split <;> simp_all))

theorem ksl68_011z (K : Value → World → Prop) (w : World) : SliceK Tryd.prog 68 (.slice none 0 0) none (some (.int .i64 0)) (some (.int .i64 0)) K w = K (.slice none 0 0) w := by
  unfold SliceK; (first | (go_simp; rfl) | (go_simp; done) | (go_simp; split <;> simp_all))

theorem kbd121_  (K : Value → World → Prop) (w : World) : BuildK Tryd.prog 121 #[] K w = K (.agg #[.int .i64 0, .int .i64 0, .string ByteArray.empty, .slice none 0 0]) w := by
  unfold BuildK; (first | (go_simp; rfl) | (go_simp; done))

theorem kbx76 (v_0 : ByteArray) (v_1 : ByteArray) (v_2 : Int) (K : Value → World → Prop) (w : World) : BoxK Tryd.prog 76 (.agg #[(.string v_0), (.string v_1), (.int .i64 v_2)]) K w = K (.pointer (some ⟨w.heap.size, 0, none⟩)) (w.alloc (.cells #[(.string v_0), (.string v_1), (.int .i64 v_2)] 76)) := by
  unfold BoxK; (first | (go_simp; rfl) | (go_simp; done))

theorem kbgeq2 (x y : Int) (K : Value → World → Prop) (w : World) : BinK Tryd.prog .geq 2 (.int .i64 x) (.int .i64 y) K w = K (.bool (decide (y ≤ x))) w := by
  unfold BinK; (first | (go_simp; rfl) | (go_simp; done))

theorem kbx121 (v_0 : Int) (v_1 : Int) (v_2 : ByteArray) (v_3A : Option Addr) (v_3n v_3c : Nat) (K : Value → World → Prop) (w : World) : BoxK Tryd.prog 121 (.agg #[(.int .i64 v_0), (.int .i64 v_1), (.string v_2), (.slice v_3A v_3n v_3c)]) K w = K (.pointer (some ⟨w.heap.size, 0, none⟩)) (w.alloc (.cells #[(.int .i64 v_0), (.int .i64 v_1), (.string v_2), (.slice v_3A v_3n v_3c)] 121)) := by
  unfold BoxK; (first | (go_simp; rfl) | (go_simp; done))

theorem kbeql5 (x y : Int) (K : Value → World → Prop) (w : World) : BinK Tryd.prog .eql 5 (.int .u8 x) (.int .u8 y) K w = K (.bool (x == y)) w := by
  unfold BinK; (first | (go_simp; rfl) | (go_simp; done))

theorem kfa121_3 (g o : Nat) (K : Value → World → Prop) (w : World) : FieldAtK Tryd.prog 121 (.pointer (some ⟨g, o, none⟩)) 3 K w = K (.pointer (some ⟨g, o + 3, none⟩)) w := by
  unfold FieldAtK; (first | (go_simp; rfl) | (go_simp; done))

theorem kld80 (a : Addr) (K : Value → World → Prop) (w : World) : LoadK Tryd.prog 80 (.pointer (some a)) K w = OptK (w.cell? a) (@hid _ ⟨fun v => K v w⟩) (LoadRaw Tryd.prog 80 a K w) := by
  exact loadK_eq Tryd.underlying80 rfl a K w

theorem klen53 (A : Option Addr) (n c : Nat) (K : Value → World → Prop) (w : World) : BuiltinK Tryd.prog .len #[53] 3 #[false] #[(.slice A n c)] K w = K (.int .i64 (n : Int)) w := by
  unfold BuiltinK; (first | (go_simp; rfl) | (go_simp; done))

theorem hlen53 (A : Option Addr) (n c : Nat) {K : Value → Prop} {w1 : World} : TakeO Tryd.prog (fun w' => w' = w1) (builtin .len #[53] 3 #[false] #[(.slice A n c)]) K = K (.int .i64 (n : Int)) := by
  exact here_o (fun w => by (first | (go_simp; rfl) | (go_simp; done)))

theorem kia53 (g o n c : Nat) (i : Int) (h : 0 ≤ i ∧ i < (n : Int)) (K : Value → World → Prop) (w : World) : IndexAtK Tryd.prog 53 (.slice (some ⟨g, o, none⟩) n c) (.int .i64 i) K w = K (.pointer (some ⟨g, o + i.toNat * 5, none⟩)) w := by
  obtain ⟨h0, h1⟩ := h
  unfold IndexAtK; (first | (go_simp; rfl) | (go_simp; done))

theorem kfa128_0 (g o : Nat) (K : Value → World → Prop) (w : World) : FieldAtK Tryd.prog 128 (.pointer (some ⟨g, o, none⟩)) 0 K w = K (.pointer (some ⟨g, o, none⟩)) w := by
  unfold FieldAtK; (first | (go_simp; rfl) | (go_simp; done))

theorem kfa128_1 (g o : Nat) (K : Value → World → Prop) (w : World) : FieldAtK Tryd.prog 128 (.pointer (some ⟨g, o, none⟩)) 1 K w = K (.pointer (some ⟨g, o + 1, none⟩)) w := by
  unfold FieldAtK; (first | (go_simp; rfl) | (go_simp; done))

theorem kld126 (g o : Nat) (K : Value → World → Prop) (w : World) : LoadK Tryd.prog 126 (.pointer (some ⟨g, o, none⟩)) K w = OptK (w.cell? ⟨g, o, none⟩) (@hid _ ⟨fun v0 => OptK (w.cell? ⟨g, o + 1, none⟩) (@hid _ ⟨fun v1 => OptK (w.cell? ⟨g, o + 2, none⟩) (@hid _ ⟨fun v2 => OptK (w.cell? ⟨g, o + 3, none⟩) (@hid _ ⟨fun v3 => K (.agg #[v0, v1, v2, v3]) w⟩) (LoadRaw Tryd.prog 126 ⟨g, o, none⟩ K w)⟩) (LoadRaw Tryd.prog 126 ⟨g, o, none⟩ K w)⟩) (LoadRaw Tryd.prog 126 ⟨g, o, none⟩ K w)⟩) (LoadRaw Tryd.prog 126 ⟨g, o, none⟩ K w) := by
  cases h0 : w.cell? ⟨g, o, none⟩ with
  | none => rfl
  | some v0 =>
  cases h1 : w.cell? ⟨g, o + 1, none⟩ with
  | none => rfl
  | some v1 =>
  cases h2 : w.cell? ⟨g, o + 2, none⟩ with
  | none => rfl
  | some v2 =>
  cases h3 : w.cell? ⟨g, o + 3, none⟩ with
  | none => rfl
  | some v3 =>
  simp only [optK_some]
  unfold LoadK; (first | (go_simp; rfl) | (go_simp; done))

theorem kbd133_0_1 (v0 : ByteArray) (v1_0 : Int) (v1_1 : Int) (v1_2 : ByteArray) (v1_3A : Option Addr) (v1_3n v1_3c : Nat) (K : Value → World → Prop) (w : World) : BuildK Tryd.prog 133 #[(0, (.string v0)), (1, .agg #[(.int .i64 v1_0), (.int .i64 v1_1), (.string v1_2), (.slice v1_3A v1_3n v1_3c)])] K w = K (.agg #[(.string v0), (.int .i64 v1_0), (.int .i64 v1_1), (.string v1_2), (.slice v1_3A v1_3n v1_3c)]) w := by
  unfold BuildK; (first | (go_simp; rfl) | (go_simp; done))

theorem kbs63_1_0 (v0_0 : ByteArray) (v0_1_0 : Int) (v0_1_1 : Int) (v0_1_2 : ByteArray) (v0_1_3A : Option Addr) (v0_1_3n v0_1_3c : Nat) (K : Value → World → Prop) (w : World) : BuildSliceK Tryd.prog 63 1 #[(0, .agg #[(.string v0_0), (.int .i64 v0_1_0), (.int .i64 v0_1_1), (.string v0_1_2), (.slice v0_1_3A v0_1_3n v0_1_3c)])] K w = K (.slice (some ⟨w.heap.size, 0, none⟩) 1 1) (w.alloc (.cells #[(.string v0_0), (.int .i64 v0_1_0), (.int .i64 v0_1_1), (.string v0_1_2), (.slice v0_1_3A v0_1_3n v0_1_3c)] 133)) := by
  unfold BuildSliceK; (first | (go_simp; rfl) | (go_simp; done))

theorem kld128 (g o : Nat) (K : Value → World → Prop) (w : World) : LoadK Tryd.prog 128 (.pointer (some ⟨g, o, none⟩)) K w = OptK (w.cell? ⟨g, o, none⟩) (@hid _ ⟨fun v0 => OptK (w.cell? ⟨g, o + 1, none⟩) (@hid _ ⟨fun v1 => OptK (w.cell? ⟨g, o + 2, none⟩) (@hid _ ⟨fun v2 => OptK (w.cell? ⟨g, o + 3, none⟩) (@hid _ ⟨fun v3 => OptK (w.cell? ⟨g, o + 4, none⟩) (@hid _ ⟨fun v4 => K (.agg #[v0, v1, v2, v3, v4]) w⟩) (LoadRaw Tryd.prog 128 ⟨g, o, none⟩ K w)⟩) (LoadRaw Tryd.prog 128 ⟨g, o, none⟩ K w)⟩) (LoadRaw Tryd.prog 128 ⟨g, o, none⟩ K w)⟩) (LoadRaw Tryd.prog 128 ⟨g, o, none⟩ K w)⟩) (LoadRaw Tryd.prog 128 ⟨g, o, none⟩ K w) := by
  cases h0 : w.cell? ⟨g, o, none⟩ with
  | none => rfl
  | some v0 =>
  cases h1 : w.cell? ⟨g, o + 1, none⟩ with
  | none => rfl
  | some v1 =>
  cases h2 : w.cell? ⟨g, o + 2, none⟩ with
  | none => rfl
  | some v2 =>
  cases h3 : w.cell? ⟨g, o + 3, none⟩ with
  | none => rfl
  | some v3 =>
  cases h4 : w.cell? ⟨g, o + 4, none⟩ with
  | none => rfl
  | some v4 =>
  simp only [optK_some]
  unfold LoadK; (first | (go_simp; rfl) | (go_simp; done))

theorem kal128 (K : Value → World → Prop) (w : World) : AllocK Tryd.prog 128 K w = K (.pointer (some ⟨w.heap.size, 0, none⟩)) (w.alloc (.cells #[.string ByteArray.empty, .int .i64 0, .int .i64 0, .string ByteArray.empty, .slice none 0 0] 128)) := by
  unfold AllocK; (first | (go_simp; rfl) | (go_simp; done))

theorem kst128f (v_0 : ByteArray) (v_1_0 : Int) (v_1_1 : Int) (v_1_2 : ByteArray) (v_1_3A : Option Addr) (v_1_3n v_1_3c : Nat) (z0 z1 z2 z3 z4 : Value) (K : Value → World → Prop) (w : World) : StoreK Tryd.prog 128 (.pointer (some ⟨w.heap.size, 0, none⟩)) (.agg #[(.string v_0), (.int .i64 v_1_0), (.int .i64 v_1_1), (.string v_1_2), (.slice v_1_3A v_1_3n v_1_3c)]) K (w.alloc (.cells #[z0, z1, z2, z3, z4] 128)) = K undef (w.alloc (.cells #[(.string v_0), (.int .i64 v_1_0), (.int .i64 v_1_1), (.string v_1_2), (.slice v_1_3A v_1_3n v_1_3c)] 128)) := by
  unfold StoreK; (first | (go_simp; rfl) | (go_simp; done))

theorem kbs53_1_0 (v0_0 : ByteArray) (v0_1_0 : Int) (v0_1_1 : Int) (v0_1_2 : ByteArray) (v0_1_3A : Option Addr) (v0_1_3n v0_1_3c : Nat) (K : Value → World → Prop) (w : World) : BuildSliceK Tryd.prog 53 1 #[(0, .agg #[(.string v0_0), (.int .i64 v0_1_0), (.int .i64 v0_1_1), (.string v0_1_2), (.slice v0_1_3A v0_1_3n v0_1_3c)])] K w = K (.slice (some ⟨w.heap.size, 0, none⟩) 1 1) (w.alloc (.cells #[(.string v0_0), (.int .i64 v0_1_0), (.int .i64 v0_1_1), (.string v0_1_2), (.slice v0_1_3A v0_1_3n v0_1_3c)] 128)) := by
  unfold BuildSliceK; (first | (go_simp; rfl) | (go_simp; done))

theorem kbx128 (v_0 : ByteArray) (v_1_0 : Int) (v_1_1 : Int) (v_1_2 : ByteArray) (v_1_3A : Option Addr) (v_1_3n v_1_3c : Nat) (K : Value → World → Prop) (w : World) : BoxK Tryd.prog 128 (.agg #[(.string v_0), (.int .i64 v_1_0), (.int .i64 v_1_1), (.string v_1_2), (.slice v_1_3A v_1_3n v_1_3c)]) K w = K (.pointer (some ⟨w.heap.size, 0, none⟩)) (w.alloc (.cells #[(.string v_0), (.int .i64 v_1_0), (.int .i64 v_1_1), (.string v_1_2), (.slice v_1_3A v_1_3n v_1_3c)] 128)) := by
  unfold BoxK; (first | (go_simp; rfl) | (go_simp; done))

theorem kbx126 (v_0 : Int) (v_1 : Int) (v_2 : ByteArray) (v_3A : Option Addr) (v_3n v_3c : Nat) (K : Value → World → Prop) (w : World) : BoxK Tryd.prog 126 (.agg #[(.int .i64 v_0), (.int .i64 v_1), (.string v_2), (.slice v_3A v_3n v_3c)]) K w = K (.pointer (some ⟨w.heap.size, 0, none⟩)) (w.alloc (.cells #[(.int .i64 v_0), (.int .i64 v_1), (.string v_2), (.slice v_3A v_3n v_3c)] 126)) := by
  unfold BoxK; (first | (go_simp; rfl) | (go_simp; done))

theorem kbd126_  (K : Value → World → Prop) (w : World) : BuildK Tryd.prog 126 #[] K w = K (.agg #[.int .i64 0, .int .i64 0, .string ByteArray.empty, .slice none 0 0]) w := by
  unfold BuildK; (first | (go_simp; rfl) | (go_simp; done))

theorem kbmul3 (x y : Int) (K : Value → World → Prop) (w : World) : BinK Tryd.prog .mul 3 (.int .i64 x) (.int .i64 y) K w = K (.int .i64 (IntKind.i64.wrap (x * y))) w := by
  unfold BinK; (first | (go_simp; rfl) | (go_simp; done))

theorem kfa126_3 (g o : Nat) (K : Value → World → Prop) (w : World) : FieldAtK Tryd.prog 126 (.pointer (some ⟨g, o, none⟩)) 3 K w = K (.pointer (some ⟨g, o + 3, none⟩)) w := by
  unfold FieldAtK; (first | (go_simp; rfl) | (go_simp; done))

theorem kbd121_0_1_2_3 (v0 : Int) (v1 : Int) (v2 : ByteArray) (v3A : Option Addr) (v3n v3c : Nat) (K : Value → World → Prop) (w : World) : BuildK Tryd.prog 121 #[(0, (.int .i64 v0)), (1, (.int .i64 v1)), (2, (.string v2)), (3, (.slice v3A v3n v3c))] K w = K (.agg #[(.int .i64 v0), (.int .i64 v1), (.string v2), (.slice v3A v3n v3c)]) w := by
  unfold BuildK; (first | (go_simp; rfl) | (go_simp; done))

theorem kst80 (g o : Nat) (vA : Option Addr) (vn vc : Nat) (K : Value → World → Prop) (w : World) : StoreK Tryd.prog 80 (.pointer (some ⟨g, o, none⟩)) (.slice vA vn vc) K w = OptK (w.cell? ⟨g, o, none⟩) (@hid _ ⟨fun _ => FzK (w.frozen? ⟨g, o, none⟩) (@hid _ ⟨K undef (w.setCell ⟨g, o, none⟩ (.slice vA vn vc))⟩) (StoreRaw Tryd.prog 80 ⟨g, o, none⟩ (.slice vA vn vc) K w)⟩) (StoreRaw Tryd.prog 80 ⟨g, o, none⟩ (.slice vA vn vc) K w) := by
  cases h0 : w.cell? ⟨g, o, none⟩ with
  | none => rfl
  | some x =>
  cases f0 : w.frozen? ⟨g, o, none⟩ with
  | true => rfl
  | false =>
  simp only [optK_some, fzK_false]
  unfold StoreK; (first | (go_simp; rfl) | (go_simp; done))

theorem ksl53_011 (g o n c : Nat) (h m : Int) (hb : 0 ≤ h ∧ h ≤ m ∧ m ≤ (c : Int)) (K : Value → World → Prop) (w : World) : SliceK Tryd.prog 53 (.slice (some ⟨g, o, none⟩) n c) none (some (.int .i64 h)) (some (.int .i64 m)) K w = K (.slice (some ⟨g, o, none⟩) h.toNat m.toNat) w := by
  obtain ⟨q0, q1, q2⟩ := hb
  unfold SliceK; (first | (go_simp; rfl) | (go_simp; done) | (go_simp; split <;> simp_all))

theorem ksl53_011z (K : Value → World → Prop) (w : World) : SliceK Tryd.prog 53 (.slice none 0 0) none (some (.int .i64 0)) (some (.int .i64 0)) K w = K (.slice none 0 0) w := by
  unfold SliceK; (first | (go_simp; rfl) | (go_simp; done) | (go_simp; split <;> simp_all))

theorem kbshr51_i32 (x y : Int) (h : 0 ≤ y) (K : Value → World → Prop) (w : World) : BinK Tryd.prog .shr 51 (.int .u64 x) (.int .i32 y) K w = K (.int .u64 (x / 2 ^ min y.toNat 64)) w := by
  unfold BinK; (first | (go_simp; rfl) | (go_simp; done))

theorem kbshr51_i64 (x y : Int) (h : 0 ≤ y) (K : Value → World → Prop) (w : World) : BinK Tryd.prog .shr 51 (.int .u64 x) (.int .i64 y) K w = K (.int .u64 (x / 2 ^ min y.toNat 64)) w := by
  unfold BinK; (first | (go_simp; rfl) | (go_simp; done))

theorem kbshr51_u16 (x y : Int) (h : 0 ≤ y) (K : Value → World → Prop) (w : World) : BinK Tryd.prog .shr 51 (.int .u64 x) (.int .u16 y) K w = K (.int .u64 (x / 2 ^ min y.toNat 64)) w := by
  unfold BinK; (first | (go_simp; rfl) | (go_simp; done))

theorem kbshr51_u32 (x y : Int) (h : 0 ≤ y) (K : Value → World → Prop) (w : World) : BinK Tryd.prog .shr 51 (.int .u64 x) (.int .u32 y) K w = K (.int .u64 (x / 2 ^ min y.toNat 64)) w := by
  unfold BinK; (first | (go_simp; rfl) | (go_simp; done))

theorem kbshr51_u64 (x y : Int) (h : 0 ≤ y) (K : Value → World → Prop) (w : World) : BinK Tryd.prog .shr 51 (.int .u64 x) (.int .u64 y) K w = K (.int .u64 (x / 2 ^ min y.toNat 64)) w := by
  unfold BinK; (first | (go_simp; rfl) | (go_simp; done))

theorem kbshr51_u8 (x y : Int) (h : 0 ≤ y) (K : Value → World → Prop) (w : World) : BinK Tryd.prog .shr 51 (.int .u64 x) (.int .u8 y) K w = K (.int .u64 (x / 2 ^ min y.toNat 64)) w := by
  unfold BinK; (first | (go_simp; rfl) | (go_simp; done))

theorem kcv51_3 (x : Int) (K : Value → World → Prop) (w : World) : ConvK Tryd.prog 51 3 (.int .u64 x) K w = K (.int .i64 (IntKind.i64.wrap x)) w := by
  unfold ConvK; (first | (go_simp; rfl) | (go_simp; done))

theorem ksl80_011 (g o n c : Nat) (h m : Int) (hb : 0 ≤ h ∧ h ≤ m ∧ m ≤ (c : Int)) (K : Value → World → Prop) (w : World) : SliceK Tryd.prog 80 (.slice (some ⟨g, o, none⟩) n c) none (some (.int .i64 h)) (some (.int .i64 m)) K w = K (.slice (some ⟨g, o, none⟩) h.toNat m.toNat) w := by
  obtain ⟨q0, q1, q2⟩ := hb
  unfold SliceK; (first | (go_simp; rfl) | (go_simp; done) | (go_simp; split <;> simp_all))

theorem ksl80_011z (K : Value → World → Prop) (w : World) : SliceK Tryd.prog 80 (.slice none 0 0) none (some (.int .i64 0)) (some (.int .i64 0)) K w = K (.slice none 0 0) w := by
  unfold SliceK; (first | (go_simp; rfl) | (go_simp; done) | (go_simp; split <;> simp_all))

theorem kbeql80n (a : Addr) (n c : Nat) (K : Value → World → Prop) (w : World) : BinK Tryd.prog .eql 80 (.slice (some a) n c) (.slice none 0 0) K w = K (.bool false) w := by
  unfold BinK; (first | (go_simp; rfl) | (go_simp; done))

theorem kbeql80z (n c : Nat) (K : Value → World → Prop) (w : World) : BinK Tryd.prog .eql 80 (.slice none n c) (.slice none 0 0) K w = K (.bool true) w := by
  unfold BinK; (first | (go_simp; rfl) | (go_simp; done))

theorem kbs80_0  (K : Value → World → Prop) (w : World) : BuildSliceK Tryd.prog 80 0 #[] K w = K (.slice (some ⟨w.heap.size, 0, none⟩) 0 0) (w.alloc (.cells #[] 2)) := by
  unfold BuildSliceK; (first | (go_simp; rfl) | (go_simp; done))

theorem kbneq5 (x y : Int) (K : Value → World → Prop) (w : World) : BinK Tryd.prog .neq 5 (.int .u8 x) (.int .u8 y) K w = K (.bool (x != y)) w := by
  unfold BinK; (first | (go_simp; rfl) | (go_simp; done))

theorem kst9 (g o : Nat) (v : ByteArray) (K : Value → World → Prop) (w : World) : StoreK Tryd.prog 9 (.pointer (some ⟨g, o, none⟩)) (.string v) K w = OptK (w.cell? ⟨g, o, none⟩) (@hid _ ⟨fun _ => FzK (w.frozen? ⟨g, o, none⟩) (@hid _ ⟨K undef (w.setCell ⟨g, o, none⟩ (.string v))⟩) (StoreRaw Tryd.prog 9 ⟨g, o, none⟩ (.string v) K w)⟩) (StoreRaw Tryd.prog 9 ⟨g, o, none⟩ (.string v) K w) := by
  cases h0 : w.cell? ⟨g, o, none⟩ with
  | none => rfl
  | some x =>
  cases f0 : w.frozen? ⟨g, o, none⟩ with
  | true => rfl
  | false =>
  simp only [optK_some, fzK_false]
  unfold StoreK; (first | (go_simp; rfl) | (go_simp; done))

theorem qkia24 (g o n c : Nat) (i : Int) (h : 0 ≤ i ∧ i < (n : Int))  {K : Value → Prop} {T : Nat → Prop} {w1 : World} : TakeS Tryd.prog (Chs T w1) (Instr.indexAt 24 (.slice (some ⟨g, o, none⟩) n c) (.int .i64 i)) (@hid _ ⟨K⟩) = K (.pointer (some ⟨g, o + i.toNat, none⟩)) := tk_S (fun w' _ => (kia24 g o n c i h (fun v' w'' => v' = (.pointer (some ⟨g, o + i.toNat, none⟩)) ∧ w'' = w') w').mpr ⟨rfl, rfl⟩)

theorem qkld9 {a : Addr} {v : Value} {K : Value → Prop} {T : Nat → Prop} {w1 : World} (hc : ∀ w', Chs T w1 w' → w'.cell? a = some v) : TakeS Tryd.prog (Chs T w1) (Instr.loadAt 9 (.pointer (some a))) (@hid _ ⟨K⟩) = K v := tk_S (fun w' hq => (kld9 a (fun v' w'' => v' = v ∧ w'' = w') w').mpr (by rw [hc w' hq]; exact ⟨rfl, rfl⟩))

theorem qklen9 (s : ByteArray)  {K : Value → Prop} {T : Nat → Prop} {w1 : World} : TakeO Tryd.prog (Chs T w1) (builtin .len #[9] 3 #[false] #[(.string s)]) (@hid _ ⟨K⟩) = K (.int .i64 (s.size : Int)) := tk_O (fun w => by (first | (go_simp; rfl) | (go_simp; done)))

theorem qkbgtr3 (x y : Int)  {K : Value → Prop} {T : Nat → Prop} {w1 : World} : BinT Tryd.prog (Chs T w1) .gtr 3 (.int .i64 x) (.int .i64 y) (@hid _ ⟨K⟩) = K (.bool (decide (y < x))) := tk_B (fun w' => (kbgtr3 x y (fun v' w'' => v' = (.bool (decide (y < x))) ∧ w'' = w') w').mpr ⟨rfl, rfl⟩)

theorem qkbsub3 (x y : Int)  {K : Value → Prop} {T : Nat → Prop} {w1 : World} : BinT Tryd.prog (Chs T w1) .sub 3 (.int .i64 x) (.int .i64 y) (@hid _ ⟨K⟩) = K (.int .i64 (IntKind.i64.wrap (x - y))) := tk_B (fun w' => (kbsub3 x y (fun v' w'' => v' = (.int .i64 (IntKind.i64.wrap (x - y))) ∧ w'' = w') w').mpr ⟨rfl, rfl⟩)

theorem qkbgeq9 (x y : ByteArray)  {K : Value → Prop} {T : Nat → Prop} {w1 : World} : BinT Tryd.prog (Chs T w1) .geq 9 (.string x) (.string y) (@hid _ ⟨K⟩) = K (.bool (!(Op.bytesLess x.toList y.toList))) := tk_B (fun w' => (kbgeq9 x y (fun v' w'' => v' = (.bool (!(Op.bytesLess x.toList y.toList))) ∧ w'' = w') w').mpr ⟨rfl, rfl⟩)

theorem qkia28 (g o n c : Nat) (i : Int) (h : 0 ≤ i ∧ i < (n : Int))  {K : Value → Prop} {T : Nat → Prop} {w1 : World} : TakeS Tryd.prog (Chs T w1) (Instr.indexAt 28 (.slice (some ⟨g, o, none⟩) n c) (.int .i64 i)) (@hid _ ⟨K⟩) = K (.pointer (some ⟨g, o + i.toNat * 5, none⟩)) := tk_S (fun w' _ => (kia28 g o n c i h (fun v' w'' => v' = (.pointer (some ⟨g, o + i.toNat * 5, none⟩)) ∧ w'' = w') w').mpr ⟨rfl, rfl⟩)

theorem qkld40 {g o : Nat} {v0 v1 v2 v3 v4 : Value} {K : Value → Prop} {T : Nat → Prop} {w1 : World} (hc : ∀ w', Chs T w1 w' → w'.cell? ⟨g, o, none⟩ = some v0 ∧ w'.cell? ⟨g, o + 1, none⟩ = some v1 ∧ w'.cell? ⟨g, o + 2, none⟩ = some v2 ∧ w'.cell? ⟨g, o + 3, none⟩ = some v3 ∧ w'.cell? ⟨g, o + 4, none⟩ = some v4) : TakeS Tryd.prog (Chs T w1) (Instr.loadAt 40 (.pointer (some ⟨g, o, none⟩))) (@hid _ ⟨K⟩) = K (.agg #[v0, v1, v2, v3, v4]) := tk_S (fun w' hq => (kld40 g o (fun v' w'' => v' = .agg #[v0, v1, v2, v3, v4] ∧ w'' = w') w').mpr (by obtain ⟨h0, h1, h2, h3, h4⟩ := hc w' hq; simp only [h0, h1, h2, h3, h4, optK_some']; first | exact ⟨rfl, rfl⟩ | exact ⟨trivial, rfl⟩ | exact ⟨trivial, trivial⟩))

theorem qkia22 (g o n c : Nat) (i : Int) (h : 0 ≤ i ∧ i < (n : Int))  {K : Value → Prop} {T : Nat → Prop} {w1 : World} : TakeS Tryd.prog (Chs T w1) (Instr.indexAt 22 (.slice (some ⟨g, o, none⟩) n c) (.int .i64 i)) (@hid _ ⟨K⟩) = K (.pointer (some ⟨g, o + i.toNat * 6, none⟩)) := tk_S (fun w' _ => (kia22 g o n c i h (fun v' w'' => v' = (.pointer (some ⟨g, o + i.toNat * 6, none⟩)) ∧ w'' = w') w').mpr ⟨rfl, rfl⟩)

theorem qkfa55_0 (g o : Nat)  {K : Value → Prop} {T : Nat → Prop} {w1 : World} : TakeS Tryd.prog (Chs T w1) (Instr.fieldAt 55 (.pointer (some ⟨g, o, none⟩)) 0) (@hid _ ⟨K⟩) = K (.pointer (some ⟨g, o, none⟩)) := tk_S (fun w' _ => (kfa55_0 g o (fun v' w'' => v' = (.pointer (some ⟨g, o, none⟩)) ∧ w'' = w') w').mpr ⟨rfl, rfl⟩)

theorem qkbneq9 (x y : ByteArray)  {K : Value → Prop} {T : Nat → Prop} {w1 : World} : BinT Tryd.prog (Chs T w1) .neq 9 (.string x) (.string y) (@hid _ ⟨K⟩) = K (.bool (!(x.toList == y.toList))) := tk_B (fun w' => (kbneq9 x y (fun v' w'' => v' = (.bool (!(x.toList == y.toList))) ∧ w'' = w') w').mpr ⟨rfl, rfl⟩)

theorem qkbeql9 (x y : ByteArray)  {K : Value → Prop} {T : Nat → Prop} {w1 : World} : BinT Tryd.prog (Chs T w1) .eql 9 (.string x) (.string y) (@hid _ ⟨K⟩) = K (.bool (x.toList == y.toList)) := tk_B (fun w' => (kbeql9 x y (fun v' w'' => v' = (.bool (x.toList == y.toList)) ∧ w'' = w') w').mpr ⟨rfl, rfl⟩)

theorem qkfa55_1 (g o : Nat)  {K : Value → Prop} {T : Nat → Prop} {w1 : World} : TakeS Tryd.prog (Chs T w1) (Instr.fieldAt 55 (.pointer (some ⟨g, o, none⟩)) 1) (@hid _ ⟨K⟩) = K (.pointer (some ⟨g, o + 1, none⟩)) := tk_S (fun w' _ => (kfa55_1 g o (fun v' w'' => v' = (.pointer (some ⟨g, o + 1, none⟩)) ∧ w'' = w') w').mpr ⟨rfl, rfl⟩)

theorem qkld52 {g o : Nat} {v0 v1 v2 v3 : Value} {K : Value → Prop} {T : Nat → Prop} {w1 : World} (hc : ∀ w', Chs T w1 w' → w'.cell? ⟨g, o, none⟩ = some v0 ∧ w'.cell? ⟨g, o + 1, none⟩ = some v1 ∧ w'.cell? ⟨g, o + 2, none⟩ = some v2 ∧ w'.cell? ⟨g, o + 3, none⟩ = some v3) : TakeS Tryd.prog (Chs T w1) (Instr.loadAt 52 (.pointer (some ⟨g, o, none⟩))) (@hid _ ⟨K⟩) = K (.agg #[v0, v1, v2, v3]) := tk_S (fun w' hq => (kld52 g o (fun v' w'' => v' = .agg #[v0, v1, v2, v3] ∧ w'' = w') w').mpr (by obtain ⟨h0, h1, h2, h3⟩ := hc w' hq; simp only [h0, h1, h2, h3, optK_some']; first | exact ⟨rfl, rfl⟩ | exact ⟨trivial, rfl⟩ | exact ⟨trivial, trivial⟩))

theorem qkbeql3 (x y : Int)  {K : Value → Prop} {T : Nat → Prop} {w1 : World} : BinT Tryd.prog (Chs T w1) .eql 3 (.int .i64 x) (.int .i64 y) (@hid _ ⟨K⟩) = K (.bool (x == y)) := tk_B (fun w' => (kbeql3 x y (fun v' w'' => v' = (.bool (x == y)) ∧ w'' = w') w').mpr ⟨rfl, rfl⟩)

theorem qkld55 {g o : Nat} {v0 v1 v2 v3 v4 v5 : Value} {K : Value → Prop} {T : Nat → Prop} {w1 : World} (hc : ∀ w', Chs T w1 w' → w'.cell? ⟨g, o, none⟩ = some v0 ∧ w'.cell? ⟨g, o + 1, none⟩ = some v1 ∧ w'.cell? ⟨g, o + 2, none⟩ = some v2 ∧ w'.cell? ⟨g, o + 3, none⟩ = some v3 ∧ w'.cell? ⟨g, o + 4, none⟩ = some v4 ∧ w'.cell? ⟨g, o + 5, none⟩ = some v5) : TakeS Tryd.prog (Chs T w1) (Instr.loadAt 55 (.pointer (some ⟨g, o, none⟩))) (@hid _ ⟨K⟩) = K (.agg #[v0, v1, v2, v3, v4, v5]) := tk_S (fun w' hq => (kld55 g o (fun v' w'' => v' = .agg #[v0, v1, v2, v3, v4, v5] ∧ w'' = w') w').mpr (by obtain ⟨h0, h1, h2, h3, h4, h5⟩ := hc w' hq; simp only [h0, h1, h2, h3, h4, h5, optK_some']; first | exact ⟨rfl, rfl⟩ | exact ⟨trivial, rfl⟩ | exact ⟨trivial, trivial⟩))

theorem qkld60 {g o : Nat} {v0 v1 : Value} {K : Value → Prop} {T : Nat → Prop} {w1 : World} (hc : ∀ w', Chs T w1 w' → w'.cell? ⟨g, o, none⟩ = some v0 ∧ w'.cell? ⟨g, o + 1, none⟩ = some v1) : TakeS Tryd.prog (Chs T w1) (Instr.loadAt 60 (.pointer (some ⟨g, o, none⟩))) (@hid _ ⟨K⟩) = K (.agg #[v0, v1]) := tk_S (fun w' hq => (kld60 g o (fun v' w'' => v' = .agg #[v0, v1] ∧ w'' = w') w').mpr (by obtain ⟨h0, h1⟩ := hc w' hq; simp only [h0, h1, optK_some']; first | exact ⟨rfl, rfl⟩ | exact ⟨trivial, rfl⟩ | exact ⟨trivial, trivial⟩))

theorem qkia33 (g o n c : Nat) (i : Int) (h : 0 ≤ i ∧ i < (n : Int))  {K : Value → Prop} {T : Nat → Prop} {w1 : World} : TakeS Tryd.prog (Chs T w1) (Instr.indexAt 33 (.slice (some ⟨g, o, none⟩) n c) (.int .i64 i)) (@hid _ ⟨K⟩) = K (.pointer (some ⟨g, o + i.toNat * 6, none⟩)) := tk_S (fun w' _ => (kia33 g o n c i h (fun v' w'' => v' = (.pointer (some ⟨g, o + i.toNat * 6, none⟩)) ∧ w'' = w') w').mpr ⟨rfl, rfl⟩)

theorem qkld65 {g o : Nat} {v0 v1 v2 v3 v4 v5 : Value} {K : Value → Prop} {T : Nat → Prop} {w1 : World} (hc : ∀ w', Chs T w1 w' → w'.cell? ⟨g, o, none⟩ = some v0 ∧ w'.cell? ⟨g, o + 1, none⟩ = some v1 ∧ w'.cell? ⟨g, o + 2, none⟩ = some v2 ∧ w'.cell? ⟨g, o + 3, none⟩ = some v3 ∧ w'.cell? ⟨g, o + 4, none⟩ = some v4 ∧ w'.cell? ⟨g, o + 5, none⟩ = some v5) : TakeS Tryd.prog (Chs T w1) (Instr.loadAt 65 (.pointer (some ⟨g, o, none⟩))) (@hid _ ⟨K⟩) = K (.agg #[v0, v1, v2, v3, v4, v5]) := tk_S (fun w' hq => (kld65 g o (fun v' w'' => v' = .agg #[v0, v1, v2, v3, v4, v5] ∧ w'' = w') w').mpr (by obtain ⟨h0, h1, h2, h3, h4, h5⟩ := hc w' hq; simp only [h0, h1, h2, h3, h4, h5, optK_some']; first | exact ⟨rfl, rfl⟩ | exact ⟨trivial, rfl⟩ | exact ⟨trivial, trivial⟩))

theorem qkia68 (g o n c : Nat) (i : Int) (h : 0 ≤ i ∧ i < (n : Int))  {K : Value → Prop} {T : Nat → Prop} {w1 : World} : TakeS Tryd.prog (Chs T w1) (Instr.indexAt 68 (.slice (some ⟨g, o, none⟩) n c) (.int .i64 i)) (@hid _ ⟨K⟩) = K (.pointer (some ⟨g, o + i.toNat * 3, none⟩)) := tk_S (fun w' _ => (kia68 g o n c i h (fun v' w'' => v' = (.pointer (some ⟨g, o + i.toNat * 3, none⟩)) ∧ w'' = w') w').mpr ⟨rfl, rfl⟩)

theorem qkfa73_0 (g o : Nat)  {K : Value → Prop} {T : Nat → Prop} {w1 : World} : TakeS Tryd.prog (Chs T w1) (Instr.fieldAt 73 (.pointer (some ⟨g, o, none⟩)) 0) (@hid _ ⟨K⟩) = K (.pointer (some ⟨g, o, none⟩)) := tk_S (fun w' _ => (kfa73_0 g o (fun v' w'' => v' = (.pointer (some ⟨g, o, none⟩)) ∧ w'' = w') w').mpr ⟨rfl, rfl⟩)

theorem qkia70 (g o n c : Nat) (i : Int) (h : 0 ≤ i ∧ i < (n : Int))  {K : Value → Prop} {T : Nat → Prop} {w1 : World} : TakeS Tryd.prog (Chs T w1) (Instr.indexAt 70 (.slice (some ⟨g, o, none⟩) n c) (.int .i64 i)) (@hid _ ⟨K⟩) = K (.pointer (some ⟨g, o + i.toNat * 3, none⟩)) := tk_S (fun w' _ => (kia70 g o n c i h (fun v' w'' => v' = (.pointer (some ⟨g, o + i.toNat * 3, none⟩)) ∧ w'' = w') w').mpr ⟨rfl, rfl⟩)

theorem qkfa76_0 (g o : Nat)  {K : Value → Prop} {T : Nat → Prop} {w1 : World} : TakeS Tryd.prog (Chs T w1) (Instr.fieldAt 76 (.pointer (some ⟨g, o, none⟩)) 0) (@hid _ ⟨K⟩) = K (.pointer (some ⟨g, o, none⟩)) := tk_S (fun w' _ => (kfa76_0 g o (fun v' w'' => v' = (.pointer (some ⟨g, o, none⟩)) ∧ w'' = w') w').mpr ⟨rfl, rfl⟩)

theorem qkfa73_1 (g o : Nat)  {K : Value → Prop} {T : Nat → Prop} {w1 : World} : TakeS Tryd.prog (Chs T w1) (Instr.fieldAt 73 (.pointer (some ⟨g, o, none⟩)) 1) (@hid _ ⟨K⟩) = K (.pointer (some ⟨g, o + 1, none⟩)) := tk_S (fun w' _ => (kfa73_1 g o (fun v' w'' => v' = (.pointer (some ⟨g, o + 1, none⟩)) ∧ w'' = w') w').mpr ⟨rfl, rfl⟩)

theorem qkfa76_1 (g o : Nat)  {K : Value → Prop} {T : Nat → Prop} {w1 : World} : TakeS Tryd.prog (Chs T w1) (Instr.fieldAt 76 (.pointer (some ⟨g, o, none⟩)) 1) (@hid _ ⟨K⟩) = K (.pointer (some ⟨g, o + 1, none⟩)) := tk_S (fun w' _ => (kfa76_1 g o (fun v' w'' => v' = (.pointer (some ⟨g, o + 1, none⟩)) ∧ w'' = w') w').mpr ⟨rfl, rfl⟩)

theorem qkfa73_2 (g o : Nat)  {K : Value → Prop} {T : Nat → Prop} {w1 : World} : TakeS Tryd.prog (Chs T w1) (Instr.fieldAt 73 (.pointer (some ⟨g, o, none⟩)) 2) (@hid _ ⟨K⟩) = K (.pointer (some ⟨g, o + 2, none⟩)) := tk_S (fun w' _ => (kfa73_2 g o (fun v' w'' => v' = (.pointer (some ⟨g, o + 2, none⟩)) ∧ w'' = w') w').mpr ⟨rfl, rfl⟩)

theorem qkld2 {a : Addr} {v : Value} {K : Value → Prop} {T : Nat → Prop} {w1 : World} (hc : ∀ w', Chs T w1 w' → w'.cell? a = some v) : TakeS Tryd.prog (Chs T w1) (Instr.loadAt 2 (.pointer (some a))) (@hid _ ⟨K⟩) = K v := tk_S (fun w' hq => (kld2 a (fun v' w'' => v' = v ∧ w'' = w') w').mpr (by rw [hc w' hq]; exact ⟨rfl, rfl⟩))

theorem qkfa76_2 (g o : Nat)  {K : Value → Prop} {T : Nat → Prop} {w1 : World} : TakeS Tryd.prog (Chs T w1) (Instr.fieldAt 76 (.pointer (some ⟨g, o, none⟩)) 2) (@hid _ ⟨K⟩) = K (.pointer (some ⟨g, o + 2, none⟩)) := tk_S (fun w' _ => (kfa76_2 g o (fun v' w'' => v' = (.pointer (some ⟨g, o + 2, none⟩)) ∧ w'' = w') w').mpr ⟨rfl, rfl⟩)

theorem qkbneq2 (x y : Int)  {K : Value → Prop} {T : Nat → Prop} {w1 : World} : BinT Tryd.prog (Chs T w1) .neq 2 (.int .i64 x) (.int .i64 y) (@hid _ ⟨K⟩) = K (.bool (x != y)) := tk_B (fun w' => (kbneq2 x y (fun v' w'' => v' = (.bool (x != y)) ∧ w'' = w') w').mpr ⟨rfl, rfl⟩)

theorem qkbadd3 (x y : Int)  {K : Value → Prop} {T : Nat → Prop} {w1 : World} : BinT Tryd.prog (Chs T w1) .add 3 (.int .i64 x) (.int .i64 y) (@hid _ ⟨K⟩) = K (.int .i64 (IntKind.i64.wrap (x + y))) := tk_B (fun w' => (kbadd3 x y (fun v' w'' => v' = (.int .i64 (IntKind.i64.wrap (x + y))) ∧ w'' = w') w').mpr ⟨rfl, rfl⟩)

theorem qkcv3_5 (x : Int)  {K : Value → Prop} {T : Nat → Prop} {w1 : World} : TakeS Tryd.prog (Chs T w1) (convert 3 5 (.int .i64 x)) (@hid _ ⟨K⟩) = K (.int .u8 (IntKind.u8.wrap x)) := tk_S (fun w' _ => (kcv3_5 x (fun v' w'' => v' = (.int .u8 (IntKind.u8.wrap x)) ∧ w'' = w') w').mpr ⟨rfl, rfl⟩)

theorem qkia80 (g o n c : Nat) (i : Int) (h : 0 ≤ i ∧ i < (n : Int))  {K : Value → Prop} {T : Nat → Prop} {w1 : World} : TakeS Tryd.prog (Chs T w1) (Instr.indexAt 80 (.slice (some ⟨g, o, none⟩) n c) (.int .i64 i)) (@hid _ ⟨K⟩) = K (.pointer (some ⟨g, o + i.toNat, none⟩)) := tk_S (fun w' _ => (kia80 g o n c i h (fun v' w'' => v' = (.pointer (some ⟨g, o + i.toNat, none⟩)) ∧ w'' = w') w').mpr ⟨rfl, rfl⟩)

theorem qkbleq2 (x y : Int)  {K : Value → Prop} {T : Nat → Prop} {w1 : World} : BinT Tryd.prog (Chs T w1) .leq 2 (.int .i64 x) (.int .i64 y) (@hid _ ⟨K⟩) = K (.bool (decide (x ≤ y))) := tk_B (fun w' => (kbleq2 x y (fun v' w'' => v' = (.bool (decide (x ≤ y))) ∧ w'' = w') w').mpr ⟨rfl, rfl⟩)

theorem qklen68 (A : Option Addr) (n c : Nat)  {K : Value → Prop} {T : Nat → Prop} {w1 : World} : TakeO Tryd.prog (Chs T w1) (builtin .len #[68] 3 #[false] #[(.slice A n c)]) (@hid _ ⟨K⟩) = K (.int .i64 (n : Int)) := tk_O (fun w => by (first | (go_simp; rfl) | (go_simp; done)))

theorem qklen22 (A : Option Addr) (n c : Nat)  {K : Value → Prop} {T : Nat → Prop} {w1 : World} : TakeO Tryd.prog (Chs T w1) (builtin .len #[22] 3 #[false] #[(.slice A n c)]) (@hid _ ⟨K⟩) = K (.int .i64 (n : Int)) := tk_O (fun w => by (first | (go_simp; rfl) | (go_simp; done)))

theorem qkbneq3 (x y : Int)  {K : Value → Prop} {T : Nat → Prop} {w1 : World} : BinT Tryd.prog (Chs T w1) .neq 3 (.int .i64 x) (.int .i64 y) (@hid _ ⟨K⟩) = K (.bool (x != y)) := tk_B (fun w' => (kbneq3 x y (fun v' w'' => v' = (.bool (x != y)) ∧ w'' = w') w').mpr ⟨rfl, rfl⟩)

theorem qkbgtr2 (x y : Int)  {K : Value → Prop} {T : Nat → Prop} {w1 : World} : BinT Tryd.prog (Chs T w1) .gtr 2 (.int .i64 x) (.int .i64 y) (@hid _ ⟨K⟩) = K (.bool (decide (y < x))) := tk_B (fun w' => (kbgtr2 x y (fun v' w'' => v' = (.bool (decide (y < x))) ∧ w'' = w') w').mpr ⟨rfl, rfl⟩)

theorem qkbeql2 (x y : Int)  {K : Value → Prop} {T : Nat → Prop} {w1 : World} : BinT Tryd.prog (Chs T w1) .eql 2 (.int .i64 x) (.int .i64 y) (@hid _ ⟨K⟩) = K (.bool (x == y)) := tk_B (fun w' => (kbeql2 x y (fun v' w'' => v' = (.bool (x == y)) ∧ w'' = w') w').mpr ⟨rfl, rfl⟩)

theorem qkfa40_0 (g o : Nat)  {K : Value → Prop} {T : Nat → Prop} {w1 : World} : TakeS Tryd.prog (Chs T w1) (Instr.fieldAt 40 (.pointer (some ⟨g, o, none⟩)) 0) (@hid _ ⟨K⟩) = K (.pointer (some ⟨g, o, none⟩)) := tk_S (fun w' _ => (kfa40_0 g o (fun v' w'' => v' = (.pointer (some ⟨g, o, none⟩)) ∧ w'' = w') w').mpr ⟨rfl, rfl⟩)

theorem qkia23 (g o n c : Nat) (i : Int) (h : 0 ≤ i ∧ i < (n : Int))  {K : Value → Prop} {T : Nat → Prop} {w1 : World} : TakeS Tryd.prog (Chs T w1) (Instr.indexAt 23 (.slice (some ⟨g, o, none⟩) n c) (.int .i64 i)) (@hid _ ⟨K⟩) = K (.pointer (some ⟨g, o + i.toNat * 5, none⟩)) := tk_S (fun w' _ => (kia23 g o n c i h (fun v' w'' => v' = (.pointer (some ⟨g, o + i.toNat * 5, none⟩)) ∧ w'' = w') w').mpr ⟨rfl, rfl⟩)

theorem qkfa85_0 (g o : Nat)  {K : Value → Prop} {T : Nat → Prop} {w1 : World} : TakeS Tryd.prog (Chs T w1) (Instr.fieldAt 85 (.pointer (some ⟨g, o, none⟩)) 0) (@hid _ ⟨K⟩) = K (.pointer (some ⟨g, o, none⟩)) := tk_S (fun w' _ => (kfa85_0 g o (fun v' w'' => v' = (.pointer (some ⟨g, o, none⟩)) ∧ w'' = w') w').mpr ⟨rfl, rfl⟩)

theorem qkfa85_1 (g o : Nat)  {K : Value → Prop} {T : Nat → Prop} {w1 : World} : TakeS Tryd.prog (Chs T w1) (Instr.fieldAt 85 (.pointer (some ⟨g, o, none⟩)) 1) (@hid _ ⟨K⟩) = K (.pointer (some ⟨g, o + 1, none⟩)) := tk_S (fun w' _ => (kfa85_1 g o (fun v' w'' => v' = (.pointer (some ⟨g, o + 1, none⟩)) ∧ w'' = w') w').mpr ⟨rfl, rfl⟩)

theorem qkbgeq3 (x y : Int)  {K : Value → Prop} {T : Nat → Prop} {w1 : World} : BinT Tryd.prog (Chs T w1) .geq 3 (.int .i64 x) (.int .i64 y) (@hid _ ⟨K⟩) = K (.bool (decide (y ≤ x))) := tk_B (fun w' => (kbgeq3 x y (fun v' w'' => v' = (.bool (decide (y ≤ x))) ∧ w'' = w') w').mpr ⟨rfl, rfl⟩)

theorem qkfa65_0 (g o : Nat)  {K : Value → Prop} {T : Nat → Prop} {w1 : World} : TakeS Tryd.prog (Chs T w1) (Instr.fieldAt 65 (.pointer (some ⟨g, o, none⟩)) 0) (@hid _ ⟨K⟩) = K (.pointer (some ⟨g, o, none⟩)) := tk_S (fun w' _ => (kfa65_0 g o (fun v' w'' => v' = (.pointer (some ⟨g, o, none⟩)) ∧ w'' = w') w').mpr ⟨rfl, rfl⟩)

theorem qkfa65_1 (g o : Nat)  {K : Value → Prop} {T : Nat → Prop} {w1 : World} : TakeS Tryd.prog (Chs T w1) (Instr.fieldAt 65 (.pointer (some ⟨g, o, none⟩)) 1) (@hid _ ⟨K⟩) = K (.pointer (some ⟨g, o + 1, none⟩)) := tk_S (fun w' _ => (kfa65_1 g o (fun v' w'' => v' = (.pointer (some ⟨g, o + 1, none⟩)) ∧ w'' = w') w').mpr ⟨rfl, rfl⟩)

theorem qkld38 {g o : Nat} {v0 v1 v2 v3 : Value} {K : Value → Prop} {T : Nat → Prop} {w1 : World} (hc : ∀ w', Chs T w1 w' → w'.cell? ⟨g, o, none⟩ = some v0 ∧ w'.cell? ⟨g, o + 1, none⟩ = some v1 ∧ w'.cell? ⟨g, o + 2, none⟩ = some v2 ∧ w'.cell? ⟨g, o + 3, none⟩ = some v3) : TakeS Tryd.prog (Chs T w1) (Instr.loadAt 38 (.pointer (some ⟨g, o, none⟩))) (@hid _ ⟨K⟩) = K (.agg #[v0, v1, v2, v3]) := tk_S (fun w' hq => (kld38 g o (fun v' w'' => v' = .agg #[v0, v1, v2, v3] ∧ w'' = w') w').mpr (by obtain ⟨h0, h1, h2, h3⟩ := hc w' hq; simp only [h0, h1, h2, h3, optK_some']; first | exact ⟨rfl, rfl⟩ | exact ⟨trivial, rfl⟩ | exact ⟨trivial, trivial⟩))

theorem qkfa40_1 (g o : Nat)  {K : Value → Prop} {T : Nat → Prop} {w1 : World} : TakeS Tryd.prog (Chs T w1) (Instr.fieldAt 40 (.pointer (some ⟨g, o, none⟩)) 1) (@hid _ ⟨K⟩) = K (.pointer (some ⟨g, o + 1, none⟩)) := tk_S (fun w' _ => (kfa40_1 g o (fun v' w'' => v' = (.pointer (some ⟨g, o + 1, none⟩)) ∧ w'' = w') w').mpr ⟨rfl, rfl⟩)

theorem qkbleq3 (x y : Int)  {K : Value → Prop} {T : Nat → Prop} {w1 : World} : BinT Tryd.prog (Chs T w1) .leq 3 (.int .i64 x) (.int .i64 y) (@hid _ ⟨K⟩) = K (.bool (decide (x ≤ y))) := tk_B (fun w' => (kbleq3 x y (fun v' w'' => v' = (.bool (decide (x ≤ y))) ∧ w'' = w') w').mpr ⟨rfl, rfl⟩)

theorem qkfa52_0 (g o : Nat)  {K : Value → Prop} {T : Nat → Prop} {w1 : World} : TakeS Tryd.prog (Chs T w1) (Instr.fieldAt 52 (.pointer (some ⟨g, o, none⟩)) 0) (@hid _ ⟨K⟩) = K (.pointer (some ⟨g, o, none⟩)) := tk_S (fun w' _ => (kfa52_0 g o (fun v' w'' => v' = (.pointer (some ⟨g, o, none⟩)) ∧ w'' = w') w').mpr ⟨rfl, rfl⟩)

theorem qkfa52_1 (g o : Nat)  {K : Value → Prop} {T : Nat → Prop} {w1 : World} : TakeS Tryd.prog (Chs T w1) (Instr.fieldAt 52 (.pointer (some ⟨g, o, none⟩)) 1) (@hid _ ⟨K⟩) = K (.pointer (some ⟨g, o + 1, none⟩)) := tk_S (fun w' _ => (kfa52_1 g o (fun v' w'' => v' = (.pointer (some ⟨g, o + 1, none⟩)) ∧ w'' = w') w').mpr ⟨rfl, rfl⟩)

theorem qkfa52_2 (g o : Nat)  {K : Value → Prop} {T : Nat → Prop} {w1 : World} : TakeS Tryd.prog (Chs T w1) (Instr.fieldAt 52 (.pointer (some ⟨g, o, none⟩)) 2) (@hid _ ⟨K⟩) = K (.pointer (some ⟨g, o + 2, none⟩)) := tk_S (fun w' _ => (kfa52_2 g o (fun v' w'' => v' = (.pointer (some ⟨g, o + 2, none⟩)) ∧ w'' = w') w').mpr ⟨rfl, rfl⟩)

theorem qkfa52_3 (g o : Nat)  {K : Value → Prop} {T : Nat → Prop} {w1 : World} : TakeS Tryd.prog (Chs T w1) (Instr.fieldAt 52 (.pointer (some ⟨g, o, none⟩)) 3) (@hid _ ⟨K⟩) = K (.pointer (some ⟨g, o + 3, none⟩)) := tk_S (fun w' _ => (kfa52_3 g o (fun v' w'' => v' = (.pointer (some ⟨g, o + 3, none⟩)) ∧ w'' = w') w').mpr ⟨rfl, rfl⟩)

theorem qkfa60_0 (g o : Nat)  {K : Value → Prop} {T : Nat → Prop} {w1 : World} : TakeS Tryd.prog (Chs T w1) (Instr.fieldAt 60 (.pointer (some ⟨g, o, none⟩)) 0) (@hid _ ⟨K⟩) = K (.pointer (some ⟨g, o, none⟩)) := tk_S (fun w' _ => (kfa60_0 g o (fun v' w'' => v' = (.pointer (some ⟨g, o, none⟩)) ∧ w'' = w') w').mpr ⟨rfl, rfl⟩)

theorem qkld3 {a : Addr} {v : Value} {K : Value → Prop} {T : Nat → Prop} {w1 : World} (hc : ∀ w', Chs T w1 w' → w'.cell? a = some v) : TakeS Tryd.prog (Chs T w1) (Instr.loadAt 3 (.pointer (some a))) (@hid _ ⟨K⟩) = K v := tk_S (fun w' hq => (kld3 a (fun v' w'' => v' = v ∧ w'' = w') w').mpr (by rw [hc w' hq]; exact ⟨rfl, rfl⟩))

theorem qkfa60_1 (g o : Nat)  {K : Value → Prop} {T : Nat → Prop} {w1 : World} : TakeS Tryd.prog (Chs T w1) (Instr.fieldAt 60 (.pointer (some ⟨g, o, none⟩)) 1) (@hid _ ⟨K⟩) = K (.pointer (some ⟨g, o + 1, none⟩)) := tk_S (fun w' _ => (kfa60_1 g o (fun v' w'' => v' = (.pointer (some ⟨g, o + 1, none⟩)) ∧ w'' = w') w').mpr ⟨rfl, rfl⟩)

theorem qkld33 {a : Addr} {v : Value} {K : Value → Prop} {T : Nat → Prop} {w1 : World} (hc : ∀ w', Chs T w1 w' → w'.cell? a = some v) : TakeS Tryd.prog (Chs T w1) (Instr.loadAt 33 (.pointer (some a))) (@hid _ ⟨K⟩) = K v := tk_S (fun w' hq => (kld33 a (fun v' w'' => v' = v ∧ w'' = w') w').mpr (by rw [hc w' hq]; exact ⟨rfl, rfl⟩))

theorem qksl33_010z  {K : Value → Prop} {T : Nat → Prop} {w1 : World} : TakeS Tryd.prog (Chs T w1) (Instr.sliceAt 33 (.slice none 0 0) none (some (.int .i64 0)) none) (@hid _ ⟨K⟩) = K (.slice none 0 0) := tk_S (fun w' _ => (ksl33_010z  (fun v' w'' => v' = (.slice none 0 0) ∧ w'' = w') w').mpr ⟨rfl, rfl⟩)

theorem qksl33_010 (g o n c : Nat) (h : Int) (hb : 0 ≤ h ∧ h ≤ (c : Int))  {K : Value → Prop} {T : Nat → Prop} {w1 : World} : TakeS Tryd.prog (Chs T w1) (Instr.sliceAt 33 (.slice (some ⟨g, o, none⟩) n c) none (some (.int .i64 h)) none) (@hid _ ⟨K⟩) = K (.slice (some ⟨g, o, none⟩) h.toNat c) := tk_S (fun w' _ => (ksl33_010 g o n c h hb (fun v' w'' => v' = (.slice (some ⟨g, o, none⟩) h.toNat c) ∧ w'' = w') w').mpr ⟨rfl, rfl⟩)

theorem qksl33_100z  {K : Value → Prop} {T : Nat → Prop} {w1 : World} : TakeS Tryd.prog (Chs T w1) (Instr.sliceAt 33 (.slice none 0 0) (some (.int .i64 0)) none none) (@hid _ ⟨K⟩) = K (.slice none 0 0) := tk_S (fun w' _ => (ksl33_100z  (fun v' w'' => v' = (.slice none 0 0) ∧ w'' = w') w').mpr ⟨rfl, rfl⟩)

theorem qksl33_100 (g o n c : Nat) (l : Int) (hb : 0 ≤ l ∧ l ≤ (n : Int))  {K : Value → Prop} {T : Nat → Prop} {w1 : World} : TakeS Tryd.prog (Chs T w1) (Instr.sliceAt 33 (.slice (some ⟨g, o, none⟩) n c) (some (.int .i64 l)) none none) (@hid _ ⟨K⟩) = K (.slice (if c = l.toNat then some ⟨g, o, none⟩ else some ⟨g, o + l.toNat * 6, none⟩) (n - l.toNat) (c - l.toNat)) := tk_S (fun w' _ => (ksl33_100 g o n c l hb (fun v' w'' => v' = (.slice (if c = l.toNat then some ⟨g, o, none⟩ else some ⟨g, o + l.toNat * 6, none⟩) (n - l.toNat) (c - l.toNat)) ∧ w'' = w') w').mpr ⟨rfl, rfl⟩)

theorem qkfa121_2 (g o : Nat)  {K : Value → Prop} {T : Nat → Prop} {w1 : World} : TakeS Tryd.prog (Chs T w1) (Instr.fieldAt 121 (.pointer (some ⟨g, o, none⟩)) 2) (@hid _ ⟨K⟩) = K (.pointer (some ⟨g, o + 2, none⟩)) := tk_S (fun w' _ => (kfa121_2 g o (fun v' w'' => v' = (.pointer (some ⟨g, o + 2, none⟩)) ∧ w'' = w') w').mpr ⟨rfl, rfl⟩)

theorem qklen70 (A : Option Addr) (n c : Nat)  {K : Value → Prop} {T : Nat → Prop} {w1 : World} : TakeO Tryd.prog (Chs T w1) (builtin .len #[70] 3 #[false] #[(.slice A n c)]) (@hid _ ⟨K⟩) = K (.int .i64 (n : Int)) := tk_O (fun w => by (first | (go_simp; rfl) | (go_simp; done)))

theorem qkblss3 (x y : Int)  {K : Value → Prop} {T : Nat → Prop} {w1 : World} : BinT Tryd.prog (Chs T w1) .lss 3 (.int .i64 x) (.int .i64 y) (@hid _ ⟨K⟩) = K (.bool (decide (x < y))) := tk_B (fun w' => (kblss3 x y (fun v' w'' => v' = (.bool (decide (x < y))) ∧ w'' = w') w').mpr ⟨rfl, rfl⟩)

theorem qkld76 {g o : Nat} {v0 v1 v2 : Value} {K : Value → Prop} {T : Nat → Prop} {w1 : World} (hc : ∀ w', Chs T w1 w' → w'.cell? ⟨g, o, none⟩ = some v0 ∧ w'.cell? ⟨g, o + 1, none⟩ = some v1 ∧ w'.cell? ⟨g, o + 2, none⟩ = some v2) : TakeS Tryd.prog (Chs T w1) (Instr.loadAt 76 (.pointer (some ⟨g, o, none⟩))) (@hid _ ⟨K⟩) = K (.agg #[v0, v1, v2]) := tk_S (fun w' hq => (kld76 g o (fun v' w'' => v' = .agg #[v0, v1, v2] ∧ w'' = w') w').mpr (by obtain ⟨h0, h1, h2⟩ := hc w' hq; simp only [h0, h1, h2, optK_some']; first | exact ⟨rfl, rfl⟩ | exact ⟨trivial, rfl⟩ | exact ⟨trivial, trivial⟩))

theorem qksl70_010z  {K : Value → Prop} {T : Nat → Prop} {w1 : World} : TakeS Tryd.prog (Chs T w1) (Instr.sliceAt 70 (.slice none 0 0) none (some (.int .i64 0)) none) (@hid _ ⟨K⟩) = K (.slice none 0 0) := tk_S (fun w' _ => (ksl70_010z  (fun v' w'' => v' = (.slice none 0 0) ∧ w'' = w') w').mpr ⟨rfl, rfl⟩)

theorem qksl70_010 (g o n c : Nat) (h : Int) (hb : 0 ≤ h ∧ h ≤ (c : Int))  {K : Value → Prop} {T : Nat → Prop} {w1 : World} : TakeS Tryd.prog (Chs T w1) (Instr.sliceAt 70 (.slice (some ⟨g, o, none⟩) n c) none (some (.int .i64 h)) none) (@hid _ ⟨K⟩) = K (.slice (some ⟨g, o, none⟩) h.toNat c) := tk_S (fun w' _ => (ksl70_010 g o n c h hb (fun v' w'' => v' = (.slice (some ⟨g, o, none⟩) h.toNat c) ∧ w'' = w') w').mpr ⟨rfl, rfl⟩)

theorem qkfa65_2 (g o : Nat)  {K : Value → Prop} {T : Nat → Prop} {w1 : World} : TakeS Tryd.prog (Chs T w1) (Instr.fieldAt 65 (.pointer (some ⟨g, o, none⟩)) 2) (@hid _ ⟨K⟩) = K (.pointer (some ⟨g, o + 5, none⟩)) := tk_S (fun w' _ => (kfa65_2 g o (fun v' w'' => v' = (.pointer (some ⟨g, o + 5, none⟩)) ∧ w'' = w') w').mpr ⟨rfl, rfl⟩)

theorem qkld63 {a : Addr} {v : Value} {K : Value → Prop} {T : Nat → Prop} {w1 : World} (hc : ∀ w', Chs T w1 w' → w'.cell? a = some v) : TakeS Tryd.prog (Chs T w1) (Instr.loadAt 63 (.pointer (some a))) (@hid _ ⟨K⟩) = K v := tk_S (fun w' hq => (kld63 a (fun v' w'' => v' = v ∧ w'' = w') w').mpr (by rw [hc w' hq]; exact ⟨rfl, rfl⟩))

theorem qkia63 (g o n c : Nat) (i : Int) (h : 0 ≤ i ∧ i < (n : Int))  {K : Value → Prop} {T : Nat → Prop} {w1 : World} : TakeS Tryd.prog (Chs T w1) (Instr.indexAt 63 (.slice (some ⟨g, o, none⟩) n c) (.int .i64 i)) (@hid _ ⟨K⟩) = K (.pointer (some ⟨g, o + i.toNat * 5, none⟩)) := tk_S (fun w' _ => (kia63 g o n c i h (fun v' w'' => v' = (.pointer (some ⟨g, o + i.toNat * 5, none⟩)) ∧ w'' = w') w').mpr ⟨rfl, rfl⟩)

theorem qkfa133_0 (g o : Nat)  {K : Value → Prop} {T : Nat → Prop} {w1 : World} : TakeS Tryd.prog (Chs T w1) (Instr.fieldAt 133 (.pointer (some ⟨g, o, none⟩)) 0) (@hid _ ⟨K⟩) = K (.pointer (some ⟨g, o, none⟩)) := tk_S (fun w' _ => (kfa133_0 g o (fun v' w'' => v' = (.pointer (some ⟨g, o, none⟩)) ∧ w'' = w') w').mpr ⟨rfl, rfl⟩)

theorem qkfa55_2 (g o : Nat)  {K : Value → Prop} {T : Nat → Prop} {w1 : World} : TakeS Tryd.prog (Chs T w1) (Instr.fieldAt 55 (.pointer (some ⟨g, o, none⟩)) 2) (@hid _ ⟨K⟩) = K (.pointer (some ⟨g, o + 5, none⟩)) := tk_S (fun w' _ => (kfa55_2 g o (fun v' w'' => v' = (.pointer (some ⟨g, o + 5, none⟩)) ∧ w'' = w') w').mpr ⟨rfl, rfl⟩)

theorem qkld53 {a : Addr} {v : Value} {K : Value → Prop} {T : Nat → Prop} {w1 : World} (hc : ∀ w', Chs T w1 w' → w'.cell? a = some v) : TakeS Tryd.prog (Chs T w1) (Instr.loadAt 53 (.pointer (some a))) (@hid _ ⟨K⟩) = K v := tk_S (fun w' hq => (kld53 a (fun v' w'' => v' = v ∧ w'' = w') w').mpr (by rw [hc w' hq]; exact ⟨rfl, rfl⟩))

theorem qklen23 (A : Option Addr) (n c : Nat)  {K : Value → Prop} {T : Nat → Prop} {w1 : World} : TakeO Tryd.prog (Chs T w1) (builtin .len #[23] 3 #[false] #[(.slice A n c)]) (@hid _ ⟨K⟩) = K (.int .i64 (n : Int)) := tk_O (fun w => by (first | (go_simp; rfl) | (go_simp; done)))

theorem qkld85 {g o : Nat} {v0 v1 v2 v3 v4 : Value} {K : Value → Prop} {T : Nat → Prop} {w1 : World} (hc : ∀ w', Chs T w1 w' → w'.cell? ⟨g, o, none⟩ = some v0 ∧ w'.cell? ⟨g, o + 1, none⟩ = some v1 ∧ w'.cell? ⟨g, o + 2, none⟩ = some v2 ∧ w'.cell? ⟨g, o + 3, none⟩ = some v3 ∧ w'.cell? ⟨g, o + 4, none⟩ = some v4) : TakeS Tryd.prog (Chs T w1) (Instr.loadAt 85 (.pointer (some ⟨g, o, none⟩))) (@hid _ ⟨K⟩) = K (.agg #[v0, v1, v2, v3, v4]) := tk_S (fun w' hq => (kld85 g o (fun v' w'' => v' = .agg #[v0, v1, v2, v3, v4] ∧ w'' = w') w').mpr (by obtain ⟨h0, h1, h2, h3, h4⟩ := hc w' hq; simp only [h0, h1, h2, h3, h4, optK_some']; first | exact ⟨rfl, rfl⟩ | exact ⟨trivial, rfl⟩ | exact ⟨trivial, trivial⟩))

theorem qkblss9 (x y : ByteArray)  {K : Value → Prop} {T : Nat → Prop} {w1 : World} : BinT Tryd.prog (Chs T w1) .lss 9 (.string x) (.string y) (@hid _ ⟨K⟩) = K (.bool (Op.bytesLess x.toList y.toList)) := tk_B (fun w' => (kblss9 x y (fun v' w'' => v' = (.bool (Op.bytesLess x.toList y.toList)) ∧ w'' = w') w').mpr ⟨rfl, rfl⟩)

theorem qkld22 {a : Addr} {v : Value} {K : Value → Prop} {T : Nat → Prop} {w1 : World} (hc : ∀ w', Chs T w1 w' → w'.cell? a = some v) : TakeS Tryd.prog (Chs T w1) (Instr.loadAt 22 (.pointer (some a))) (@hid _ ⟨K⟩) = K v := tk_S (fun w' hq => (kld22 a (fun v' w'' => v' = v ∧ w'' = w') w').mpr (by rw [hc w' hq]; exact ⟨rfl, rfl⟩))

theorem qkfa38_0 (g o : Nat)  {K : Value → Prop} {T : Nat → Prop} {w1 : World} : TakeS Tryd.prog (Chs T w1) (Instr.fieldAt 38 (.pointer (some ⟨g, o, none⟩)) 0) (@hid _ ⟨K⟩) = K (.pointer (some ⟨g, o, none⟩)) := tk_S (fun w' _ => (kfa38_0 g o (fun v' w'' => v' = (.pointer (some ⟨g, o, none⟩)) ∧ w'' = w') w').mpr ⟨rfl, rfl⟩)

theorem qkfa38_1 (g o : Nat)  {K : Value → Prop} {T : Nat → Prop} {w1 : World} : TakeS Tryd.prog (Chs T w1) (Instr.fieldAt 38 (.pointer (some ⟨g, o, none⟩)) 1) (@hid _ ⟨K⟩) = K (.pointer (some ⟨g, o + 1, none⟩)) := tk_S (fun w' _ => (kfa38_1 g o (fun v' w'' => v' = (.pointer (some ⟨g, o + 1, none⟩)) ∧ w'' = w') w').mpr ⟨rfl, rfl⟩)

theorem qkfa38_2 (g o : Nat)  {K : Value → Prop} {T : Nat → Prop} {w1 : World} : TakeS Tryd.prog (Chs T w1) (Instr.fieldAt 38 (.pointer (some ⟨g, o, none⟩)) 2) (@hid _ ⟨K⟩) = K (.pointer (some ⟨g, o + 2, none⟩)) := tk_S (fun w' _ => (kfa38_2 g o (fun v' w'' => v' = (.pointer (some ⟨g, o + 2, none⟩)) ∧ w'' = w') w').mpr ⟨rfl, rfl⟩)

theorem qkfa38_3 (g o : Nat)  {K : Value → Prop} {T : Nat → Prop} {w1 : World} : TakeS Tryd.prog (Chs T w1) (Instr.fieldAt 38 (.pointer (some ⟨g, o, none⟩)) 3) (@hid _ ⟨K⟩) = K (.pointer (some ⟨g, o + 3, none⟩)) := tk_S (fun w' _ => (kfa38_3 g o (fun v' w'' => v' = (.pointer (some ⟨g, o + 3, none⟩)) ∧ w'' = w') w').mpr ⟨rfl, rfl⟩)

theorem qklen33 (A : Option Addr) (n c : Nat)  {K : Value → Prop} {T : Nat → Prop} {w1 : World} : TakeO Tryd.prog (Chs T w1) (builtin .len #[33] 3 #[false] #[(.slice A n c)]) (@hid _ ⟨K⟩) = K (.int .i64 (n : Int)) := tk_O (fun w => by (first | (go_simp; rfl) | (go_simp; done)))

theorem qkfa121_3 (g o : Nat)  {K : Value → Prop} {T : Nat → Prop} {w1 : World} : TakeS Tryd.prog (Chs T w1) (Instr.fieldAt 121 (.pointer (some ⟨g, o, none⟩)) 3) (@hid _ ⟨K⟩) = K (.pointer (some ⟨g, o + 3, none⟩)) := tk_S (fun w' _ => (kfa121_3 g o (fun v' w'' => v' = (.pointer (some ⟨g, o + 3, none⟩)) ∧ w'' = w') w').mpr ⟨rfl, rfl⟩)

theorem qkld80 {a : Addr} {v : Value} {K : Value → Prop} {T : Nat → Prop} {w1 : World} (hc : ∀ w', Chs T w1 w' → w'.cell? a = some v) : TakeS Tryd.prog (Chs T w1) (Instr.loadAt 80 (.pointer (some a))) (@hid _ ⟨K⟩) = K v := tk_S (fun w' hq => (kld80 a (fun v' w'' => v' = v ∧ w'' = w') w').mpr (by rw [hc w' hq]; exact ⟨rfl, rfl⟩))

theorem qkbgeq2 (x y : Int)  {K : Value → Prop} {T : Nat → Prop} {w1 : World} : BinT Tryd.prog (Chs T w1) .geq 2 (.int .i64 x) (.int .i64 y) (@hid _ ⟨K⟩) = K (.bool (decide (y ≤ x))) := tk_B (fun w' => (kbgeq2 x y (fun v' w'' => v' = (.bool (decide (y ≤ x))) ∧ w'' = w') w').mpr ⟨rfl, rfl⟩)

theorem qkia53 (g o n c : Nat) (i : Int) (h : 0 ≤ i ∧ i < (n : Int))  {K : Value → Prop} {T : Nat → Prop} {w1 : World} : TakeS Tryd.prog (Chs T w1) (Instr.indexAt 53 (.slice (some ⟨g, o, none⟩) n c) (.int .i64 i)) (@hid _ ⟨K⟩) = K (.pointer (some ⟨g, o + i.toNat * 5, none⟩)) := tk_S (fun w' _ => (kia53 g o n c i h (fun v' w'' => v' = (.pointer (some ⟨g, o + i.toNat * 5, none⟩)) ∧ w'' = w') w').mpr ⟨rfl, rfl⟩)

theorem qkfa128_0 (g o : Nat)  {K : Value → Prop} {T : Nat → Prop} {w1 : World} : TakeS Tryd.prog (Chs T w1) (Instr.fieldAt 128 (.pointer (some ⟨g, o, none⟩)) 0) (@hid _ ⟨K⟩) = K (.pointer (some ⟨g, o, none⟩)) := tk_S (fun w' _ => (kfa128_0 g o (fun v' w'' => v' = (.pointer (some ⟨g, o, none⟩)) ∧ w'' = w') w').mpr ⟨rfl, rfl⟩)

theorem qkfa128_1 (g o : Nat)  {K : Value → Prop} {T : Nat → Prop} {w1 : World} : TakeS Tryd.prog (Chs T w1) (Instr.fieldAt 128 (.pointer (some ⟨g, o, none⟩)) 1) (@hid _ ⟨K⟩) = K (.pointer (some ⟨g, o + 1, none⟩)) := tk_S (fun w' _ => (kfa128_1 g o (fun v' w'' => v' = (.pointer (some ⟨g, o + 1, none⟩)) ∧ w'' = w') w').mpr ⟨rfl, rfl⟩)

theorem qkld126 {g o : Nat} {v0 v1 v2 v3 : Value} {K : Value → Prop} {T : Nat → Prop} {w1 : World} (hc : ∀ w', Chs T w1 w' → w'.cell? ⟨g, o, none⟩ = some v0 ∧ w'.cell? ⟨g, o + 1, none⟩ = some v1 ∧ w'.cell? ⟨g, o + 2, none⟩ = some v2 ∧ w'.cell? ⟨g, o + 3, none⟩ = some v3) : TakeS Tryd.prog (Chs T w1) (Instr.loadAt 126 (.pointer (some ⟨g, o, none⟩))) (@hid _ ⟨K⟩) = K (.agg #[v0, v1, v2, v3]) := tk_S (fun w' hq => (kld126 g o (fun v' w'' => v' = .agg #[v0, v1, v2, v3] ∧ w'' = w') w').mpr (by obtain ⟨h0, h1, h2, h3⟩ := hc w' hq; simp only [h0, h1, h2, h3, optK_some']; first | exact ⟨rfl, rfl⟩ | exact ⟨trivial, rfl⟩ | exact ⟨trivial, trivial⟩))

theorem qkfa133_1 (g o : Nat)  {K : Value → Prop} {T : Nat → Prop} {w1 : World} : TakeS Tryd.prog (Chs T w1) (Instr.fieldAt 133 (.pointer (some ⟨g, o, none⟩)) 1) (@hid _ ⟨K⟩) = K (.pointer (some ⟨g, o + 1, none⟩)) := tk_S (fun w' _ => (kfa133_1 g o (fun v' w'' => v' = (.pointer (some ⟨g, o + 1, none⟩)) ∧ w'' = w') w').mpr ⟨rfl, rfl⟩)

theorem qkld121 {g o : Nat} {v0 v1 v2 v3 : Value} {K : Value → Prop} {T : Nat → Prop} {w1 : World} (hc : ∀ w', Chs T w1 w' → w'.cell? ⟨g, o, none⟩ = some v0 ∧ w'.cell? ⟨g, o + 1, none⟩ = some v1 ∧ w'.cell? ⟨g, o + 2, none⟩ = some v2 ∧ w'.cell? ⟨g, o + 3, none⟩ = some v3) : TakeS Tryd.prog (Chs T w1) (Instr.loadAt 121 (.pointer (some ⟨g, o, none⟩))) (@hid _ ⟨K⟩) = K (.agg #[v0, v1, v2, v3]) := tk_S (fun w' hq => (kld121 g o (fun v' w'' => v' = .agg #[v0, v1, v2, v3] ∧ w'' = w') w').mpr (by obtain ⟨h0, h1, h2, h3⟩ := hc w' hq; simp only [h0, h1, h2, h3, optK_some']; first | exact ⟨rfl, rfl⟩ | exact ⟨trivial, rfl⟩ | exact ⟨trivial, trivial⟩))

theorem qkld73 {g o : Nat} {v0 v1 v2 : Value} {K : Value → Prop} {T : Nat → Prop} {w1 : World} (hc : ∀ w', Chs T w1 w' → w'.cell? ⟨g, o, none⟩ = some v0 ∧ w'.cell? ⟨g, o + 1, none⟩ = some v1 ∧ w'.cell? ⟨g, o + 2, none⟩ = some v2) : TakeS Tryd.prog (Chs T w1) (Instr.loadAt 73 (.pointer (some ⟨g, o, none⟩))) (@hid _ ⟨K⟩) = K (.agg #[v0, v1, v2]) := tk_S (fun w' hq => (kld73 g o (fun v' w'' => v' = .agg #[v0, v1, v2] ∧ w'' = w') w').mpr (by obtain ⟨h0, h1, h2⟩ := hc w' hq; simp only [h0, h1, h2, optK_some']; first | exact ⟨rfl, rfl⟩ | exact ⟨trivial, rfl⟩ | exact ⟨trivial, trivial⟩))

theorem qklen24 (A : Option Addr) (n c : Nat)  {K : Value → Prop} {T : Nat → Prop} {w1 : World} : TakeO Tryd.prog (Chs T w1) (builtin .len #[24] 3 #[false] #[(.slice A n c)]) (@hid _ ⟨K⟩) = K (.int .i64 (n : Int)) := tk_O (fun w => by (first | (go_simp; rfl) | (go_simp; done)))

theorem ck3 {args : Array Value} {K : Value → World → Prop} {w : World} (h : CallK Tryd.prog 3 args K w) : CallV Tryd.prog (.func (.func 3) #[] #[]) args K w := callV_func Tryd.func3 (by kernel_rfl) (by kernel_rfl) h
theorem ck4 {args : Array Value} {K : Value → World → Prop} {w : World} (h : CallK Tryd.prog 4 args K w) : CallV Tryd.prog (.func (.func 4) #[] #[]) args K w := callV_func Tryd.func4 (by kernel_rfl) (by kernel_rfl) h
theorem ck5 {args : Array Value} {K : Value → World → Prop} {w : World} (h : CallK Tryd.prog 5 args K w) : CallV Tryd.prog (.func (.func 5) #[] #[]) args K w := callV_func Tryd.func5 (by kernel_rfl) (by kernel_rfl) h
theorem ck6 {args : Array Value} {K : Value → World → Prop} {w : World} (h : CallK Tryd.prog 6 args K w) : CallV Tryd.prog (.func (.func 6) #[] #[]) args K w := callV_func Tryd.func6 (by kernel_rfl) (by kernel_rfl) h
theorem ck7 {args : Array Value} {K : Value → World → Prop} {w : World} (h : CallK Tryd.prog 7 args K w) : CallV Tryd.prog (.func (.func 7) #[] #[]) args K w := callV_func Tryd.func7 (by kernel_rfl) (by kernel_rfl) h
theorem ck8 {args : Array Value} {K : Value → World → Prop} {w : World} (h : CallK Tryd.prog 8 args K w) : CallV Tryd.prog (.func (.func 8) #[] #[]) args K w := callV_func Tryd.func8 (by kernel_rfl) (by kernel_rfl) h
theorem ck9 {args : Array Value} {K : Value → World → Prop} {w : World} (h : CallK Tryd.prog 9 args K w) : CallV Tryd.prog (.func (.func 9) #[] #[]) args K w := callV_func Tryd.func9 (by kernel_rfl) (by kernel_rfl) h
theorem ck10 {args : Array Value} {K : Value → World → Prop} {w : World} (h : CallK Tryd.prog 10 args K w) : CallV Tryd.prog (.func (.func 10) #[] #[]) args K w := callV_func Tryd.func10 (by kernel_rfl) (by kernel_rfl) h
theorem ck11 {args : Array Value} {K : Value → World → Prop} {w : World} (h : CallK Tryd.prog 11 args K w) : CallV Tryd.prog (.func (.func 11) #[] #[]) args K w := callV_func Tryd.func11 (by kernel_rfl) (by kernel_rfl) h
theorem ck12 {args : Array Value} {K : Value → World → Prop} {w : World} (h : CallK Tryd.prog 12 args K w) : CallV Tryd.prog (.func (.func 12) #[] #[]) args K w := callV_func Tryd.func12 (by kernel_rfl) (by kernel_rfl) h
theorem ck13 {args : Array Value} {K : Value → World → Prop} {w : World} (h : CallK Tryd.prog 13 args K w) : CallV Tryd.prog (.func (.func 13) #[] #[]) args K w := callV_func Tryd.func13 (by kernel_rfl) (by kernel_rfl) h
theorem ck14 {args : Array Value} {K : Value → World → Prop} {w : World} (h : CallK Tryd.prog 14 args K w) : CallV Tryd.prog (.func (.func 14) #[] #[]) args K w := callV_func Tryd.func14 (by kernel_rfl) (by kernel_rfl) h
theorem ck15 {args : Array Value} {K : Value → World → Prop} {w : World} (h : CallK Tryd.prog 15 args K w) : CallV Tryd.prog (.func (.func 15) #[] #[]) args K w := callV_func Tryd.func15 (by kernel_rfl) (by kernel_rfl) h
theorem ck16 {args : Array Value} {K : Value → World → Prop} {w : World} (h : CallK Tryd.prog 16 args K w) : CallV Tryd.prog (.func (.func 16) #[] #[]) args K w := callV_func Tryd.func16 (by kernel_rfl) (by kernel_rfl) h
theorem ck17 {args : Array Value} {K : Value → World → Prop} {w : World} (h : CallK Tryd.prog 17 args K w) : CallV Tryd.prog (.func (.func 17) #[] #[]) args K w := callV_func Tryd.func17 (by kernel_rfl) (by kernel_rfl) h
theorem ck18 {args : Array Value} {K : Value → World → Prop} {w : World} (h : CallK Tryd.prog 18 args K w) : CallV Tryd.prog (.func (.func 18) #[] #[]) args K w := callV_func Tryd.func18 (by kernel_rfl) (by kernel_rfl) h
theorem ck19 {args : Array Value} {K : Value → World → Prop} {w : World} (h : CallK Tryd.prog 19 args K w) : CallV Tryd.prog (.func (.func 19) #[] #[]) args K w := callV_func Tryd.func19 (by kernel_rfl) (by kernel_rfl) h
theorem ck20 {args : Array Value} {K : Value → World → Prop} {w : World} (h : CallK Tryd.prog 20 args K w) : CallV Tryd.prog (.func (.func 20) #[] #[]) args K w := callV_func Tryd.func20 (by kernel_rfl) (by kernel_rfl) h
theorem ck21 {args : Array Value} {K : Value → World → Prop} {w : World} (h : CallK Tryd.prog 21 args K w) : CallV Tryd.prog (.func (.func 21) #[] #[]) args K w := callV_func Tryd.func21 (by kernel_rfl) (by kernel_rfl) h
theorem ck22 {args : Array Value} {K : Value → World → Prop} {w : World} (h : CallK Tryd.prog 22 args K w) : CallV Tryd.prog (.func (.func 22) #[] #[]) args K w := callV_func Tryd.func22 (by kernel_rfl) (by kernel_rfl) h
theorem ck23 {args : Array Value} {K : Value → World → Prop} {w : World} (h : CallK Tryd.prog 23 args K w) : CallV Tryd.prog (.func (.func 23) #[] #[]) args K w := callV_func Tryd.func23 (by kernel_rfl) (by kernel_rfl) h
theorem ck24 {args : Array Value} {K : Value → World → Prop} {w : World} (h : CallK Tryd.prog 24 args K w) : CallV Tryd.prog (.func (.func 24) #[] #[]) args K w := callV_func Tryd.func24 (by kernel_rfl) (by kernel_rfl) h
theorem ck25 {args : Array Value} {K : Value → World → Prop} {w : World} (h : CallK Tryd.prog 25 args K w) : CallV Tryd.prog (.func (.func 25) #[] #[]) args K w := callV_func Tryd.func25 (by kernel_rfl) (by kernel_rfl) h
theorem ck26 {args : Array Value} {K : Value → World → Prop} {w : World} (h : CallK Tryd.prog 26 args K w) : CallV Tryd.prog (.func (.func 26) #[] #[]) args K w := callV_func Tryd.func26 (by kernel_rfl) (by kernel_rfl) h
theorem ck27 {args : Array Value} {K : Value → World → Prop} {w : World} (h : CallK Tryd.prog 27 args K w) : CallV Tryd.prog (.func (.func 27) #[] #[]) args K w := callV_func Tryd.func27 (by kernel_rfl) (by kernel_rfl) h
theorem ck28 {args : Array Value} {K : Value → World → Prop} {w : World} (h : CallK Tryd.prog 28 args K w) : CallV Tryd.prog (.func (.func 28) #[] #[]) args K w := callV_func Tryd.func28 (by kernel_rfl) (by kernel_rfl) h
theorem ck29 {args : Array Value} {K : Value → World → Prop} {w : World} (h : CallK Tryd.prog 29 args K w) : CallV Tryd.prog (.func (.func 29) #[] #[]) args K w := callV_func Tryd.func29 (by kernel_rfl) (by kernel_rfl) h
theorem ck30 {args : Array Value} {K : Value → World → Prop} {w : World} (h : CallK Tryd.prog 30 args K w) : CallV Tryd.prog (.func (.func 30) #[] #[]) args K w := callV_func Tryd.func30 (by kernel_rfl) (by kernel_rfl) h
theorem ck31 {args : Array Value} {K : Value → World → Prop} {w : World} (h : CallK Tryd.prog 31 args K w) : CallV Tryd.prog (.func (.func 31) #[] #[]) args K w := callV_func Tryd.func31 (by kernel_rfl) (by kernel_rfl) h
theorem ck32 {args : Array Value} {K : Value → World → Prop} {w : World} (h : CallK Tryd.prog 32 args K w) : CallV Tryd.prog (.func (.func 32) #[] #[]) args K w := callV_func Tryd.func32 (by kernel_rfl) (by kernel_rfl) h
theorem ck33 {args : Array Value} {K : Value → World → Prop} {w : World} (h : CallK Tryd.prog 33 args K w) : CallV Tryd.prog (.func (.func 33) #[] #[]) args K w := callV_func Tryd.func33 (by kernel_rfl) (by kernel_rfl) h
theorem ck34 {args : Array Value} {K : Value → World → Prop} {w : World} (h : CallK Tryd.prog 34 args K w) : CallV Tryd.prog (.func (.func 34) #[] #[]) args K w := callV_func Tryd.func34 (by kernel_rfl) (by kernel_rfl) h
theorem ck35 {args : Array Value} {K : Value → World → Prop} {w : World} (h : CallK Tryd.prog 35 args K w) : CallV Tryd.prog (.func (.func 35) #[] #[]) args K w := callV_func Tryd.func35 (by kernel_rfl) (by kernel_rfl) h
theorem ck36 {args : Array Value} {K : Value → World → Prop} {w : World} (h : CallK Tryd.prog 36 args K w) : CallV Tryd.prog (.func (.func 36) #[] #[]) args K w := callV_func Tryd.func36 (by kernel_rfl) (by kernel_rfl) h
theorem ck37 {args : Array Value} {K : Value → World → Prop} {w : World} (h : CallK Tryd.prog 37 args K w) : CallV Tryd.prog (.func (.func 37) #[] #[]) args K w := callV_func Tryd.func37 (by kernel_rfl) (by kernel_rfl) h
theorem ck38 {args : Array Value} {K : Value → World → Prop} {w : World} (h : CallK Tryd.prog 38 args K w) : CallV Tryd.prog (.func (.func 38) #[] #[]) args K w := callV_func Tryd.func38 (by kernel_rfl) (by kernel_rfl) h
theorem ck39 {args : Array Value} {K : Value → World → Prop} {w : World} (h : CallK Tryd.prog 39 args K w) : CallV Tryd.prog (.func (.func 39) #[] #[]) args K w := callV_func Tryd.func39 (by kernel_rfl) (by kernel_rfl) h
theorem ck40 {args : Array Value} {K : Value → World → Prop} {w : World} (h : CallK Tryd.prog 40 args K w) : CallV Tryd.prog (.func (.func 40) #[] #[]) args K w := callV_func Tryd.func40 (by kernel_rfl) (by kernel_rfl) h
theorem ck41 {args : Array Value} {K : Value → World → Prop} {w : World} (h : CallK Tryd.prog 41 args K w) : CallV Tryd.prog (.func (.func 41) #[] #[]) args K w := callV_func Tryd.func41 (by kernel_rfl) (by kernel_rfl) h
theorem ck42 {args : Array Value} {K : Value → World → Prop} {w : World} (h : CallK Tryd.prog 42 args K w) : CallV Tryd.prog (.func (.func 42) #[] #[]) args K w := callV_func Tryd.func42 (by kernel_rfl) (by kernel_rfl) h
theorem ck43 {args : Array Value} {K : Value → World → Prop} {w : World} (h : CallK Tryd.prog 43 args K w) : CallV Tryd.prog (.func (.func 43) #[] #[]) args K w := callV_func Tryd.func43 (by kernel_rfl) (by kernel_rfl) h
theorem ck44 {args : Array Value} {K : Value → World → Prop} {w : World} (h : CallK Tryd.prog 44 args K w) : CallV Tryd.prog (.func (.func 44) #[] #[]) args K w := callV_func Tryd.func44 (by kernel_rfl) (by kernel_rfl) h
theorem ck45 {args : Array Value} {K : Value → World → Prop} {w : World} (h : CallK Tryd.prog 45 args K w) : CallV Tryd.prog (.func (.func 45) #[] #[]) args K w := callV_func Tryd.func45 (by kernel_rfl) (by kernel_rfl) h
theorem ck46 {args : Array Value} {K : Value → World → Prop} {w : World} (h : CallK Tryd.prog 46 args K w) : CallV Tryd.prog (.func (.func 46) #[] #[]) args K w := callV_func Tryd.func46 (by kernel_rfl) (by kernel_rfl) h
theorem ck47 {args : Array Value} {K : Value → World → Prop} {w : World} (h : CallK Tryd.prog 47 args K w) : CallV Tryd.prog (.func (.func 47) #[] #[]) args K w := callV_func Tryd.func47 (by kernel_rfl) (by kernel_rfl) h
theorem ck48 {args : Array Value} {K : Value → World → Prop} {w : World} (h : CallK Tryd.prog 48 args K w) : CallV Tryd.prog (.func (.func 48) #[] #[]) args K w := callV_func Tryd.func48 (by kernel_rfl) (by kernel_rfl) h
theorem ck49 {args : Array Value} {K : Value → World → Prop} {w : World} (h : CallK Tryd.prog 49 args K w) : CallV Tryd.prog (.func (.func 49) #[] #[]) args K w := callV_func Tryd.func49 (by kernel_rfl) (by kernel_rfl) h
theorem ck50 {args : Array Value} {K : Value → World → Prop} {w : World} (h : CallK Tryd.prog 50 args K w) : CallV Tryd.prog (.func (.func 50) #[] #[]) args K w := callV_func Tryd.func50 (by kernel_rfl) (by kernel_rfl) h
theorem ck51 {args : Array Value} {K : Value → World → Prop} {w : World} (h : CallK Tryd.prog 51 args K w) : CallV Tryd.prog (.func (.func 51) #[] #[]) args K w := callV_func Tryd.func51 (by kernel_rfl) (by kernel_rfl) h
theorem ck52 {args : Array Value} {K : Value → World → Prop} {w : World} (h : CallK Tryd.prog 52 args K w) : CallV Tryd.prog (.func (.func 52) #[] #[]) args K w := callV_func Tryd.func52 (by kernel_rfl) (by kernel_rfl) h
theorem ck53 {args : Array Value} {K : Value → World → Prop} {w : World} (h : CallK Tryd.prog 53 args K w) : CallV Tryd.prog (.func (.func 53) #[] #[]) args K w := callV_func Tryd.func53 (by kernel_rfl) (by kernel_rfl) h
theorem ck54 {args : Array Value} {K : Value → World → Prop} {w : World} (h : CallK Tryd.prog 54 args K w) : CallV Tryd.prog (.func (.func 54) #[] #[]) args K w := callV_func Tryd.func54 (by kernel_rfl) (by kernel_rfl) h
theorem ck55 {args : Array Value} {K : Value → World → Prop} {w : World} (h : CallK Tryd.prog 55 args K w) : CallV Tryd.prog (.func (.func 55) #[] #[]) args K w := callV_func Tryd.func55 (by kernel_rfl) (by kernel_rfl) h
theorem ck56 {args : Array Value} {K : Value → World → Prop} {w : World} (h : CallK Tryd.prog 56 args K w) : CallV Tryd.prog (.func (.func 56) #[] #[]) args K w := callV_func Tryd.func56 (by kernel_rfl) (by kernel_rfl) h
theorem ck57 {args : Array Value} {K : Value → World → Prop} {w : World} (h : CallK Tryd.prog 57 args K w) : CallV Tryd.prog (.func (.func 57) #[] #[]) args K w := callV_func Tryd.func57 (by kernel_rfl) (by kernel_rfl) h
theorem ck58 {args : Array Value} {K : Value → World → Prop} {w : World} (h : CallK Tryd.prog 58 args K w) : CallV Tryd.prog (.func (.func 58) #[] #[]) args K w := callV_func Tryd.func58 (by kernel_rfl) (by kernel_rfl) h
theorem ck59 {args : Array Value} {K : Value → World → Prop} {w : World} (h : CallK Tryd.prog 59 args K w) : CallV Tryd.prog (.func (.func 59) #[] #[]) args K w := callV_func Tryd.func59 (by kernel_rfl) (by kernel_rfl) h
theorem ck60 {args : Array Value} {K : Value → World → Prop} {w : World} (h : CallK Tryd.prog 60 args K w) : CallV Tryd.prog (.func (.func 60) #[] #[]) args K w := callV_func Tryd.func60 (by kernel_rfl) (by kernel_rfl) h
theorem ck61 {args : Array Value} {K : Value → World → Prop} {w : World} (h : CallK Tryd.prog 61 args K w) : CallV Tryd.prog (.func (.func 61) #[] #[]) args K w := callV_func Tryd.func61 (by kernel_rfl) (by kernel_rfl) h
theorem ck62 {args : Array Value} {K : Value → World → Prop} {w : World} (h : CallK Tryd.prog 62 args K w) : CallV Tryd.prog (.func (.func 62) #[] #[]) args K w := callV_func Tryd.func62 (by kernel_rfl) (by kernel_rfl) h
theorem ck63 {args : Array Value} {K : Value → World → Prop} {w : World} (h : CallK Tryd.prog 63 args K w) : CallV Tryd.prog (.func (.func 63) #[] #[]) args K w := callV_func Tryd.func63 (by kernel_rfl) (by kernel_rfl) h
theorem ck64 {args : Array Value} {K : Value → World → Prop} {w : World} (h : CallK Tryd.prog 64 args K w) : CallV Tryd.prog (.func (.func 64) #[] #[]) args K w := callV_func Tryd.func64 (by kernel_rfl) (by kernel_rfl) h
theorem ck65 {args : Array Value} {K : Value → World → Prop} {w : World} (h : CallK Tryd.prog 65 args K w) : CallV Tryd.prog (.func (.func 65) #[] #[]) args K w := callV_func Tryd.func65 (by kernel_rfl) (by kernel_rfl) h
theorem ck66 {args : Array Value} {K : Value → World → Prop} {w : World} (h : CallK Tryd.prog 66 args K w) : CallV Tryd.prog (.func (.func 66) #[] #[]) args K w := callV_func Tryd.func66 (by kernel_rfl) (by kernel_rfl) h
theorem ck67 {args : Array Value} {K : Value → World → Prop} {w : World} (h : CallK Tryd.prog 67 args K w) : CallV Tryd.prog (.func (.func 67) #[] #[]) args K w := callV_func Tryd.func67 (by kernel_rfl) (by kernel_rfl) h
theorem ck68 {args : Array Value} {K : Value → World → Prop} {w : World} (h : CallK Tryd.prog 68 args K w) : CallV Tryd.prog (.func (.func 68) #[] #[]) args K w := callV_func Tryd.func68 (by kernel_rfl) (by kernel_rfl) h
theorem ck69 {args : Array Value} {K : Value → World → Prop} {w : World} (h : CallK Tryd.prog 69 args K w) : CallV Tryd.prog (.func (.func 69) #[] #[]) args K w := callV_func Tryd.func69 (by kernel_rfl) (by kernel_rfl) h
theorem ck70 {args : Array Value} {K : Value → World → Prop} {w : World} (h : CallK Tryd.prog 70 args K w) : CallV Tryd.prog (.func (.func 70) #[] #[]) args K w := callV_func Tryd.func70 (by kernel_rfl) (by kernel_rfl) h
theorem ck71 {args : Array Value} {K : Value → World → Prop} {w : World} (h : CallK Tryd.prog 71 args K w) : CallV Tryd.prog (.func (.func 71) #[] #[]) args K w := callV_func Tryd.func71 (by kernel_rfl) (by kernel_rfl) h
theorem ck72 {args : Array Value} {K : Value → World → Prop} {w : World} (h : CallK Tryd.prog 72 args K w) : CallV Tryd.prog (.func (.func 72) #[] #[]) args K w := callV_func Tryd.func72 (by kernel_rfl) (by kernel_rfl) h
theorem ck73 {args : Array Value} {K : Value → World → Prop} {w : World} (h : CallK Tryd.prog 73 args K w) : CallV Tryd.prog (.func (.func 73) #[] #[]) args K w := callV_func Tryd.func73 (by kernel_rfl) (by kernel_rfl) h
theorem ck74 {args : Array Value} {K : Value → World → Prop} {w : World} (h : CallK Tryd.prog 74 args K w) : CallV Tryd.prog (.func (.func 74) #[] #[]) args K w := callV_func Tryd.func74 (by kernel_rfl) (by kernel_rfl) h
theorem ck75 {args : Array Value} {K : Value → World → Prop} {w : World} (h : CallK Tryd.prog 75 args K w) : CallV Tryd.prog (.func (.func 75) #[] #[]) args K w := callV_func Tryd.func75 (by kernel_rfl) (by kernel_rfl) h
theorem ck76 {args : Array Value} {K : Value → World → Prop} {w : World} (h : CallK Tryd.prog 76 args K w) : CallV Tryd.prog (.func (.func 76) #[] #[]) args K w := callV_func Tryd.func76 (by kernel_rfl) (by kernel_rfl) h
theorem ck77 {args : Array Value} {K : Value → World → Prop} {w : World} (h : CallK Tryd.prog 77 args K w) : CallV Tryd.prog (.func (.func 77) #[] #[]) args K w := callV_func Tryd.func77 (by kernel_rfl) (by kernel_rfl) h
theorem ck78 {args : Array Value} {K : Value → World → Prop} {w : World} (h : CallK Tryd.prog 78 args K w) : CallV Tryd.prog (.func (.func 78) #[] #[]) args K w := callV_func Tryd.func78 (by kernel_rfl) (by kernel_rfl) h
theorem ck79 {args : Array Value} {K : Value → World → Prop} {w : World} (h : CallK Tryd.prog 79 args K w) : CallV Tryd.prog (.func (.func 79) #[] #[]) args K w := callV_func Tryd.func79 (by kernel_rfl) (by kernel_rfl) h
theorem ck80 {args : Array Value} {K : Value → World → Prop} {w : World} (h : CallK Tryd.prog 80 args K w) : CallV Tryd.prog (.func (.func 80) #[] #[]) args K w := callV_func Tryd.func80 (by kernel_rfl) (by kernel_rfl) h
theorem ck81 {args : Array Value} {K : Value → World → Prop} {w : World} (h : CallK Tryd.prog 81 args K w) : CallV Tryd.prog (.func (.func 81) #[] #[]) args K w := callV_func Tryd.func81 (by kernel_rfl) (by kernel_rfl) h
theorem ck82 {args : Array Value} {K : Value → World → Prop} {w : World} (h : CallK Tryd.prog 82 args K w) : CallV Tryd.prog (.func (.func 82) #[] #[]) args K w := callV_func Tryd.func82 (by kernel_rfl) (by kernel_rfl) h
theorem ck83 {args : Array Value} {K : Value → World → Prop} {w : World} (h : CallK Tryd.prog 83 args K w) : CallV Tryd.prog (.func (.func 83) #[] #[]) args K w := callV_func Tryd.func83 (by kernel_rfl) (by kernel_rfl) h
theorem ck84 {args : Array Value} {K : Value → World → Prop} {w : World} (h : CallK Tryd.prog 84 args K w) : CallV Tryd.prog (.func (.func 84) #[] #[]) args K w := callV_func Tryd.func84 (by kernel_rfl) (by kernel_rfl) h
theorem ck85 {args : Array Value} {K : Value → World → Prop} {w : World} (h : CallK Tryd.prog 85 args K w) : CallV Tryd.prog (.func (.func 85) #[] #[]) args K w := callV_func Tryd.func85 (by kernel_rfl) (by kernel_rfl) h
theorem ck86 {args : Array Value} {K : Value → World → Prop} {w : World} (h : CallK Tryd.prog 86 args K w) : CallV Tryd.prog (.func (.func 86) #[] #[]) args K w := callV_func Tryd.func86 (by kernel_rfl) (by kernel_rfl) h
theorem ck87 {args : Array Value} {K : Value → World → Prop} {w : World} (h : CallK Tryd.prog 87 args K w) : CallV Tryd.prog (.func (.func 87) #[] #[]) args K w := callV_func Tryd.func87 (by kernel_rfl) (by kernel_rfl) h
theorem ck88 {args : Array Value} {K : Value → World → Prop} {w : World} (h : CallK Tryd.prog 88 args K w) : CallV Tryd.prog (.func (.func 88) #[] #[]) args K w := callV_func Tryd.func88 (by kernel_rfl) (by kernel_rfl) h
theorem ck89 {args : Array Value} {K : Value → World → Prop} {w : World} (h : CallK Tryd.prog 89 args K w) : CallV Tryd.prog (.func (.func 89) #[] #[]) args K w := callV_func Tryd.func89 (by kernel_rfl) (by kernel_rfl) h
theorem ck90 {args : Array Value} {K : Value → World → Prop} {w : World} (h : CallK Tryd.prog 90 args K w) : CallV Tryd.prog (.func (.func 90) #[] #[]) args K w := callV_func Tryd.func90 (by kernel_rfl) (by kernel_rfl) h
theorem ck91 {args : Array Value} {K : Value → World → Prop} {w : World} (h : CallK Tryd.prog 91 args K w) : CallV Tryd.prog (.func (.func 91) #[] #[]) args K w := callV_func Tryd.func91 (by kernel_rfl) (by kernel_rfl) h
theorem ck92 {args : Array Value} {K : Value → World → Prop} {w : World} (h : CallK Tryd.prog 92 args K w) : CallV Tryd.prog (.func (.func 92) #[] #[]) args K w := callV_func Tryd.func92 (by kernel_rfl) (by kernel_rfl) h
theorem ck93 {args : Array Value} {K : Value → World → Prop} {w : World} (h : CallK Tryd.prog 93 args K w) : CallV Tryd.prog (.func (.func 93) #[] #[]) args K w := callV_func Tryd.func93 (by kernel_rfl) (by kernel_rfl) h
theorem ck94 {args : Array Value} {K : Value → World → Prop} {w : World} (h : CallK Tryd.prog 94 args K w) : CallV Tryd.prog (.func (.func 94) #[] #[]) args K w := callV_func Tryd.func94 (by kernel_rfl) (by kernel_rfl) h
theorem ck96 {args : Array Value} {K : Value → World → Prop} {w : World} (h : CallK Tryd.prog 96 args K w) : CallV Tryd.prog (.func (.func 96) #[] #[]) args K w := callV_func Tryd.func96 (by kernel_rfl) (by kernel_rfl) h
theorem ck97 {args : Array Value} {K : Value → World → Prop} {w : World} (h : CallK Tryd.prog 97 args K w) : CallV Tryd.prog (.func (.func 97) #[] #[]) args K w := callV_func Tryd.func97 (by kernel_rfl) (by kernel_rfl) h
theorem ck98 {args : Array Value} {K : Value → World → Prop} {w : World} (h : CallK Tryd.prog 98 args K w) : CallV Tryd.prog (.func (.func 98) #[] #[]) args K w := callV_func Tryd.func98 (by kernel_rfl) (by kernel_rfl) h
theorem ck99 {args : Array Value} {K : Value → World → Prop} {w : World} (h : CallK Tryd.prog 99 args K w) : CallV Tryd.prog (.func (.func 99) #[] #[]) args K w := callV_func Tryd.func99 (by kernel_rfl) (by kernel_rfl) h
theorem ck100 {args : Array Value} {K : Value → World → Prop} {w : World} (h : CallK Tryd.prog 100 args K w) : CallV Tryd.prog (.func (.func 100) #[] #[]) args K w := callV_func Tryd.func100 (by kernel_rfl) (by kernel_rfl) h
theorem ck101 {args : Array Value} {K : Value → World → Prop} {w : World} (h : CallK Tryd.prog 101 args K w) : CallV Tryd.prog (.func (.func 101) #[] #[]) args K w := callV_func Tryd.func101 (by kernel_rfl) (by kernel_rfl) h
theorem ck102 {args : Array Value} {K : Value → World → Prop} {w : World} (h : CallK Tryd.prog 102 args K w) : CallV Tryd.prog (.func (.func 102) #[] #[]) args K w := callV_func Tryd.func102 (by kernel_rfl) (by kernel_rfl) h
theorem ck103 {args : Array Value} {K : Value → World → Prop} {w : World} (h : CallK Tryd.prog 103 args K w) : CallV Tryd.prog (.func (.func 103) #[] #[]) args K w := callV_func Tryd.func103 (by kernel_rfl) (by kernel_rfl) h
theorem ck104 {args : Array Value} {K : Value → World → Prop} {w : World} (h : CallK Tryd.prog 104 args K w) : CallV Tryd.prog (.func (.func 104) #[] #[]) args K w := callV_func Tryd.func104 (by kernel_rfl) (by kernel_rfl) h
theorem ck105 {args : Array Value} {K : Value → World → Prop} {w : World} (h : CallK Tryd.prog 105 args K w) : CallV Tryd.prog (.func (.func 105) #[] #[]) args K w := callV_func Tryd.func105 (by kernel_rfl) (by kernel_rfl) h
theorem ck106 {args : Array Value} {K : Value → World → Prop} {w : World} (h : CallK Tryd.prog 106 args K w) : CallV Tryd.prog (.func (.func 106) #[] #[]) args K w := callV_func Tryd.func106 (by kernel_rfl) (by kernel_rfl) h
theorem ck107 {args : Array Value} {K : Value → World → Prop} {w : World} (h : CallK Tryd.prog 107 args K w) : CallV Tryd.prog (.func (.func 107) #[] #[]) args K w := callV_func Tryd.func107 (by kernel_rfl) (by kernel_rfl) h
theorem ck108 {args : Array Value} {K : Value → World → Prop} {w : World} (h : CallK Tryd.prog 108 args K w) : CallV Tryd.prog (.func (.func 108) #[] #[]) args K w := callV_func Tryd.func108 (by kernel_rfl) (by kernel_rfl) h
theorem ck110 {args : Array Value} {K : Value → World → Prop} {w : World} (h : CallK Tryd.prog 110 args K w) : CallV Tryd.prog (.func (.func 110) #[] #[]) args K w := callV_func Tryd.func110 (by kernel_rfl) (by kernel_rfl) h
theorem ck111 {args : Array Value} {K : Value → World → Prop} {w : World} (h : CallK Tryd.prog 111 args K w) : CallV Tryd.prog (.func (.func 111) #[] #[]) args K w := callV_func Tryd.func111 (by kernel_rfl) (by kernel_rfl) h
theorem ck112 {args : Array Value} {K : Value → World → Prop} {w : World} (h : CallK Tryd.prog 112 args K w) : CallV Tryd.prog (.func (.func 112) #[] #[]) args K w := callV_func Tryd.func112 (by kernel_rfl) (by kernel_rfl) h
theorem ck113 {args : Array Value} {K : Value → World → Prop} {w : World} (h : CallK Tryd.prog 113 args K w) : CallV Tryd.prog (.func (.func 113) #[] #[]) args K w := callV_func Tryd.func113 (by kernel_rfl) (by kernel_rfl) h
theorem ck114 {args : Array Value} {K : Value → World → Prop} {w : World} (h : CallK Tryd.prog 114 args K w) : CallV Tryd.prog (.func (.func 114) #[] #[]) args K w := callV_func Tryd.func114 (by kernel_rfl) (by kernel_rfl) h
theorem ck115 {args : Array Value} {K : Value → World → Prop} {w : World} (h : CallK Tryd.prog 115 args K w) : CallV Tryd.prog (.func (.func 115) #[] #[]) args K w := callV_func Tryd.func115 (by kernel_rfl) (by kernel_rfl) h
theorem ck116 {args : Array Value} {K : Value → World → Prop} {w : World} (h : CallK Tryd.prog 116 args K w) : CallV Tryd.prog (.func (.func 116) #[] #[]) args K w := callV_func Tryd.func116 (by kernel_rfl) (by kernel_rfl) h
theorem ck117 {args : Array Value} {K : Value → World → Prop} {w : World} (h : CallK Tryd.prog 117 args K w) : CallV Tryd.prog (.func (.func 117) #[] #[]) args K w := callV_func Tryd.func117 (by kernel_rfl) (by kernel_rfl) h
theorem ck118 {args : Array Value} {K : Value → World → Prop} {w : World} (h : CallK Tryd.prog 118 args K w) : CallV Tryd.prog (.func (.func 118) #[] #[]) args K w := callV_func Tryd.func118 (by kernel_rfl) (by kernel_rfl) h
theorem ck119 {args : Array Value} {K : Value → World → Prop} {w : World} (h : CallK Tryd.prog 119 args K w) : CallV Tryd.prog (.func (.func 119) #[] #[]) args K w := callV_func Tryd.func119 (by kernel_rfl) (by kernel_rfl) h
theorem ck120 {args : Array Value} {K : Value → World → Prop} {w : World} (h : CallK Tryd.prog 120 args K w) : CallV Tryd.prog (.func (.func 120) #[] #[]) args K w := callV_func Tryd.func120 (by kernel_rfl) (by kernel_rfl) h
theorem ck121 {args : Array Value} {K : Value → World → Prop} {w : World} (h : CallK Tryd.prog 121 args K w) : CallV Tryd.prog (.func (.func 121) #[] #[]) args K w := callV_func Tryd.func121 (by kernel_rfl) (by kernel_rfl) h
theorem ck122 {args : Array Value} {K : Value → World → Prop} {w : World} (h : CallK Tryd.prog 122 args K w) : CallV Tryd.prog (.func (.func 122) #[] #[]) args K w := callV_func Tryd.func122 (by kernel_rfl) (by kernel_rfl) h
theorem ck126 {args : Array Value} {K : Value → World → Prop} {w : World} (h : CallK Tryd.prog 126 args K w) : CallV Tryd.prog (.func (.func 126) #[] #[]) args K w := callV_func Tryd.func126 (by kernel_rfl) (by kernel_rfl) h
theorem ck127 {args : Array Value} {K : Value → World → Prop} {w : World} (h : CallK Tryd.prog 127 args K w) : CallV Tryd.prog (.func (.func 127) #[] #[]) args K w := callV_func Tryd.func127 (by kernel_rfl) (by kernel_rfl) h
theorem ck128 {args : Array Value} {K : Value → World → Prop} {w : World} (h : CallK Tryd.prog 128 args K w) : CallV Tryd.prog (.func (.func 128) #[] #[]) args K w := callV_func Tryd.func128 (by kernel_rfl) (by kernel_rfl) h
theorem cv3 {args : Array Value} {K : Value → World → Prop} {w : World} {v : Value} {R : World → Prop} (h : Calls Tryd.prog 3 args w fun e w' => e = .returned v ∧ R w') (hk : ∀ w', R w' → K v w') : CallV Tryd.prog (.func (.func 3) #[] #[]) args K w := callV_of Tryd.func3 (by kernel_rfl) (by kernel_rfl) h hk
theorem cv4 {args : Array Value} {K : Value → World → Prop} {w : World} {v : Value} {R : World → Prop} (h : Calls Tryd.prog 4 args w fun e w' => e = .returned v ∧ R w') (hk : ∀ w', R w' → K v w') : CallV Tryd.prog (.func (.func 4) #[] #[]) args K w := callV_of Tryd.func4 (by kernel_rfl) (by kernel_rfl) h hk
theorem cv5 {args : Array Value} {K : Value → World → Prop} {w : World} {v : Value} {R : World → Prop} (h : Calls Tryd.prog 5 args w fun e w' => e = .returned v ∧ R w') (hk : ∀ w', R w' → K v w') : CallV Tryd.prog (.func (.func 5) #[] #[]) args K w := callV_of Tryd.func5 (by kernel_rfl) (by kernel_rfl) h hk
theorem cv6 {args : Array Value} {K : Value → World → Prop} {w : World} {v : Value} {R : World → Prop} (h : Calls Tryd.prog 6 args w fun e w' => e = .returned v ∧ R w') (hk : ∀ w', R w' → K v w') : CallV Tryd.prog (.func (.func 6) #[] #[]) args K w := callV_of Tryd.func6 (by kernel_rfl) (by kernel_rfl) h hk
theorem cv7 {args : Array Value} {K : Value → World → Prop} {w : World} {v : Value} {R : World → Prop} (h : Calls Tryd.prog 7 args w fun e w' => e = .returned v ∧ R w') (hk : ∀ w', R w' → K v w') : CallV Tryd.prog (.func (.func 7) #[] #[]) args K w := callV_of Tryd.func7 (by kernel_rfl) (by kernel_rfl) h hk
theorem cv8 {args : Array Value} {K : Value → World → Prop} {w : World} {v : Value} {R : World → Prop} (h : Calls Tryd.prog 8 args w fun e w' => e = .returned v ∧ R w') (hk : ∀ w', R w' → K v w') : CallV Tryd.prog (.func (.func 8) #[] #[]) args K w := callV_of Tryd.func8 (by kernel_rfl) (by kernel_rfl) h hk
theorem cv9 {args : Array Value} {K : Value → World → Prop} {w : World} {v : Value} {R : World → Prop} (h : Calls Tryd.prog 9 args w fun e w' => e = .returned v ∧ R w') (hk : ∀ w', R w' → K v w') : CallV Tryd.prog (.func (.func 9) #[] #[]) args K w := callV_of Tryd.func9 (by kernel_rfl) (by kernel_rfl) h hk
theorem cv10 {args : Array Value} {K : Value → World → Prop} {w : World} {v : Value} {R : World → Prop} (h : Calls Tryd.prog 10 args w fun e w' => e = .returned v ∧ R w') (hk : ∀ w', R w' → K v w') : CallV Tryd.prog (.func (.func 10) #[] #[]) args K w := callV_of Tryd.func10 (by kernel_rfl) (by kernel_rfl) h hk
theorem cv11 {args : Array Value} {K : Value → World → Prop} {w : World} {v : Value} {R : World → Prop} (h : Calls Tryd.prog 11 args w fun e w' => e = .returned v ∧ R w') (hk : ∀ w', R w' → K v w') : CallV Tryd.prog (.func (.func 11) #[] #[]) args K w := callV_of Tryd.func11 (by kernel_rfl) (by kernel_rfl) h hk
theorem cv12 {args : Array Value} {K : Value → World → Prop} {w : World} {v : Value} {R : World → Prop} (h : Calls Tryd.prog 12 args w fun e w' => e = .returned v ∧ R w') (hk : ∀ w', R w' → K v w') : CallV Tryd.prog (.func (.func 12) #[] #[]) args K w := callV_of Tryd.func12 (by kernel_rfl) (by kernel_rfl) h hk
theorem cv13 {args : Array Value} {K : Value → World → Prop} {w : World} {v : Value} {R : World → Prop} (h : Calls Tryd.prog 13 args w fun e w' => e = .returned v ∧ R w') (hk : ∀ w', R w' → K v w') : CallV Tryd.prog (.func (.func 13) #[] #[]) args K w := callV_of Tryd.func13 (by kernel_rfl) (by kernel_rfl) h hk
theorem cv14 {args : Array Value} {K : Value → World → Prop} {w : World} {v : Value} {R : World → Prop} (h : Calls Tryd.prog 14 args w fun e w' => e = .returned v ∧ R w') (hk : ∀ w', R w' → K v w') : CallV Tryd.prog (.func (.func 14) #[] #[]) args K w := callV_of Tryd.func14 (by kernel_rfl) (by kernel_rfl) h hk
theorem cv15 {args : Array Value} {K : Value → World → Prop} {w : World} {v : Value} {R : World → Prop} (h : Calls Tryd.prog 15 args w fun e w' => e = .returned v ∧ R w') (hk : ∀ w', R w' → K v w') : CallV Tryd.prog (.func (.func 15) #[] #[]) args K w := callV_of Tryd.func15 (by kernel_rfl) (by kernel_rfl) h hk
theorem cv16 {args : Array Value} {K : Value → World → Prop} {w : World} {v : Value} {R : World → Prop} (h : Calls Tryd.prog 16 args w fun e w' => e = .returned v ∧ R w') (hk : ∀ w', R w' → K v w') : CallV Tryd.prog (.func (.func 16) #[] #[]) args K w := callV_of Tryd.func16 (by kernel_rfl) (by kernel_rfl) h hk
theorem cv17 {args : Array Value} {K : Value → World → Prop} {w : World} {v : Value} {R : World → Prop} (h : Calls Tryd.prog 17 args w fun e w' => e = .returned v ∧ R w') (hk : ∀ w', R w' → K v w') : CallV Tryd.prog (.func (.func 17) #[] #[]) args K w := callV_of Tryd.func17 (by kernel_rfl) (by kernel_rfl) h hk
theorem cv18 {args : Array Value} {K : Value → World → Prop} {w : World} {v : Value} {R : World → Prop} (h : Calls Tryd.prog 18 args w fun e w' => e = .returned v ∧ R w') (hk : ∀ w', R w' → K v w') : CallV Tryd.prog (.func (.func 18) #[] #[]) args K w := callV_of Tryd.func18 (by kernel_rfl) (by kernel_rfl) h hk
theorem cv19 {args : Array Value} {K : Value → World → Prop} {w : World} {v : Value} {R : World → Prop} (h : Calls Tryd.prog 19 args w fun e w' => e = .returned v ∧ R w') (hk : ∀ w', R w' → K v w') : CallV Tryd.prog (.func (.func 19) #[] #[]) args K w := callV_of Tryd.func19 (by kernel_rfl) (by kernel_rfl) h hk
theorem cv20 {args : Array Value} {K : Value → World → Prop} {w : World} {v : Value} {R : World → Prop} (h : Calls Tryd.prog 20 args w fun e w' => e = .returned v ∧ R w') (hk : ∀ w', R w' → K v w') : CallV Tryd.prog (.func (.func 20) #[] #[]) args K w := callV_of Tryd.func20 (by kernel_rfl) (by kernel_rfl) h hk
theorem cv21 {args : Array Value} {K : Value → World → Prop} {w : World} {v : Value} {R : World → Prop} (h : Calls Tryd.prog 21 args w fun e w' => e = .returned v ∧ R w') (hk : ∀ w', R w' → K v w') : CallV Tryd.prog (.func (.func 21) #[] #[]) args K w := callV_of Tryd.func21 (by kernel_rfl) (by kernel_rfl) h hk
theorem cv22 {args : Array Value} {K : Value → World → Prop} {w : World} {v : Value} {R : World → Prop} (h : Calls Tryd.prog 22 args w fun e w' => e = .returned v ∧ R w') (hk : ∀ w', R w' → K v w') : CallV Tryd.prog (.func (.func 22) #[] #[]) args K w := callV_of Tryd.func22 (by kernel_rfl) (by kernel_rfl) h hk
theorem cv23 {args : Array Value} {K : Value → World → Prop} {w : World} {v : Value} {R : World → Prop} (h : Calls Tryd.prog 23 args w fun e w' => e = .returned v ∧ R w') (hk : ∀ w', R w' → K v w') : CallV Tryd.prog (.func (.func 23) #[] #[]) args K w := callV_of Tryd.func23 (by kernel_rfl) (by kernel_rfl) h hk
theorem cv24 {args : Array Value} {K : Value → World → Prop} {w : World} {v : Value} {R : World → Prop} (h : Calls Tryd.prog 24 args w fun e w' => e = .returned v ∧ R w') (hk : ∀ w', R w' → K v w') : CallV Tryd.prog (.func (.func 24) #[] #[]) args K w := callV_of Tryd.func24 (by kernel_rfl) (by kernel_rfl) h hk
theorem cv25 {args : Array Value} {K : Value → World → Prop} {w : World} {v : Value} {R : World → Prop} (h : Calls Tryd.prog 25 args w fun e w' => e = .returned v ∧ R w') (hk : ∀ w', R w' → K v w') : CallV Tryd.prog (.func (.func 25) #[] #[]) args K w := callV_of Tryd.func25 (by kernel_rfl) (by kernel_rfl) h hk
theorem cv26 {args : Array Value} {K : Value → World → Prop} {w : World} {v : Value} {R : World → Prop} (h : Calls Tryd.prog 26 args w fun e w' => e = .returned v ∧ R w') (hk : ∀ w', R w' → K v w') : CallV Tryd.prog (.func (.func 26) #[] #[]) args K w := callV_of Tryd.func26 (by kernel_rfl) (by kernel_rfl) h hk
theorem cv27 {args : Array Value} {K : Value → World → Prop} {w : World} {v : Value} {R : World → Prop} (h : Calls Tryd.prog 27 args w fun e w' => e = .returned v ∧ R w') (hk : ∀ w', R w' → K v w') : CallV Tryd.prog (.func (.func 27) #[] #[]) args K w := callV_of Tryd.func27 (by kernel_rfl) (by kernel_rfl) h hk
theorem cv28 {args : Array Value} {K : Value → World → Prop} {w : World} {v : Value} {R : World → Prop} (h : Calls Tryd.prog 28 args w fun e w' => e = .returned v ∧ R w') (hk : ∀ w', R w' → K v w') : CallV Tryd.prog (.func (.func 28) #[] #[]) args K w := callV_of Tryd.func28 (by kernel_rfl) (by kernel_rfl) h hk
theorem cv29 {args : Array Value} {K : Value → World → Prop} {w : World} {v : Value} {R : World → Prop} (h : Calls Tryd.prog 29 args w fun e w' => e = .returned v ∧ R w') (hk : ∀ w', R w' → K v w') : CallV Tryd.prog (.func (.func 29) #[] #[]) args K w := callV_of Tryd.func29 (by kernel_rfl) (by kernel_rfl) h hk
theorem cv30 {args : Array Value} {K : Value → World → Prop} {w : World} {v : Value} {R : World → Prop} (h : Calls Tryd.prog 30 args w fun e w' => e = .returned v ∧ R w') (hk : ∀ w', R w' → K v w') : CallV Tryd.prog (.func (.func 30) #[] #[]) args K w := callV_of Tryd.func30 (by kernel_rfl) (by kernel_rfl) h hk
theorem cv31 {args : Array Value} {K : Value → World → Prop} {w : World} {v : Value} {R : World → Prop} (h : Calls Tryd.prog 31 args w fun e w' => e = .returned v ∧ R w') (hk : ∀ w', R w' → K v w') : CallV Tryd.prog (.func (.func 31) #[] #[]) args K w := callV_of Tryd.func31 (by kernel_rfl) (by kernel_rfl) h hk
theorem cv32 {args : Array Value} {K : Value → World → Prop} {w : World} {v : Value} {R : World → Prop} (h : Calls Tryd.prog 32 args w fun e w' => e = .returned v ∧ R w') (hk : ∀ w', R w' → K v w') : CallV Tryd.prog (.func (.func 32) #[] #[]) args K w := callV_of Tryd.func32 (by kernel_rfl) (by kernel_rfl) h hk
theorem cv33 {args : Array Value} {K : Value → World → Prop} {w : World} {v : Value} {R : World → Prop} (h : Calls Tryd.prog 33 args w fun e w' => e = .returned v ∧ R w') (hk : ∀ w', R w' → K v w') : CallV Tryd.prog (.func (.func 33) #[] #[]) args K w := callV_of Tryd.func33 (by kernel_rfl) (by kernel_rfl) h hk
theorem cv34 {args : Array Value} {K : Value → World → Prop} {w : World} {v : Value} {R : World → Prop} (h : Calls Tryd.prog 34 args w fun e w' => e = .returned v ∧ R w') (hk : ∀ w', R w' → K v w') : CallV Tryd.prog (.func (.func 34) #[] #[]) args K w := callV_of Tryd.func34 (by kernel_rfl) (by kernel_rfl) h hk
theorem cv35 {args : Array Value} {K : Value → World → Prop} {w : World} {v : Value} {R : World → Prop} (h : Calls Tryd.prog 35 args w fun e w' => e = .returned v ∧ R w') (hk : ∀ w', R w' → K v w') : CallV Tryd.prog (.func (.func 35) #[] #[]) args K w := callV_of Tryd.func35 (by kernel_rfl) (by kernel_rfl) h hk
theorem cv36 {args : Array Value} {K : Value → World → Prop} {w : World} {v : Value} {R : World → Prop} (h : Calls Tryd.prog 36 args w fun e w' => e = .returned v ∧ R w') (hk : ∀ w', R w' → K v w') : CallV Tryd.prog (.func (.func 36) #[] #[]) args K w := callV_of Tryd.func36 (by kernel_rfl) (by kernel_rfl) h hk
theorem cv37 {args : Array Value} {K : Value → World → Prop} {w : World} {v : Value} {R : World → Prop} (h : Calls Tryd.prog 37 args w fun e w' => e = .returned v ∧ R w') (hk : ∀ w', R w' → K v w') : CallV Tryd.prog (.func (.func 37) #[] #[]) args K w := callV_of Tryd.func37 (by kernel_rfl) (by kernel_rfl) h hk
theorem cv38 {args : Array Value} {K : Value → World → Prop} {w : World} {v : Value} {R : World → Prop} (h : Calls Tryd.prog 38 args w fun e w' => e = .returned v ∧ R w') (hk : ∀ w', R w' → K v w') : CallV Tryd.prog (.func (.func 38) #[] #[]) args K w := callV_of Tryd.func38 (by kernel_rfl) (by kernel_rfl) h hk
theorem cv39 {args : Array Value} {K : Value → World → Prop} {w : World} {v : Value} {R : World → Prop} (h : Calls Tryd.prog 39 args w fun e w' => e = .returned v ∧ R w') (hk : ∀ w', R w' → K v w') : CallV Tryd.prog (.func (.func 39) #[] #[]) args K w := callV_of Tryd.func39 (by kernel_rfl) (by kernel_rfl) h hk
theorem cv40 {args : Array Value} {K : Value → World → Prop} {w : World} {v : Value} {R : World → Prop} (h : Calls Tryd.prog 40 args w fun e w' => e = .returned v ∧ R w') (hk : ∀ w', R w' → K v w') : CallV Tryd.prog (.func (.func 40) #[] #[]) args K w := callV_of Tryd.func40 (by kernel_rfl) (by kernel_rfl) h hk
theorem cv41 {args : Array Value} {K : Value → World → Prop} {w : World} {v : Value} {R : World → Prop} (h : Calls Tryd.prog 41 args w fun e w' => e = .returned v ∧ R w') (hk : ∀ w', R w' → K v w') : CallV Tryd.prog (.func (.func 41) #[] #[]) args K w := callV_of Tryd.func41 (by kernel_rfl) (by kernel_rfl) h hk
theorem cv42 {args : Array Value} {K : Value → World → Prop} {w : World} {v : Value} {R : World → Prop} (h : Calls Tryd.prog 42 args w fun e w' => e = .returned v ∧ R w') (hk : ∀ w', R w' → K v w') : CallV Tryd.prog (.func (.func 42) #[] #[]) args K w := callV_of Tryd.func42 (by kernel_rfl) (by kernel_rfl) h hk
theorem cv43 {args : Array Value} {K : Value → World → Prop} {w : World} {v : Value} {R : World → Prop} (h : Calls Tryd.prog 43 args w fun e w' => e = .returned v ∧ R w') (hk : ∀ w', R w' → K v w') : CallV Tryd.prog (.func (.func 43) #[] #[]) args K w := callV_of Tryd.func43 (by kernel_rfl) (by kernel_rfl) h hk
theorem cv44 {args : Array Value} {K : Value → World → Prop} {w : World} {v : Value} {R : World → Prop} (h : Calls Tryd.prog 44 args w fun e w' => e = .returned v ∧ R w') (hk : ∀ w', R w' → K v w') : CallV Tryd.prog (.func (.func 44) #[] #[]) args K w := callV_of Tryd.func44 (by kernel_rfl) (by kernel_rfl) h hk
theorem cv45 {args : Array Value} {K : Value → World → Prop} {w : World} {v : Value} {R : World → Prop} (h : Calls Tryd.prog 45 args w fun e w' => e = .returned v ∧ R w') (hk : ∀ w', R w' → K v w') : CallV Tryd.prog (.func (.func 45) #[] #[]) args K w := callV_of Tryd.func45 (by kernel_rfl) (by kernel_rfl) h hk
theorem cv46 {args : Array Value} {K : Value → World → Prop} {w : World} {v : Value} {R : World → Prop} (h : Calls Tryd.prog 46 args w fun e w' => e = .returned v ∧ R w') (hk : ∀ w', R w' → K v w') : CallV Tryd.prog (.func (.func 46) #[] #[]) args K w := callV_of Tryd.func46 (by kernel_rfl) (by kernel_rfl) h hk
theorem cv47 {args : Array Value} {K : Value → World → Prop} {w : World} {v : Value} {R : World → Prop} (h : Calls Tryd.prog 47 args w fun e w' => e = .returned v ∧ R w') (hk : ∀ w', R w' → K v w') : CallV Tryd.prog (.func (.func 47) #[] #[]) args K w := callV_of Tryd.func47 (by kernel_rfl) (by kernel_rfl) h hk
theorem cv48 {args : Array Value} {K : Value → World → Prop} {w : World} {v : Value} {R : World → Prop} (h : Calls Tryd.prog 48 args w fun e w' => e = .returned v ∧ R w') (hk : ∀ w', R w' → K v w') : CallV Tryd.prog (.func (.func 48) #[] #[]) args K w := callV_of Tryd.func48 (by kernel_rfl) (by kernel_rfl) h hk
theorem cv49 {args : Array Value} {K : Value → World → Prop} {w : World} {v : Value} {R : World → Prop} (h : Calls Tryd.prog 49 args w fun e w' => e = .returned v ∧ R w') (hk : ∀ w', R w' → K v w') : CallV Tryd.prog (.func (.func 49) #[] #[]) args K w := callV_of Tryd.func49 (by kernel_rfl) (by kernel_rfl) h hk
theorem cv50 {args : Array Value} {K : Value → World → Prop} {w : World} {v : Value} {R : World → Prop} (h : Calls Tryd.prog 50 args w fun e w' => e = .returned v ∧ R w') (hk : ∀ w', R w' → K v w') : CallV Tryd.prog (.func (.func 50) #[] #[]) args K w := callV_of Tryd.func50 (by kernel_rfl) (by kernel_rfl) h hk
theorem cv51 {args : Array Value} {K : Value → World → Prop} {w : World} {v : Value} {R : World → Prop} (h : Calls Tryd.prog 51 args w fun e w' => e = .returned v ∧ R w') (hk : ∀ w', R w' → K v w') : CallV Tryd.prog (.func (.func 51) #[] #[]) args K w := callV_of Tryd.func51 (by kernel_rfl) (by kernel_rfl) h hk
theorem cv52 {args : Array Value} {K : Value → World → Prop} {w : World} {v : Value} {R : World → Prop} (h : Calls Tryd.prog 52 args w fun e w' => e = .returned v ∧ R w') (hk : ∀ w', R w' → K v w') : CallV Tryd.prog (.func (.func 52) #[] #[]) args K w := callV_of Tryd.func52 (by kernel_rfl) (by kernel_rfl) h hk
theorem cv53 {args : Array Value} {K : Value → World → Prop} {w : World} {v : Value} {R : World → Prop} (h : Calls Tryd.prog 53 args w fun e w' => e = .returned v ∧ R w') (hk : ∀ w', R w' → K v w') : CallV Tryd.prog (.func (.func 53) #[] #[]) args K w := callV_of Tryd.func53 (by kernel_rfl) (by kernel_rfl) h hk
theorem cv54 {args : Array Value} {K : Value → World → Prop} {w : World} {v : Value} {R : World → Prop} (h : Calls Tryd.prog 54 args w fun e w' => e = .returned v ∧ R w') (hk : ∀ w', R w' → K v w') : CallV Tryd.prog (.func (.func 54) #[] #[]) args K w := callV_of Tryd.func54 (by kernel_rfl) (by kernel_rfl) h hk
theorem cv55 {args : Array Value} {K : Value → World → Prop} {w : World} {v : Value} {R : World → Prop} (h : Calls Tryd.prog 55 args w fun e w' => e = .returned v ∧ R w') (hk : ∀ w', R w' → K v w') : CallV Tryd.prog (.func (.func 55) #[] #[]) args K w := callV_of Tryd.func55 (by kernel_rfl) (by kernel_rfl) h hk
theorem cv56 {args : Array Value} {K : Value → World → Prop} {w : World} {v : Value} {R : World → Prop} (h : Calls Tryd.prog 56 args w fun e w' => e = .returned v ∧ R w') (hk : ∀ w', R w' → K v w') : CallV Tryd.prog (.func (.func 56) #[] #[]) args K w := callV_of Tryd.func56 (by kernel_rfl) (by kernel_rfl) h hk
theorem cv57 {args : Array Value} {K : Value → World → Prop} {w : World} {v : Value} {R : World → Prop} (h : Calls Tryd.prog 57 args w fun e w' => e = .returned v ∧ R w') (hk : ∀ w', R w' → K v w') : CallV Tryd.prog (.func (.func 57) #[] #[]) args K w := callV_of Tryd.func57 (by kernel_rfl) (by kernel_rfl) h hk
theorem cv58 {args : Array Value} {K : Value → World → Prop} {w : World} {v : Value} {R : World → Prop} (h : Calls Tryd.prog 58 args w fun e w' => e = .returned v ∧ R w') (hk : ∀ w', R w' → K v w') : CallV Tryd.prog (.func (.func 58) #[] #[]) args K w := callV_of Tryd.func58 (by kernel_rfl) (by kernel_rfl) h hk
theorem cv59 {args : Array Value} {K : Value → World → Prop} {w : World} {v : Value} {R : World → Prop} (h : Calls Tryd.prog 59 args w fun e w' => e = .returned v ∧ R w') (hk : ∀ w', R w' → K v w') : CallV Tryd.prog (.func (.func 59) #[] #[]) args K w := callV_of Tryd.func59 (by kernel_rfl) (by kernel_rfl) h hk
theorem cv60 {args : Array Value} {K : Value → World → Prop} {w : World} {v : Value} {R : World → Prop} (h : Calls Tryd.prog 60 args w fun e w' => e = .returned v ∧ R w') (hk : ∀ w', R w' → K v w') : CallV Tryd.prog (.func (.func 60) #[] #[]) args K w := callV_of Tryd.func60 (by kernel_rfl) (by kernel_rfl) h hk
theorem cv61 {args : Array Value} {K : Value → World → Prop} {w : World} {v : Value} {R : World → Prop} (h : Calls Tryd.prog 61 args w fun e w' => e = .returned v ∧ R w') (hk : ∀ w', R w' → K v w') : CallV Tryd.prog (.func (.func 61) #[] #[]) args K w := callV_of Tryd.func61 (by kernel_rfl) (by kernel_rfl) h hk
theorem cv62 {args : Array Value} {K : Value → World → Prop} {w : World} {v : Value} {R : World → Prop} (h : Calls Tryd.prog 62 args w fun e w' => e = .returned v ∧ R w') (hk : ∀ w', R w' → K v w') : CallV Tryd.prog (.func (.func 62) #[] #[]) args K w := callV_of Tryd.func62 (by kernel_rfl) (by kernel_rfl) h hk
theorem cv63 {args : Array Value} {K : Value → World → Prop} {w : World} {v : Value} {R : World → Prop} (h : Calls Tryd.prog 63 args w fun e w' => e = .returned v ∧ R w') (hk : ∀ w', R w' → K v w') : CallV Tryd.prog (.func (.func 63) #[] #[]) args K w := callV_of Tryd.func63 (by kernel_rfl) (by kernel_rfl) h hk
theorem cv64 {args : Array Value} {K : Value → World → Prop} {w : World} {v : Value} {R : World → Prop} (h : Calls Tryd.prog 64 args w fun e w' => e = .returned v ∧ R w') (hk : ∀ w', R w' → K v w') : CallV Tryd.prog (.func (.func 64) #[] #[]) args K w := callV_of Tryd.func64 (by kernel_rfl) (by kernel_rfl) h hk
theorem cv65 {args : Array Value} {K : Value → World → Prop} {w : World} {v : Value} {R : World → Prop} (h : Calls Tryd.prog 65 args w fun e w' => e = .returned v ∧ R w') (hk : ∀ w', R w' → K v w') : CallV Tryd.prog (.func (.func 65) #[] #[]) args K w := callV_of Tryd.func65 (by kernel_rfl) (by kernel_rfl) h hk
theorem cv66 {args : Array Value} {K : Value → World → Prop} {w : World} {v : Value} {R : World → Prop} (h : Calls Tryd.prog 66 args w fun e w' => e = .returned v ∧ R w') (hk : ∀ w', R w' → K v w') : CallV Tryd.prog (.func (.func 66) #[] #[]) args K w := callV_of Tryd.func66 (by kernel_rfl) (by kernel_rfl) h hk
theorem cv67 {args : Array Value} {K : Value → World → Prop} {w : World} {v : Value} {R : World → Prop} (h : Calls Tryd.prog 67 args w fun e w' => e = .returned v ∧ R w') (hk : ∀ w', R w' → K v w') : CallV Tryd.prog (.func (.func 67) #[] #[]) args K w := callV_of Tryd.func67 (by kernel_rfl) (by kernel_rfl) h hk
theorem cv68 {args : Array Value} {K : Value → World → Prop} {w : World} {v : Value} {R : World → Prop} (h : Calls Tryd.prog 68 args w fun e w' => e = .returned v ∧ R w') (hk : ∀ w', R w' → K v w') : CallV Tryd.prog (.func (.func 68) #[] #[]) args K w := callV_of Tryd.func68 (by kernel_rfl) (by kernel_rfl) h hk
theorem cv69 {args : Array Value} {K : Value → World → Prop} {w : World} {v : Value} {R : World → Prop} (h : Calls Tryd.prog 69 args w fun e w' => e = .returned v ∧ R w') (hk : ∀ w', R w' → K v w') : CallV Tryd.prog (.func (.func 69) #[] #[]) args K w := callV_of Tryd.func69 (by kernel_rfl) (by kernel_rfl) h hk
theorem cv70 {args : Array Value} {K : Value → World → Prop} {w : World} {v : Value} {R : World → Prop} (h : Calls Tryd.prog 70 args w fun e w' => e = .returned v ∧ R w') (hk : ∀ w', R w' → K v w') : CallV Tryd.prog (.func (.func 70) #[] #[]) args K w := callV_of Tryd.func70 (by kernel_rfl) (by kernel_rfl) h hk
theorem cv71 {args : Array Value} {K : Value → World → Prop} {w : World} {v : Value} {R : World → Prop} (h : Calls Tryd.prog 71 args w fun e w' => e = .returned v ∧ R w') (hk : ∀ w', R w' → K v w') : CallV Tryd.prog (.func (.func 71) #[] #[]) args K w := callV_of Tryd.func71 (by kernel_rfl) (by kernel_rfl) h hk
theorem cv72 {args : Array Value} {K : Value → World → Prop} {w : World} {v : Value} {R : World → Prop} (h : Calls Tryd.prog 72 args w fun e w' => e = .returned v ∧ R w') (hk : ∀ w', R w' → K v w') : CallV Tryd.prog (.func (.func 72) #[] #[]) args K w := callV_of Tryd.func72 (by kernel_rfl) (by kernel_rfl) h hk
theorem cv73 {args : Array Value} {K : Value → World → Prop} {w : World} {v : Value} {R : World → Prop} (h : Calls Tryd.prog 73 args w fun e w' => e = .returned v ∧ R w') (hk : ∀ w', R w' → K v w') : CallV Tryd.prog (.func (.func 73) #[] #[]) args K w := callV_of Tryd.func73 (by kernel_rfl) (by kernel_rfl) h hk
theorem cv74 {args : Array Value} {K : Value → World → Prop} {w : World} {v : Value} {R : World → Prop} (h : Calls Tryd.prog 74 args w fun e w' => e = .returned v ∧ R w') (hk : ∀ w', R w' → K v w') : CallV Tryd.prog (.func (.func 74) #[] #[]) args K w := callV_of Tryd.func74 (by kernel_rfl) (by kernel_rfl) h hk
theorem cv75 {args : Array Value} {K : Value → World → Prop} {w : World} {v : Value} {R : World → Prop} (h : Calls Tryd.prog 75 args w fun e w' => e = .returned v ∧ R w') (hk : ∀ w', R w' → K v w') : CallV Tryd.prog (.func (.func 75) #[] #[]) args K w := callV_of Tryd.func75 (by kernel_rfl) (by kernel_rfl) h hk
theorem cv76 {args : Array Value} {K : Value → World → Prop} {w : World} {v : Value} {R : World → Prop} (h : Calls Tryd.prog 76 args w fun e w' => e = .returned v ∧ R w') (hk : ∀ w', R w' → K v w') : CallV Tryd.prog (.func (.func 76) #[] #[]) args K w := callV_of Tryd.func76 (by kernel_rfl) (by kernel_rfl) h hk
theorem cv77 {args : Array Value} {K : Value → World → Prop} {w : World} {v : Value} {R : World → Prop} (h : Calls Tryd.prog 77 args w fun e w' => e = .returned v ∧ R w') (hk : ∀ w', R w' → K v w') : CallV Tryd.prog (.func (.func 77) #[] #[]) args K w := callV_of Tryd.func77 (by kernel_rfl) (by kernel_rfl) h hk
theorem cv78 {args : Array Value} {K : Value → World → Prop} {w : World} {v : Value} {R : World → Prop} (h : Calls Tryd.prog 78 args w fun e w' => e = .returned v ∧ R w') (hk : ∀ w', R w' → K v w') : CallV Tryd.prog (.func (.func 78) #[] #[]) args K w := callV_of Tryd.func78 (by kernel_rfl) (by kernel_rfl) h hk
theorem cv79 {args : Array Value} {K : Value → World → Prop} {w : World} {v : Value} {R : World → Prop} (h : Calls Tryd.prog 79 args w fun e w' => e = .returned v ∧ R w') (hk : ∀ w', R w' → K v w') : CallV Tryd.prog (.func (.func 79) #[] #[]) args K w := callV_of Tryd.func79 (by kernel_rfl) (by kernel_rfl) h hk
theorem cv80 {args : Array Value} {K : Value → World → Prop} {w : World} {v : Value} {R : World → Prop} (h : Calls Tryd.prog 80 args w fun e w' => e = .returned v ∧ R w') (hk : ∀ w', R w' → K v w') : CallV Tryd.prog (.func (.func 80) #[] #[]) args K w := callV_of Tryd.func80 (by kernel_rfl) (by kernel_rfl) h hk
theorem cv81 {args : Array Value} {K : Value → World → Prop} {w : World} {v : Value} {R : World → Prop} (h : Calls Tryd.prog 81 args w fun e w' => e = .returned v ∧ R w') (hk : ∀ w', R w' → K v w') : CallV Tryd.prog (.func (.func 81) #[] #[]) args K w := callV_of Tryd.func81 (by kernel_rfl) (by kernel_rfl) h hk
theorem cv82 {args : Array Value} {K : Value → World → Prop} {w : World} {v : Value} {R : World → Prop} (h : Calls Tryd.prog 82 args w fun e w' => e = .returned v ∧ R w') (hk : ∀ w', R w' → K v w') : CallV Tryd.prog (.func (.func 82) #[] #[]) args K w := callV_of Tryd.func82 (by kernel_rfl) (by kernel_rfl) h hk
theorem cv83 {args : Array Value} {K : Value → World → Prop} {w : World} {v : Value} {R : World → Prop} (h : Calls Tryd.prog 83 args w fun e w' => e = .returned v ∧ R w') (hk : ∀ w', R w' → K v w') : CallV Tryd.prog (.func (.func 83) #[] #[]) args K w := callV_of Tryd.func83 (by kernel_rfl) (by kernel_rfl) h hk
theorem cv84 {args : Array Value} {K : Value → World → Prop} {w : World} {v : Value} {R : World → Prop} (h : Calls Tryd.prog 84 args w fun e w' => e = .returned v ∧ R w') (hk : ∀ w', R w' → K v w') : CallV Tryd.prog (.func (.func 84) #[] #[]) args K w := callV_of Tryd.func84 (by kernel_rfl) (by kernel_rfl) h hk
theorem cv85 {args : Array Value} {K : Value → World → Prop} {w : World} {v : Value} {R : World → Prop} (h : Calls Tryd.prog 85 args w fun e w' => e = .returned v ∧ R w') (hk : ∀ w', R w' → K v w') : CallV Tryd.prog (.func (.func 85) #[] #[]) args K w := callV_of Tryd.func85 (by kernel_rfl) (by kernel_rfl) h hk
theorem cv86 {args : Array Value} {K : Value → World → Prop} {w : World} {v : Value} {R : World → Prop} (h : Calls Tryd.prog 86 args w fun e w' => e = .returned v ∧ R w') (hk : ∀ w', R w' → K v w') : CallV Tryd.prog (.func (.func 86) #[] #[]) args K w := callV_of Tryd.func86 (by kernel_rfl) (by kernel_rfl) h hk
theorem cv87 {args : Array Value} {K : Value → World → Prop} {w : World} {v : Value} {R : World → Prop} (h : Calls Tryd.prog 87 args w fun e w' => e = .returned v ∧ R w') (hk : ∀ w', R w' → K v w') : CallV Tryd.prog (.func (.func 87) #[] #[]) args K w := callV_of Tryd.func87 (by kernel_rfl) (by kernel_rfl) h hk
theorem cv88 {args : Array Value} {K : Value → World → Prop} {w : World} {v : Value} {R : World → Prop} (h : Calls Tryd.prog 88 args w fun e w' => e = .returned v ∧ R w') (hk : ∀ w', R w' → K v w') : CallV Tryd.prog (.func (.func 88) #[] #[]) args K w := callV_of Tryd.func88 (by kernel_rfl) (by kernel_rfl) h hk
theorem cv89 {args : Array Value} {K : Value → World → Prop} {w : World} {v : Value} {R : World → Prop} (h : Calls Tryd.prog 89 args w fun e w' => e = .returned v ∧ R w') (hk : ∀ w', R w' → K v w') : CallV Tryd.prog (.func (.func 89) #[] #[]) args K w := callV_of Tryd.func89 (by kernel_rfl) (by kernel_rfl) h hk
theorem cv90 {args : Array Value} {K : Value → World → Prop} {w : World} {v : Value} {R : World → Prop} (h : Calls Tryd.prog 90 args w fun e w' => e = .returned v ∧ R w') (hk : ∀ w', R w' → K v w') : CallV Tryd.prog (.func (.func 90) #[] #[]) args K w := callV_of Tryd.func90 (by kernel_rfl) (by kernel_rfl) h hk
theorem cv91 {args : Array Value} {K : Value → World → Prop} {w : World} {v : Value} {R : World → Prop} (h : Calls Tryd.prog 91 args w fun e w' => e = .returned v ∧ R w') (hk : ∀ w', R w' → K v w') : CallV Tryd.prog (.func (.func 91) #[] #[]) args K w := callV_of Tryd.func91 (by kernel_rfl) (by kernel_rfl) h hk
theorem cv92 {args : Array Value} {K : Value → World → Prop} {w : World} {v : Value} {R : World → Prop} (h : Calls Tryd.prog 92 args w fun e w' => e = .returned v ∧ R w') (hk : ∀ w', R w' → K v w') : CallV Tryd.prog (.func (.func 92) #[] #[]) args K w := callV_of Tryd.func92 (by kernel_rfl) (by kernel_rfl) h hk
theorem cv93 {args : Array Value} {K : Value → World → Prop} {w : World} {v : Value} {R : World → Prop} (h : Calls Tryd.prog 93 args w fun e w' => e = .returned v ∧ R w') (hk : ∀ w', R w' → K v w') : CallV Tryd.prog (.func (.func 93) #[] #[]) args K w := callV_of Tryd.func93 (by kernel_rfl) (by kernel_rfl) h hk
theorem cv94 {args : Array Value} {K : Value → World → Prop} {w : World} {v : Value} {R : World → Prop} (h : Calls Tryd.prog 94 args w fun e w' => e = .returned v ∧ R w') (hk : ∀ w', R w' → K v w') : CallV Tryd.prog (.func (.func 94) #[] #[]) args K w := callV_of Tryd.func94 (by kernel_rfl) (by kernel_rfl) h hk
theorem cv96 {args : Array Value} {K : Value → World → Prop} {w : World} {v : Value} {R : World → Prop} (h : Calls Tryd.prog 96 args w fun e w' => e = .returned v ∧ R w') (hk : ∀ w', R w' → K v w') : CallV Tryd.prog (.func (.func 96) #[] #[]) args K w := callV_of Tryd.func96 (by kernel_rfl) (by kernel_rfl) h hk
theorem cv97 {args : Array Value} {K : Value → World → Prop} {w : World} {v : Value} {R : World → Prop} (h : Calls Tryd.prog 97 args w fun e w' => e = .returned v ∧ R w') (hk : ∀ w', R w' → K v w') : CallV Tryd.prog (.func (.func 97) #[] #[]) args K w := callV_of Tryd.func97 (by kernel_rfl) (by kernel_rfl) h hk
theorem cv98 {args : Array Value} {K : Value → World → Prop} {w : World} {v : Value} {R : World → Prop} (h : Calls Tryd.prog 98 args w fun e w' => e = .returned v ∧ R w') (hk : ∀ w', R w' → K v w') : CallV Tryd.prog (.func (.func 98) #[] #[]) args K w := callV_of Tryd.func98 (by kernel_rfl) (by kernel_rfl) h hk
theorem cv99 {args : Array Value} {K : Value → World → Prop} {w : World} {v : Value} {R : World → Prop} (h : Calls Tryd.prog 99 args w fun e w' => e = .returned v ∧ R w') (hk : ∀ w', R w' → K v w') : CallV Tryd.prog (.func (.func 99) #[] #[]) args K w := callV_of Tryd.func99 (by kernel_rfl) (by kernel_rfl) h hk
theorem cv100 {args : Array Value} {K : Value → World → Prop} {w : World} {v : Value} {R : World → Prop} (h : Calls Tryd.prog 100 args w fun e w' => e = .returned v ∧ R w') (hk : ∀ w', R w' → K v w') : CallV Tryd.prog (.func (.func 100) #[] #[]) args K w := callV_of Tryd.func100 (by kernel_rfl) (by kernel_rfl) h hk
theorem cv101 {args : Array Value} {K : Value → World → Prop} {w : World} {v : Value} {R : World → Prop} (h : Calls Tryd.prog 101 args w fun e w' => e = .returned v ∧ R w') (hk : ∀ w', R w' → K v w') : CallV Tryd.prog (.func (.func 101) #[] #[]) args K w := callV_of Tryd.func101 (by kernel_rfl) (by kernel_rfl) h hk
theorem cv102 {args : Array Value} {K : Value → World → Prop} {w : World} {v : Value} {R : World → Prop} (h : Calls Tryd.prog 102 args w fun e w' => e = .returned v ∧ R w') (hk : ∀ w', R w' → K v w') : CallV Tryd.prog (.func (.func 102) #[] #[]) args K w := callV_of Tryd.func102 (by kernel_rfl) (by kernel_rfl) h hk
theorem cv103 {args : Array Value} {K : Value → World → Prop} {w : World} {v : Value} {R : World → Prop} (h : Calls Tryd.prog 103 args w fun e w' => e = .returned v ∧ R w') (hk : ∀ w', R w' → K v w') : CallV Tryd.prog (.func (.func 103) #[] #[]) args K w := callV_of Tryd.func103 (by kernel_rfl) (by kernel_rfl) h hk
theorem cv104 {args : Array Value} {K : Value → World → Prop} {w : World} {v : Value} {R : World → Prop} (h : Calls Tryd.prog 104 args w fun e w' => e = .returned v ∧ R w') (hk : ∀ w', R w' → K v w') : CallV Tryd.prog (.func (.func 104) #[] #[]) args K w := callV_of Tryd.func104 (by kernel_rfl) (by kernel_rfl) h hk
theorem cv105 {args : Array Value} {K : Value → World → Prop} {w : World} {v : Value} {R : World → Prop} (h : Calls Tryd.prog 105 args w fun e w' => e = .returned v ∧ R w') (hk : ∀ w', R w' → K v w') : CallV Tryd.prog (.func (.func 105) #[] #[]) args K w := callV_of Tryd.func105 (by kernel_rfl) (by kernel_rfl) h hk
theorem cv106 {args : Array Value} {K : Value → World → Prop} {w : World} {v : Value} {R : World → Prop} (h : Calls Tryd.prog 106 args w fun e w' => e = .returned v ∧ R w') (hk : ∀ w', R w' → K v w') : CallV Tryd.prog (.func (.func 106) #[] #[]) args K w := callV_of Tryd.func106 (by kernel_rfl) (by kernel_rfl) h hk
theorem cv107 {args : Array Value} {K : Value → World → Prop} {w : World} {v : Value} {R : World → Prop} (h : Calls Tryd.prog 107 args w fun e w' => e = .returned v ∧ R w') (hk : ∀ w', R w' → K v w') : CallV Tryd.prog (.func (.func 107) #[] #[]) args K w := callV_of Tryd.func107 (by kernel_rfl) (by kernel_rfl) h hk
theorem cv108 {args : Array Value} {K : Value → World → Prop} {w : World} {v : Value} {R : World → Prop} (h : Calls Tryd.prog 108 args w fun e w' => e = .returned v ∧ R w') (hk : ∀ w', R w' → K v w') : CallV Tryd.prog (.func (.func 108) #[] #[]) args K w := callV_of Tryd.func108 (by kernel_rfl) (by kernel_rfl) h hk
theorem cv110 {args : Array Value} {K : Value → World → Prop} {w : World} {v : Value} {R : World → Prop} (h : Calls Tryd.prog 110 args w fun e w' => e = .returned v ∧ R w') (hk : ∀ w', R w' → K v w') : CallV Tryd.prog (.func (.func 110) #[] #[]) args K w := callV_of Tryd.func110 (by kernel_rfl) (by kernel_rfl) h hk
theorem cv111 {args : Array Value} {K : Value → World → Prop} {w : World} {v : Value} {R : World → Prop} (h : Calls Tryd.prog 111 args w fun e w' => e = .returned v ∧ R w') (hk : ∀ w', R w' → K v w') : CallV Tryd.prog (.func (.func 111) #[] #[]) args K w := callV_of Tryd.func111 (by kernel_rfl) (by kernel_rfl) h hk
theorem cv112 {args : Array Value} {K : Value → World → Prop} {w : World} {v : Value} {R : World → Prop} (h : Calls Tryd.prog 112 args w fun e w' => e = .returned v ∧ R w') (hk : ∀ w', R w' → K v w') : CallV Tryd.prog (.func (.func 112) #[] #[]) args K w := callV_of Tryd.func112 (by kernel_rfl) (by kernel_rfl) h hk
theorem cv113 {args : Array Value} {K : Value → World → Prop} {w : World} {v : Value} {R : World → Prop} (h : Calls Tryd.prog 113 args w fun e w' => e = .returned v ∧ R w') (hk : ∀ w', R w' → K v w') : CallV Tryd.prog (.func (.func 113) #[] #[]) args K w := callV_of Tryd.func113 (by kernel_rfl) (by kernel_rfl) h hk
theorem cv114 {args : Array Value} {K : Value → World → Prop} {w : World} {v : Value} {R : World → Prop} (h : Calls Tryd.prog 114 args w fun e w' => e = .returned v ∧ R w') (hk : ∀ w', R w' → K v w') : CallV Tryd.prog (.func (.func 114) #[] #[]) args K w := callV_of Tryd.func114 (by kernel_rfl) (by kernel_rfl) h hk
theorem cv115 {args : Array Value} {K : Value → World → Prop} {w : World} {v : Value} {R : World → Prop} (h : Calls Tryd.prog 115 args w fun e w' => e = .returned v ∧ R w') (hk : ∀ w', R w' → K v w') : CallV Tryd.prog (.func (.func 115) #[] #[]) args K w := callV_of Tryd.func115 (by kernel_rfl) (by kernel_rfl) h hk
theorem cv116 {args : Array Value} {K : Value → World → Prop} {w : World} {v : Value} {R : World → Prop} (h : Calls Tryd.prog 116 args w fun e w' => e = .returned v ∧ R w') (hk : ∀ w', R w' → K v w') : CallV Tryd.prog (.func (.func 116) #[] #[]) args K w := callV_of Tryd.func116 (by kernel_rfl) (by kernel_rfl) h hk
theorem cv117 {args : Array Value} {K : Value → World → Prop} {w : World} {v : Value} {R : World → Prop} (h : Calls Tryd.prog 117 args w fun e w' => e = .returned v ∧ R w') (hk : ∀ w', R w' → K v w') : CallV Tryd.prog (.func (.func 117) #[] #[]) args K w := callV_of Tryd.func117 (by kernel_rfl) (by kernel_rfl) h hk
theorem cv118 {args : Array Value} {K : Value → World → Prop} {w : World} {v : Value} {R : World → Prop} (h : Calls Tryd.prog 118 args w fun e w' => e = .returned v ∧ R w') (hk : ∀ w', R w' → K v w') : CallV Tryd.prog (.func (.func 118) #[] #[]) args K w := callV_of Tryd.func118 (by kernel_rfl) (by kernel_rfl) h hk
theorem cv119 {args : Array Value} {K : Value → World → Prop} {w : World} {v : Value} {R : World → Prop} (h : Calls Tryd.prog 119 args w fun e w' => e = .returned v ∧ R w') (hk : ∀ w', R w' → K v w') : CallV Tryd.prog (.func (.func 119) #[] #[]) args K w := callV_of Tryd.func119 (by kernel_rfl) (by kernel_rfl) h hk
theorem cv120 {args : Array Value} {K : Value → World → Prop} {w : World} {v : Value} {R : World → Prop} (h : Calls Tryd.prog 120 args w fun e w' => e = .returned v ∧ R w') (hk : ∀ w', R w' → K v w') : CallV Tryd.prog (.func (.func 120) #[] #[]) args K w := callV_of Tryd.func120 (by kernel_rfl) (by kernel_rfl) h hk
theorem cv121 {args : Array Value} {K : Value → World → Prop} {w : World} {v : Value} {R : World → Prop} (h : Calls Tryd.prog 121 args w fun e w' => e = .returned v ∧ R w') (hk : ∀ w', R w' → K v w') : CallV Tryd.prog (.func (.func 121) #[] #[]) args K w := callV_of Tryd.func121 (by kernel_rfl) (by kernel_rfl) h hk
theorem cv122 {args : Array Value} {K : Value → World → Prop} {w : World} {v : Value} {R : World → Prop} (h : Calls Tryd.prog 122 args w fun e w' => e = .returned v ∧ R w') (hk : ∀ w', R w' → K v w') : CallV Tryd.prog (.func (.func 122) #[] #[]) args K w := callV_of Tryd.func122 (by kernel_rfl) (by kernel_rfl) h hk
theorem cv126 {args : Array Value} {K : Value → World → Prop} {w : World} {v : Value} {R : World → Prop} (h : Calls Tryd.prog 126 args w fun e w' => e = .returned v ∧ R w') (hk : ∀ w', R w' → K v w') : CallV Tryd.prog (.func (.func 126) #[] #[]) args K w := callV_of Tryd.func126 (by kernel_rfl) (by kernel_rfl) h hk
theorem cv127 {args : Array Value} {K : Value → World → Prop} {w : World} {v : Value} {R : World → Prop} (h : Calls Tryd.prog 127 args w fun e w' => e = .returned v ∧ R w') (hk : ∀ w', R w' → K v w') : CallV Tryd.prog (.func (.func 127) #[] #[]) args K w := callV_of Tryd.func127 (by kernel_rfl) (by kernel_rfl) h hk
theorem cv128 {args : Array Value} {K : Value → World → Prop} {w : World} {v : Value} {R : World → Prop} (h : Calls Tryd.prog 128 args w fun e w' => e = .returned v ∧ R w') (hk : ∀ w', R w' → K v w') : CallV Tryd.prog (.func (.func 128) #[] #[]) args K w := callV_of Tryd.func128 (by kernel_rfl) (by kernel_rfl) h hk

theorem st3 : type_of% (And.intro @klen24 (And.intro @hlen24 (And.intro @kbgtr3 (And.intro @kbneq3 (And.intro @kblss3 (And.intro @qkia24 (And.intro @kia24 (And.intro @kld9 (And.intro @qklen9 (And.intro @klen9 (And.intro @hlen9 (And.intro @qkbgtr3 (And.intro @qkbsub3 (And.intro @kbsub3 (And.intro @qkbgeq9 (And.intro @kbgeq9 (And.intro @kbadd3 (And.intro @klen28 (And.intro @hlen28 (And.intro @qkia28 (And.intro @kia28 @kld40))))))))))))))))))))) := And.intro @klen24 (And.intro @hlen24 (And.intro @kbgtr3 (And.intro @kbneq3 (And.intro @kblss3 (And.intro @qkia24 (And.intro @kia24 (And.intro @kld9 (And.intro @qklen9 (And.intro @klen9 (And.intro @hlen9 (And.intro @qkbgtr3 (And.intro @qkbsub3 (And.intro @kbsub3 (And.intro @qkbgeq9 (And.intro @kbgeq9 (And.intro @kbadd3 (And.intro @klen28 (And.intro @hlen28 (And.intro @qkia28 (And.intro @kia28 @kld40))))))))))))))))))))
theorem st4 : type_of% (And.intro @klen22 (And.intro @hlen22 (And.intro @kblss3 (And.intro @kbrem3 (And.intro @kcv3_51 (And.intro @kbshr50_i32 (And.intro @kbshr50_i64 (And.intro @kbshr50_u16 (And.intro @kbshr50_u32 (And.intro @kbshr50_u64 (And.intro @kbshr50_u8 (And.intro @kband50 (And.intro @kbeql50 (And.intro @kia22 (And.intro @kfa55_0 (And.intro @kld9 (And.intro @kbs24_1_0 (And.intro @kbadd3 (And.intro @klen24 (And.intro @hlen24 (And.intro @kbneq3 (And.intro @qkia22 (And.intro @qkfa55_0 (And.intro @qkia24 (And.intro @kia24 (And.intro @qkbneq9 (And.intro @kbneq9 @kbeql3))))))))))))))))))))))))))) := And.intro @klen22 (And.intro @hlen22 (And.intro @kblss3 (And.intro @kbrem3 (And.intro @kcv3_51 (And.intro @kbshr50_i32 (And.intro @kbshr50_i64 (And.intro @kbshr50_u16 (And.intro @kbshr50_u32 (And.intro @kbshr50_u64 (And.intro @kbshr50_u8 (And.intro @kband50 (And.intro @kbeql50 (And.intro @kia22 (And.intro @kfa55_0 (And.intro @kld9 (And.intro @kbs24_1_0 (And.intro @kbadd3 (And.intro @klen24 (And.intro @hlen24 (And.intro @kbneq3 (And.intro @qkia22 (And.intro @qkfa55_0 (And.intro @qkia24 (And.intro @kia24 (And.intro @qkbneq9 (And.intro @kbneq9 @kbeql3))))))))))))))))))))))))))
theorem st5 : type_of% (And.intro @klen22 (And.intro @hlen22 (And.intro @kbadd3 (And.intro @kbgtr3 (And.intro @kblss3 (And.intro @qkia22 (And.intro @kia22 (And.intro @qkfa55_0 (And.intro @kfa55_0 (And.intro @kld9 (And.intro @qkbeql9 (And.intro @kbeql9 (And.intro @qkfa55_1 (And.intro @kfa55_1 (And.intro @kld52 (And.intro @qkbeql3 (And.intro @kbeql3 (And.intro @kld55 (And.intro @kbd60_0_1 (And.intro @kal60 (And.intro @kst60f (And.intro @klen33 (And.intro @hlen33 (And.intro @kld60 (And.intro @qkia33 (And.intro @kia33 (And.intro @kld65 (And.intro @kfa60_1 @kld33)))))))))))))))))))))))))))) := And.intro @klen22 (And.intro @hlen22 (And.intro @kbadd3 (And.intro @kbgtr3 (And.intro @kblss3 (And.intro @qkia22 (And.intro @kia22 (And.intro @qkfa55_0 (And.intro @kfa55_0 (And.intro @kld9 (And.intro @qkbeql9 (And.intro @kbeql9 (And.intro @qkfa55_1 (And.intro @kfa55_1 (And.intro @kld52 (And.intro @qkbeql3 (And.intro @kbeql3 (And.intro @kld55 (And.intro @kbd60_0_1 (And.intro @kal60 (And.intro @kst60f (And.intro @klen33 (And.intro @hlen33 (And.intro @kld60 (And.intro @qkia33 (And.intro @kia33 (And.intro @kld65 (And.intro @kfa60_1 @kld33)))))))))))))))))))))))))))
theorem st6 : type_of% (And.intro @kal73 (And.intro @kst73f (And.intro @kal76 (And.intro @kst76f (And.intro @klen68 (And.intro @hlen68 (And.intro @klen70 (And.intro @hlen70 (And.intro @kbneq3 (And.intro @kbneq4 (And.intro @kfa73_0 (And.intro @kld9 (And.intro @kfa76_0 (And.intro @kbneq9 (And.intro @kfa73_1 (And.intro @kfa76_1 (And.intro @kfa73_2 (And.intro @kld2 (And.intro @kfa76_2 (And.intro @kbneq2 (And.intro @kblss3 (And.intro @qkia68 (And.intro @kia68 (And.intro @qkfa73_0 (And.intro @qkia70 (And.intro @kia70 (And.intro @qkfa76_0 (And.intro @qkbneq9 (And.intro @qkfa73_1 (And.intro @qkfa76_1 (And.intro @qkfa73_2 (And.intro @qkfa76_2 (And.intro @qkbneq2 @kbadd3))))))))))))))))))))))))))))))))) := And.intro @kal73 (And.intro @kst73f (And.intro @kal76 (And.intro @kst76f (And.intro @klen68 (And.intro @hlen68 (And.intro @klen70 (And.intro @hlen70 (And.intro @kbneq3 (And.intro @kbneq4 (And.intro @kfa73_0 (And.intro @kld9 (And.intro @kfa76_0 (And.intro @kbneq9 (And.intro @kfa73_1 (And.intro @kfa76_1 (And.intro @kfa73_2 (And.intro @kld2 (And.intro @kfa76_2 (And.intro @kbneq2 (And.intro @kblss3 (And.intro @qkia68 (And.intro @kia68 (And.intro @qkfa73_0 (And.intro @qkia70 (And.intro @kia70 (And.intro @qkfa76_0 (And.intro @qkbneq9 (And.intro @qkfa73_1 (And.intro @qkfa76_1 (And.intro @qkfa73_2 (And.intro @qkfa76_2 (And.intro @qkbneq2 @kbadd3))))))))))))))))))))))))))))))))
theorem st7 : type_of% (And.intro @klen9 (And.intro @hlen9 (And.intro @kbgtr3 (And.intro @kal73 (And.intro @kst73f (And.intro @kfa73_0 (And.intro @kld9 (And.intro @kbeql9 (And.intro @klen22 (And.intro @hlen22 (And.intro @kblss3 (And.intro @kia22 (And.intro @kfa55_0 (And.intro @kbneq9 (And.intro @kld55 (And.intro @kbs22_1_0 (And.intro @kbadd3 @kld73))))))))))))))))) := And.intro @klen9 (And.intro @hlen9 (And.intro @kbgtr3 (And.intro @kal73 (And.intro @kst73f (And.intro @kfa73_0 (And.intro @kld9 (And.intro @kbeql9 (And.intro @klen22 (And.intro @hlen22 (And.intro @kblss3 (And.intro @kia22 (And.intro @kfa55_0 (And.intro @kbneq9 (And.intro @kld55 (And.intro @kbs22_1_0 (And.intro @kbadd3 @kld73))))))))))))))))
theorem st8 : type_of% (And.intro @klen80 (And.intro @hlen80 (And.intro @kbeql3 (And.intro @kbgtr3 (And.intro @kblss3 (And.intro @qkbadd3 (And.intro @kbadd3 (And.intro @qkcv3_5 (And.intro @kcv3_5 (And.intro @kbs82_1_0 (And.intro @qkbsub3 (And.intro @kbsub3 (And.intro @qkia80 (And.intro @kia80 (And.intro @kld2 (And.intro @kbs22_1_0 (And.intro @qkbleq2 (And.intro @kbleq2 (And.intro @kal73 (And.intro @kst73f (And.intro @qklen68 (And.intro @klen68 (And.intro @hlen68 (And.intro @qklen22 (And.intro @klen22 (And.intro @hlen22 (And.intro @qkbneq3 (And.intro @kbneq3 (And.intro @qkfa73_0 (And.intro @kfa73_0 (And.intro @kld9 (And.intro @qkia22 (And.intro @kia22 (And.intro @qkfa55_0 (And.intro @kfa55_0 (And.intro @qkbneq9 (And.intro @kbneq9 (And.intro @qkfa73_2 (And.intro @kfa73_2 (And.intro @qkbneq2 (And.intro @kbneq2 (And.intro @qkia68 (And.intro @kia68 (And.intro @qkbgtr2 (And.intro @kbgtr2 (And.intro @qkbeql2 (And.intro @kbeql2 (And.intro @qkfa73_1 (And.intro @kfa73_1 (And.intro @qkbgeq9 @kbgeq9)))))))))))))))))))))))))))))))))))))))))))))))))) := And.intro @klen80 (And.intro @hlen80 (And.intro @kbeql3 (And.intro @kbgtr3 (And.intro @kblss3 (And.intro @qkbadd3 (And.intro @kbadd3 (And.intro @qkcv3_5 (And.intro @kcv3_5 (And.intro @kbs82_1_0 (And.intro @qkbsub3 (And.intro @kbsub3 (And.intro @qkia80 (And.intro @kia80 (And.intro @kld2 (And.intro @kbs22_1_0 (And.intro @qkbleq2 (And.intro @kbleq2 (And.intro @kal73 (And.intro @kst73f (And.intro @qklen68 (And.intro @klen68 (And.intro @hlen68 (And.intro @qklen22 (And.intro @klen22 (And.intro @hlen22 (And.intro @qkbneq3 (And.intro @kbneq3 (And.intro @qkfa73_0 (And.intro @kfa73_0 (And.intro @kld9 (And.intro @qkia22 (And.intro @kia22 (And.intro @qkfa55_0 (And.intro @kfa55_0 (And.intro @qkbneq9 (And.intro @kbneq9 (And.intro @qkfa73_2 (And.intro @kfa73_2 (And.intro @qkbneq2 (And.intro @kbneq2 (And.intro @qkia68 (And.intro @kia68 (And.intro @qkbgtr2 (And.intro @kbgtr2 (And.intro @qkbeql2 (And.intro @kbeql2 (And.intro @qkfa73_1 (And.intro @kfa73_1 (And.intro @qkbgeq9 @kbgeq9)))))))))))))))))))))))))))))))))))))))))))))))))
theorem st9 : type_of% (And.intro @kbd52_0_3 (And.intro @kbd55_0_1 (And.intro @kbs22_2_0_1 (And.intro @kbd85_0_1 (And.intro @kbs23_2_0_1 (And.intro @kbs24_2_0_1 (And.intro @klen23 (And.intro @hlen23 (And.intro @kbeql3 (And.intro @kia23 (And.intro @kfa85_0 (And.intro @kld9 (And.intro @kbeql9 (And.intro @klen22 (And.intro @hlen22 (And.intro @kia22 (And.intro @kfa55_0 (And.intro @klen24 (And.intro @hlen24 (And.intro @kia24 (And.intro @kbd85_0 @kbs23_1_0))))))))))))))))))))) := And.intro @kbd52_0_3 (And.intro @kbd55_0_1 (And.intro @kbs22_2_0_1 (And.intro @kbd85_0_1 (And.intro @kbs23_2_0_1 (And.intro @kbs24_2_0_1 (And.intro @klen23 (And.intro @hlen23 (And.intro @kbeql3 (And.intro @kia23 (And.intro @kfa85_0 (And.intro @kld9 (And.intro @kbeql9 (And.intro @klen22 (And.intro @hlen22 (And.intro @kia22 (And.intro @kfa55_0 (And.intro @klen24 (And.intro @hlen24 (And.intro @kia24 (And.intro @kbd85_0 @kbs23_1_0))))))))))))))))))))
theorem st10 : type_of% (And.intro @klen23 (And.intro @hlen23 (And.intro @kbgtr3 (And.intro @kblss3 (And.intro @kia23 (And.intro @kfa85_0 (And.intro @kld9 (And.intro @klen9 (And.intro @hlen9 (And.intro @kfa85_1 (And.intro @kfa52_3 @kbadd3))))))))))) := And.intro @klen23 (And.intro @hlen23 (And.intro @kbgtr3 (And.intro @kblss3 (And.intro @kia23 (And.intro @kfa85_0 (And.intro @kld9 (And.intro @klen9 (And.intro @hlen9 (And.intro @kfa85_1 (And.intro @kfa52_3 @kbadd3))))))))))
theorem st11 : type_of% (And.intro @klen28 (And.intro @hlen28 (And.intro @kbgtr3 (And.intro @kblss3 (And.intro @kia28 (And.intro @kfa40_1 (And.intro @kld38 (And.intro @kfa40_0 (And.intro @kld9 (And.intro @qkbgtr3 (And.intro @qkbsub3 (And.intro @kbsub3 (And.intro @qkia28 (And.intro @qkfa40_0 (And.intro @qkbgeq9 (And.intro @kbgeq9 (And.intro @kbneq3 @kbadd3))))))))))))))))) := And.intro @klen28 (And.intro @hlen28 (And.intro @kbgtr3 (And.intro @kblss3 (And.intro @kia28 (And.intro @kfa40_1 (And.intro @kld38 (And.intro @kfa40_0 (And.intro @kld9 (And.intro @qkbgtr3 (And.intro @qkbsub3 (And.intro @kbsub3 (And.intro @qkia28 (And.intro @qkfa40_0 (And.intro @qkbgeq9 (And.intro @kbgeq9 (And.intro @kbneq3 @kbadd3))))))))))))))))
theorem st12 : type_of% (And.intro @klen23 (And.intro @hlen23 (And.intro @kblss3 (And.intro @qkia23 (And.intro @kia23 (And.intro @qkfa85_0 (And.intro @kfa85_0 (And.intro @kld9 (And.intro @qkfa85_1 (And.intro @kfa85_1 (And.intro @kld52 (And.intro @kbd40_0_1 (And.intro @kbs28_1_0 @kbadd3))))))))))))) := And.intro @klen23 (And.intro @hlen23 (And.intro @kblss3 (And.intro @qkia23 (And.intro @kia23 (And.intro @qkfa85_0 (And.intro @kfa85_0 (And.intro @kld9 (And.intro @qkfa85_1 (And.intro @kfa85_1 (And.intro @kld52 (And.intro @kbd40_0_1 (And.intro @kbs28_1_0 @kbadd3))))))))))))
theorem st13 : type_of% (And.intro @klen23 (And.intro @hlen23 (And.intro @kbgtr3 (And.intro @kblss3 (And.intro @kia23 (And.intro @kld85 (And.intro @kal85 (And.intro @kst85f (And.intro @kfa85_0 (And.intro @kld9 (And.intro @qkbgtr3 (And.intro @qkbsub3 (And.intro @kbsub3 (And.intro @qkia23 (And.intro @qkfa85_0 (And.intro @qkbgeq3 (And.intro @kbgeq3 (And.intro @kfa85_1 (And.intro @kld52 (And.intro @kbneq30 @kbadd3)))))))))))))))))))) := And.intro @klen23 (And.intro @hlen23 (And.intro @kbgtr3 (And.intro @kblss3 (And.intro @kia23 (And.intro @kld85 (And.intro @kal85 (And.intro @kst85f (And.intro @kfa85_0 (And.intro @kld9 (And.intro @qkbgtr3 (And.intro @qkbsub3 (And.intro @kbsub3 (And.intro @qkia23 (And.intro @qkfa85_0 (And.intro @qkbgeq3 (And.intro @kbgeq3 (And.intro @kfa85_1 (And.intro @kld52 (And.intro @kbneq30 @kbadd3)))))))))))))))))))
theorem st14 : type_of% (And.intro @klen22 (And.intro @hlen22 (And.intro @kbgtr3 (And.intro @kblss3 (And.intro @qkia22 (And.intro @kia22 (And.intro @kld55 (And.intro @qkbneq3 (And.intro @kbneq3 (And.intro @qkbgtr3 (And.intro @qkbsub3 (And.intro @kbsub3 (And.intro @qkfa55_0 (And.intro @kfa55_0 (And.intro @kld9 (And.intro @qkbgeq9 (And.intro @kbgeq9 @kbadd3))))))))))))))))) := And.intro @klen22 (And.intro @hlen22 (And.intro @kbgtr3 (And.intro @kblss3 (And.intro @qkia22 (And.intro @kia22 (And.intro @kld55 (And.intro @qkbneq3 (And.intro @kbneq3 (And.intro @qkbgtr3 (And.intro @qkbsub3 (And.intro @kbsub3 (And.intro @qkfa55_0 (And.intro @kfa55_0 (And.intro @kld9 (And.intro @qkbgeq9 (And.intro @kbgeq9 @kbadd3))))))))))))))))
theorem st15 : type_of% (And.intro @klen22 (And.intro @hlen22 (And.intro @kblss3 (And.intro @kia22 (And.intro @kld55 (And.intro @kbs33_1_0 @kbadd3)))))) := And.intro @klen22 (And.intro @hlen22 (And.intro @kblss3 (And.intro @kia22 (And.intro @kld55 (And.intro @kbs33_1_0 @kbadd3)))))
theorem st16 : type_of% (And.intro @klen22 (And.intro @hlen22 (And.intro @kblss3 (And.intro @kia22 (And.intro @kld55 (And.intro @kal55 (And.intro @kst55f (And.intro @kfa55_0 (And.intro @kld9 (And.intro @kfa55_1 (And.intro @kld52 (And.intro @kbd85_0_1 (And.intro @kbs23_1_0 @kbadd3))))))))))))) := And.intro @klen22 (And.intro @hlen22 (And.intro @kblss3 (And.intro @kia22 (And.intro @kld55 (And.intro @kal55 (And.intro @kst55f (And.intro @kfa55_0 (And.intro @kld9 (And.intro @kfa55_1 (And.intro @kld52 (And.intro @kbd85_0_1 (And.intro @kbs23_1_0 @kbadd3))))))))))))
theorem st17 : type_of% (And.intro @klen33 (And.intro @hlen33 (And.intro @kblss3 (And.intro @qkia33 (And.intro @kia33 (And.intro @qkfa65_0 (And.intro @kfa65_0 (And.intro @kld9 (And.intro @qkfa65_1 (And.intro @kfa65_1 (And.intro @kld38 (And.intro @kbd40_0_1 (And.intro @kbs28_1_0 @kbadd3))))))))))))) := And.intro @klen33 (And.intro @hlen33 (And.intro @kblss3 (And.intro @qkia33 (And.intro @kia33 (And.intro @qkfa65_0 (And.intro @kfa65_0 (And.intro @kld9 (And.intro @qkfa65_1 (And.intro @kfa65_1 (And.intro @kld38 (And.intro @kbd40_0_1 (And.intro @kbs28_1_0 @kbadd3))))))))))))
theorem st19 : type_of% (And.intro @kal22 @kld22) := And.intro @kal22 @kld22
theorem st20 : type_of% (And.intro @klen33 (And.intro @hlen33 (And.intro @kblss3 (And.intro @klen28 (And.intro @hlen28 (And.intro @qkia28 (And.intro @kia28 (And.intro @qkfa40_0 (And.intro @kfa40_0 (And.intro @kld9 (And.intro @qkia33 (And.intro @kia33 (And.intro @qkfa65_0 (And.intro @kfa65_0 (And.intro @qkbeql9 (And.intro @kbeql9 (And.intro @qkfa65_1 (And.intro @kfa65_1 (And.intro @kld38 (And.intro @qkfa40_1 (And.intro @kfa40_1 (And.intro @qkbleq3 (And.intro @kbleq3 (And.intro @kbadd3 (And.intro @kld65 @kbs33_1_0))))))))))))))))))))))))) := And.intro @klen33 (And.intro @hlen33 (And.intro @kblss3 (And.intro @klen28 (And.intro @hlen28 (And.intro @qkia28 (And.intro @kia28 (And.intro @qkfa40_0 (And.intro @kfa40_0 (And.intro @kld9 (And.intro @qkia33 (And.intro @kia33 (And.intro @qkfa65_0 (And.intro @kfa65_0 (And.intro @qkbeql9 (And.intro @kbeql9 (And.intro @qkfa65_1 (And.intro @kfa65_1 (And.intro @kld38 (And.intro @qkfa40_1 (And.intro @kfa40_1 (And.intro @qkbleq3 (And.intro @kbleq3 (And.intro @kbadd3 (And.intro @kld65 @kbs33_1_0))))))))))))))))))))))))
theorem st21 : type_of% (And.intro @klen24 (And.intro @hlen24 (And.intro @kbneq3 (And.intro @kblss3 (And.intro @qkia24 (And.intro @kia24 (And.intro @kld9 (And.intro @qkbneq9 (And.intro @kbneq9 @kbadd3))))))))) := And.intro @klen24 (And.intro @hlen24 (And.intro @kbneq3 (And.intro @kblss3 (And.intro @qkia24 (And.intro @kia24 (And.intro @kld9 (And.intro @qkbneq9 (And.intro @kbneq9 @kbadd3))))))))
theorem st22 : type_of% (And.intro @kal24 @kld24) := And.intro @kal24 @kld24
theorem st23 : type_of% (And.intro @klen28 (And.intro @hlen28 (And.intro @kblss3 (And.intro @klen33 (And.intro @hlen33 (And.intro @qkia28 (And.intro @kia28 (And.intro @qkfa40_0 (And.intro @kfa40_0 (And.intro @kld9 (And.intro @qkia33 (And.intro @kia33 (And.intro @qkfa65_0 (And.intro @kfa65_0 (And.intro @qkbeql9 (And.intro @kbeql9 (And.intro @qkfa65_1 (And.intro @kfa65_1 (And.intro @kld38 (And.intro @qkfa40_1 (And.intro @kfa40_1 (And.intro @qkbgeq3 (And.intro @kbgeq3 (And.intro @kbadd3 @kbs24_1_0)))))))))))))))))))))))) := And.intro @klen28 (And.intro @hlen28 (And.intro @kblss3 (And.intro @klen33 (And.intro @hlen33 (And.intro @qkia28 (And.intro @kia28 (And.intro @qkfa40_0 (And.intro @kfa40_0 (And.intro @kld9 (And.intro @qkia33 (And.intro @kia33 (And.intro @qkfa65_0 (And.intro @kfa65_0 (And.intro @qkbeql9 (And.intro @kbeql9 (And.intro @qkfa65_1 (And.intro @kfa65_1 (And.intro @kld38 (And.intro @qkfa40_1 (And.intro @kfa40_1 (And.intro @qkbgeq3 (And.intro @kbgeq3 (And.intro @kbadd3 @kbs24_1_0)))))))))))))))))))))))
theorem st24 : type_of% (And.intro @klen22 (And.intro @hlen22 (And.intro @kblss3 (And.intro @kia22 (And.intro @kld55 (And.intro @kal55 (And.intro @kst55f (And.intro @kfa55_0 (And.intro @kld9 (And.intro @kbs22_1_0 @kbadd3)))))))))) := And.intro @klen22 (And.intro @hlen22 (And.intro @kblss3 (And.intro @kia22 (And.intro @kld55 (And.intro @kal55 (And.intro @kst55f (And.intro @kfa55_0 (And.intro @kld9 (And.intro @kbs22_1_0 @kbadd3)))))))))
theorem st25 : type_of% (And.intro @klen33 (And.intro @hlen33 (And.intro @kblss3 (And.intro @klen24 (And.intro @hlen24 (And.intro @qkia24 (And.intro @kia24 (And.intro @kld9 (And.intro @qkia33 (And.intro @kia33 (And.intro @qkfa65_0 (And.intro @kfa65_0 (And.intro @qkbeql9 (And.intro @kbeql9 (And.intro @kld65 (And.intro @kbs33_1_0 @kbadd3)))))))))))))))) := And.intro @klen33 (And.intro @hlen33 (And.intro @kblss3 (And.intro @klen24 (And.intro @hlen24 (And.intro @qkia24 (And.intro @kia24 (And.intro @kld9 (And.intro @qkia33 (And.intro @kia33 (And.intro @qkfa65_0 (And.intro @kfa65_0 (And.intro @qkbeql9 (And.intro @kbeql9 (And.intro @kld65 (And.intro @kbs33_1_0 @kbadd3)))))))))))))))
theorem st26 : type_of% (And.intro @kbx52 (And.intro @qkfa52_0 (And.intro @kfa52_0 (And.intro @kld2 (And.intro @qkfa52_1 (And.intro @kfa52_1 (And.intro @qkfa52_2 (And.intro @kfa52_2 (And.intro @qkfa52_3 (And.intro @kfa52_3 (And.intro @kld9 @kbs136_4_0_1_2_3))))))))))) := And.intro @kbx52 (And.intro @qkfa52_0 (And.intro @kfa52_0 (And.intro @kld2 (And.intro @qkfa52_1 (And.intro @kfa52_1 (And.intro @qkfa52_2 (And.intro @kfa52_2 (And.intro @qkfa52_3 (And.intro @kfa52_3 (And.intro @kld9 @kbs136_4_0_1_2_3))))))))))
theorem st27 : type_of% (And.intro @kbx55 (And.intro @kfa55_0 (And.intro @kld9 (And.intro @kbeql9 (And.intro @kfa55_1 (And.intro @kld52 (And.intro @kbeql3 (And.intro @kfa55_2 @kld53)))))))) := And.intro @kbx55 (And.intro @kfa55_0 (And.intro @kld9 (And.intro @kbeql9 (And.intro @kfa55_1 (And.intro @kld52 (And.intro @kbeql3 (And.intro @kfa55_2 @kld53)))))))
theorem st28 : type_of% (And.intro @kld60 (And.intro @kbx60 (And.intro @kbx65 (And.intro @kal60 (And.intro @kld65 (And.intro @kbneq3 (And.intro @kst60f (And.intro @kfa65_0 (And.intro @kld9 (And.intro @kal65 (And.intro @kst65f (And.intro @kfa65_1 (And.intro @kld38 (And.intro @kbgeq3 (And.intro @kfa60_1 (And.intro @kld33 (And.intro @klen33 (And.intro @hlen33 (And.intro @kfa60_0 (And.intro @kld3 (And.intro @qkfa60_0 (And.intro @kbs33_0 (And.intro @qkfa60_1 (And.intro @qksl33_010z (And.intro @ksl33_010z (And.intro @qksl33_010 (And.intro @ksl33_010 (And.intro @kbs33_1_0 (And.intro @kbd60_0_1 (And.intro @qksl33_100z (And.intro @ksl33_100z (And.intro @qksl33_100 (And.intro @ksl33_100 @kst33))))))))))))))))))))))))))))))))) := And.intro @kld60 (And.intro @kbx60 (And.intro @kbx65 (And.intro @kal60 (And.intro @kld65 (And.intro @kbneq3 (And.intro @kst60f (And.intro @kfa65_0 (And.intro @kld9 (And.intro @kal65 (And.intro @kst65f (And.intro @kfa65_1 (And.intro @kld38 (And.intro @kbgeq3 (And.intro @kfa60_1 (And.intro @kld33 (And.intro @klen33 (And.intro @hlen33 (And.intro @kfa60_0 (And.intro @kld3 (And.intro @qkfa60_0 (And.intro @kbs33_0 (And.intro @qkfa60_1 (And.intro @qksl33_010z (And.intro @ksl33_010z (And.intro @qksl33_010 (And.intro @ksl33_010 (And.intro @kbs33_1_0 (And.intro @kbd60_0_1 (And.intro @qksl33_100z (And.intro @ksl33_100z (And.intro @qksl33_100 (And.intro @ksl33_100 @kst33))))))))))))))))))))))))))))))))
theorem st29 : type_of% (And.intro @klen33 (And.intro @hlen33 (And.intro @kbneq3 (And.intro @kblss3 (And.intro @qkia33 (And.intro @kia33 (And.intro @kld65 @kbadd3))))))) := And.intro @klen33 (And.intro @hlen33 (And.intro @kbneq3 (And.intro @kblss3 (And.intro @qkia33 (And.intro @kia33 (And.intro @kld65 @kbadd3))))))
theorem st30 : type_of% (And.intro @kbd55_0 (And.intro @kal73 (And.intro @kst73f (And.intro @ksl22_100z (And.intro @ksl22_100 (And.intro @kfa73_0 (And.intro @kld9 (And.intro @kbeql9 (And.intro @kfa73_1 (And.intro @kfa73_2 (And.intro @kld2 (And.intro @kbeql2 (And.intro @klen68 (And.intro @hlen68 (And.intro @kbeql3 @kia68))))))))))))))) := And.intro @kbd55_0 (And.intro @kal73 (And.intro @kst73f (And.intro @ksl22_100z (And.intro @ksl22_100 (And.intro @kfa73_0 (And.intro @kld9 (And.intro @kbeql9 (And.intro @kfa73_1 (And.intro @kfa73_2 (And.intro @kld2 (And.intro @kbeql2 (And.intro @klen68 (And.intro @hlen68 (And.intro @kbeql3 @kia68))))))))))))))
theorem st31 : type_of% (And.intro @klen22 (And.intro @hlen22 (And.intro @kblss3 (And.intro @kia22 (And.intro @kld55 (And.intro @kal55 (And.intro @kst55f (And.intro @kal73 (And.intro @kst73f (And.intro @kld73 (And.intro @kbs68_1_0 @kbadd3))))))))))) := And.intro @klen22 (And.intro @hlen22 (And.intro @kblss3 (And.intro @kia22 (And.intro @kld55 (And.intro @kal55 (And.intro @kst55f (And.intro @kal73 (And.intro @kst73f (And.intro @kld73 (And.intro @kbs68_1_0 @kbadd3))))))))))
theorem st32 : type_of% (And.intro @klen33 (And.intro @hlen33 (And.intro @kblss3 (And.intro @kia33 (And.intro @kfa65_2 (And.intro @kld63 (And.intro @kal121 (And.intro @kst121f (And.intro @kfa121_0 (And.intro @kld3 (And.intro @kbneq3 (And.intro @kfa121_2 (And.intro @kld9 (And.intro @qkia33 (And.intro @qkfa65_0 (And.intro @kfa65_0 (And.intro @qkfa121_2 (And.intro @kbd76_0_1 (And.intro @kal76 (And.intro @kst76f (And.intro @kbeql3 (And.intro @kfa121_1 (And.intro @kld2 (And.intro @kfa76_2 (And.intro @kst2 (And.intro @qklen70 (And.intro @klen70 (And.intro @hlen70 (And.intro @qkblss3 (And.intro @kld76 (And.intro @qkia70 (And.intro @kia70 (And.intro @kbadd3 (And.intro @kbs70_0 (And.intro @qksl70_010z (And.intro @ksl70_010z (And.intro @qksl70_010 (And.intro @ksl70_010 (And.intro @kbs70_1_0 (And.intro @ksl70_100z @ksl70_100)))))))))))))))))))))))))))))))))))))))) := And.intro @klen33 (And.intro @hlen33 (And.intro @kblss3 (And.intro @kia33 (And.intro @kfa65_2 (And.intro @kld63 (And.intro @kal121 (And.intro @kst121f (And.intro @kfa121_0 (And.intro @kld3 (And.intro @kbneq3 (And.intro @kfa121_2 (And.intro @kld9 (And.intro @qkia33 (And.intro @qkfa65_0 (And.intro @kfa65_0 (And.intro @qkfa121_2 (And.intro @kbd76_0_1 (And.intro @kal76 (And.intro @kst76f (And.intro @kbeql3 (And.intro @kfa121_1 (And.intro @kld2 (And.intro @kfa76_2 (And.intro @kst2 (And.intro @qklen70 (And.intro @klen70 (And.intro @hlen70 (And.intro @qkblss3 (And.intro @kld76 (And.intro @qkia70 (And.intro @kia70 (And.intro @kbadd3 (And.intro @kbs70_0 (And.intro @qksl70_010z (And.intro @ksl70_010z (And.intro @qksl70_010 (And.intro @ksl70_010 (And.intro @kbs70_1_0 (And.intro @ksl70_100z @ksl70_100)))))))))))))))))))))))))))))))))))))))
theorem st33 : type_of% (And.intro @kld73 (And.intro @kal73 @kst73f)) := And.intro @kld73 (And.intro @kal73 @kst73f)
theorem st34 : type_of% (And.intro @kld76 (And.intro @kal76 (And.intro @klen70 (And.intro @hlen70 (And.intro @kbeql3 (And.intro @kbd76_ (And.intro @kst76f @kia70))))))) := And.intro @kld76 (And.intro @kal76 (And.intro @klen70 (And.intro @hlen70 (And.intro @kbeql3 (And.intro @kbd76_ (And.intro @kst76f @kia70))))))
theorem st35 : type_of% (And.intro @kld55 (And.intro @kal55 (And.intro @kbd126_0_1 (And.intro @kbd128_0_1 (And.intro @kbd126_0_2 (And.intro @kbs53_2_0_1 (And.intro @kbd55_0_2 @kst55f))))))) := And.intro @kld55 (And.intro @kal55 (And.intro @kbd126_0_1 (And.intro @kbd128_0_1 (And.intro @kbd126_0_2 (And.intro @kbs53_2_0_1 (And.intro @kbd55_0_2 @kst55f))))))
theorem st36 : type_of% (And.intro @kbx38 (And.intro @kfa38_0 (And.intro @kld2 (And.intro @kfa38_1 (And.intro @kfa38_2 (And.intro @kfa38_3 @kld9)))))) := And.intro @kbx38 (And.intro @kfa38_0 (And.intro @kld2 (And.intro @kfa38_1 (And.intro @kfa38_2 (And.intro @kfa38_3 @kld9)))))
theorem st37 : type_of% (And.intro @klen9 (And.intro @hlen9 (And.intro @kblss3 (And.intro @kbgtr3 (And.intro @kblss5 (And.intro @kbgtr5 @kbadd3)))))) := And.intro @klen9 (And.intro @hlen9 (And.intro @kblss3 (And.intro @kbgtr3 (And.intro @kblss5 (And.intro @kbgtr5 @kbadd3)))))
theorem st38 : type_of% (And.intro @kld38 (And.intro @kbx52 (And.intro @kal38 (And.intro @kfa52_0 (And.intro @kld2 (And.intro @kfa52_1 (And.intro @kfa52_2 (And.intro @kfa52_3 (And.intro @kld9 (And.intro @kbd38_0_1_2_3 @kst38f)))))))))) := And.intro @kld38 (And.intro @kbx52 (And.intro @kal38 (And.intro @kfa52_0 (And.intro @kld2 (And.intro @kfa52_1 (And.intro @kfa52_2 (And.intro @kfa52_3 (And.intro @kld9 (And.intro @kbd38_0_1_2_3 @kst38f)))))))))
theorem st39 : type_of% (And.intro @kbeql9 (And.intro @klen9 (And.intro @hlen9 (And.intro @kbgtr3 (And.intro @kblss5 (And.intro @kblss3 (And.intro @kbgtr5 @kbadd3))))))) := And.intro @kbeql9 (And.intro @klen9 (And.intro @hlen9 (And.intro @kbgtr3 (And.intro @kblss5 (And.intro @kblss3 (And.intro @kbgtr5 @kbadd3))))))
theorem st40 : type_of% (And.intro @kblss9 @kbgtr9) := And.intro @kblss9 @kbgtr9
theorem st41 : type_of% (And.intro @kbx52 (And.intro @kfa52_0 (And.intro @kld2 (And.intro @kfa52_1 (And.intro @kfa52_2 (And.intro @kfa52_3 @kld9)))))) := And.intro @kbx52 (And.intro @kfa52_0 (And.intro @kld2 (And.intro @kfa52_1 (And.intro @kfa52_2 (And.intro @kfa52_3 @kld9)))))
theorem st42 : type_of% (And.intro @klen22 (And.intro @hlen22 (And.intro @kbgtr3 (And.intro @kblss3 (And.intro @kia22 (And.intro @kld55 @kbadd3)))))) := And.intro @klen22 (And.intro @hlen22 (And.intro @kbgtr3 (And.intro @kblss3 (And.intro @kia22 (And.intro @kld55 @kbadd3)))))
theorem st43 : type_of% (And.intro @kbx65 (And.intro @kfa65_0 (And.intro @kld9 (And.intro @kfa65_1 (And.intro @kld38 (And.intro @kbneq3 (And.intro @kfa65_2 (And.intro @kld63 (And.intro @klen63 (And.intro @hlen63 (And.intro @kbgtr3 (And.intro @kblss3 (And.intro @kia63 (And.intro @kfa133_1 (And.intro @kld121 (And.intro @kfa133_0 (And.intro @qkbgtr3 (And.intro @qkfa65_2 (And.intro @qkbsub3 (And.intro @kbsub3 (And.intro @qkia63 (And.intro @qkfa133_0 (And.intro @qkbgeq9 (And.intro @kbgeq9 @kbadd3)))))))))))))))))))))))) := And.intro @kbx65 (And.intro @kfa65_0 (And.intro @kld9 (And.intro @kfa65_1 (And.intro @kld38 (And.intro @kbneq3 (And.intro @kfa65_2 (And.intro @kld63 (And.intro @klen63 (And.intro @hlen63 (And.intro @kbgtr3 (And.intro @kblss3 (And.intro @kia63 (And.intro @kfa133_1 (And.intro @kld121 (And.intro @kfa133_0 (And.intro @qkbgtr3 (And.intro @qkfa65_2 (And.intro @qkbsub3 (And.intro @kbsub3 (And.intro @qkia63 (And.intro @qkfa133_0 (And.intro @qkbgeq9 (And.intro @kbgeq9 @kbadd3)))))))))))))))))))))))
theorem st44 : type_of% (And.intro @kld65 (And.intro @kbx55 (And.intro @kal65 (And.intro @qkfa55_0 (And.intro @kfa55_0 (And.intro @kld9 (And.intro @qkfa55_1 (And.intro @kfa55_1 (And.intro @kld52 (And.intro @qkfa55_2 (And.intro @kfa55_2 (And.intro @kld53 (And.intro @kbd65_0_1_2 @kst65f))))))))))))) := And.intro @kld65 (And.intro @kbx55 (And.intro @kal65 (And.intro @qkfa55_0 (And.intro @kfa55_0 (And.intro @kld9 (And.intro @qkfa55_1 (And.intro @kfa55_1 (And.intro @kld52 (And.intro @qkfa55_2 (And.intro @kfa55_2 (And.intro @kld53 (And.intro @kbd65_0_1_2 @kst65f))))))))))))
theorem st45 : type_of% (And.intro @klen23 (And.intro @hlen23 (And.intro @ksl23_011 @ksl23_011z))) := And.intro @klen23 (And.intro @hlen23 (And.intro @ksl23_011 @ksl23_011z))
theorem st46 : type_of% (And.intro @klen22 (And.intro @hlen22 (And.intro @kblss3 (And.intro @kia22 (And.intro @kld55 (And.intro @kal55 (And.intro @kst55f (And.intro @qklen23 (And.intro @klen23 (And.intro @hlen23 (And.intro @qkblss3 (And.intro @qkia23 (And.intro @kia23 (And.intro @kld85 (And.intro @qkblss9 (And.intro @kblss9 (And.intro @kbadd3 (And.intro @kal85 (And.intro @qkbeql9 (And.intro @kbeql9 @kst85f)))))))))))))))))))) := And.intro @klen22 (And.intro @hlen22 (And.intro @kblss3 (And.intro @kia22 (And.intro @kld55 (And.intro @kal55 (And.intro @kst55f (And.intro @qklen23 (And.intro @klen23 (And.intro @hlen23 (And.intro @qkblss3 (And.intro @qkia23 (And.intro @kia23 (And.intro @kld85 (And.intro @qkblss9 (And.intro @kblss9 (And.intro @kbadd3 (And.intro @kal85 (And.intro @qkbeql9 (And.intro @kbeql9 @kst85f)))))))))))))))))))
theorem st47 : type_of% (And.intro @kbx55 (And.intro @kfa55_0 @kld9)) := And.intro @kbx55 (And.intro @kfa55_0 @kld9)
theorem st48 : type_of% (And.intro @kbx85 (And.intro @kfa85_0 @kld9)) := And.intro @kbx85 (And.intro @kfa85_0 @kld9)
theorem st49 : type_of% (And.intro @kbx55 (And.intro @kbx85 (And.intro @kfa55_1 (And.intro @kld52 (And.intro @kfa85_1 (And.intro @kld22 (And.intro @kld55 (And.intro @kbs22_1_0 @kst22)))))))) := And.intro @kbx55 (And.intro @kbx85 (And.intro @kfa55_1 (And.intro @kld52 (And.intro @kfa85_1 (And.intro @kld22 (And.intro @kld55 (And.intro @kbs22_1_0 @kst22)))))))
theorem st50 : type_of% (And.intro @kbx52 (And.intro @kld52 @kbgtr3)) := And.intro @kbx52 (And.intro @kld52 @kbgtr3)
theorem st51 : type_of% (And.intro @kld55 (And.intro @kbx55 (And.intro @kal55 (And.intro @kfa55_2 (And.intro @kld53 (And.intro @kst53 @kst55f)))))) := And.intro @kld55 (And.intro @kbx55 (And.intro @kal55 (And.intro @kfa55_2 (And.intro @kld53 (And.intro @kst53 @kst55f)))))
theorem st52 : type_of% (And.intro @klen22 (And.intro @hlen22 (And.intro @ksl22_011 @ksl22_011z))) := And.intro @klen22 (And.intro @hlen22 (And.intro @ksl22_011 @ksl22_011z))
theorem st53 : type_of% (And.intro @kbx38 (And.intro @qkfa38_0 (And.intro @kfa38_0 (And.intro @kld2 (And.intro @qkfa38_1 (And.intro @kfa38_1 (And.intro @qkfa38_2 (And.intro @kfa38_2 (And.intro @qkfa38_3 (And.intro @kfa38_3 (And.intro @kld9 (And.intro @kbs136_4_0_1_2_3 (And.intro @kblss3 (And.intro @kia136 (And.intro @kld3 (And.intro @kbneq3 @kbadd3)))))))))))))))) := And.intro @kbx38 (And.intro @qkfa38_0 (And.intro @kfa38_0 (And.intro @kld2 (And.intro @qkfa38_1 (And.intro @kfa38_1 (And.intro @qkfa38_2 (And.intro @kfa38_2 (And.intro @qkfa38_3 (And.intro @kfa38_3 (And.intro @kld9 (And.intro @kbs136_4_0_1_2_3 (And.intro @kblss3 (And.intro @kia136 (And.intro @kld3 (And.intro @kbneq3 @kbadd3)))))))))))))))
theorem st54 : type_of% (And.intro @klen23 (And.intro @hlen23 (And.intro @kblss3 (And.intro @kia23 (And.intro @kld85 (And.intro @kal85 (And.intro @kst85f (And.intro @qklen22 (And.intro @klen22 (And.intro @hlen22 (And.intro @qkblss3 (And.intro @qkia22 (And.intro @kia22 (And.intro @kld55 (And.intro @qkblss9 (And.intro @kblss9 (And.intro @kbadd3 (And.intro @kal55 (And.intro @qkbeql9 (And.intro @kbeql9 @kst55f)))))))))))))))))))) := And.intro @klen23 (And.intro @hlen23 (And.intro @kblss3 (And.intro @kia23 (And.intro @kld85 (And.intro @kal85 (And.intro @kst85f (And.intro @qklen22 (And.intro @klen22 (And.intro @hlen22 (And.intro @qkblss3 (And.intro @qkia22 (And.intro @kia22 (And.intro @kld55 (And.intro @qkblss9 (And.intro @kblss9 (And.intro @kbadd3 (And.intro @kal55 (And.intro @qkbeql9 (And.intro @kbeql9 @kst55f)))))))))))))))))))
theorem st55 : type_of% (And.intro @kbx85 (And.intro @kbx55 (And.intro @kfa85_1 (And.intro @kld52 (And.intro @kfa55_1 (And.intro @kld24 (And.intro @kfa85_0 (And.intro @kld9 (And.intro @kbs24_1_0 @kst24))))))))) := And.intro @kbx85 (And.intro @kbx55 (And.intro @kfa85_1 (And.intro @kld52 (And.intro @kfa55_1 (And.intro @kld24 (And.intro @kfa85_0 (And.intro @kld9 (And.intro @kbs24_1_0 @kst24))))))))
theorem st56 : type_of% (And.intro @klen24 (And.intro @hlen24 (And.intro @ksl24_011 @ksl24_011z))) := And.intro @klen24 (And.intro @hlen24 (And.intro @ksl24_011 @ksl24_011z))
theorem st57 : type_of% (@kbgeq3) := @kbgeq3
theorem st58 : type_of% (And.intro @klen136 (And.intro @hlen136 (And.intro @kblss3 (And.intro @kia136 (And.intro @kld3 (And.intro @kbneq3 @kbadd3)))))) := And.intro @klen136 (And.intro @hlen136 (And.intro @kblss3 (And.intro @kia136 (And.intro @kld3 (And.intro @kbneq3 @kbadd3)))))
theorem st59 : type_of% (And.intro @kblss2 @kbgtr2) := And.intro @kblss2 @kbgtr2
theorem st61 : type_of% (And.intro @kld65 (And.intro @kbx60 (And.intro @kal65 (And.intro @kld60 (And.intro @kbd65_ (And.intro @kst65f (And.intro @kfa60_1 (And.intro @kld33 @kia33)))))))) := And.intro @kld65 (And.intro @kbx60 (And.intro @kal65 (And.intro @kld60 (And.intro @kbd65_ (And.intro @kst65f (And.intro @kfa60_1 (And.intro @kld33 @kia33)))))))
theorem st62 : type_of% (And.intro @kld60 (And.intro @kbx60 (And.intro @kal60 (And.intro @kfa60_0 (And.intro @kld3 (And.intro @kbd60_0 (And.intro @kst60f (And.intro @kfa60_1 (And.intro @kld33 (And.intro @klen33 (And.intro @hlen33 (And.intro @kblss3 (And.intro @kia33 (And.intro @kfa65_0 (And.intro @kld9 (And.intro @kbneq9 (And.intro @qkfa60_1 (And.intro @qkia33 (And.intro @kld65 (And.intro @kbs33_1_0 (And.intro @kst33 @kbadd3))))))))))))))))))))) := And.intro @kld60 (And.intro @kbx60 (And.intro @kal60 (And.intro @kfa60_0 (And.intro @kld3 (And.intro @kbd60_0 (And.intro @kst60f (And.intro @kfa60_1 (And.intro @kld33 (And.intro @klen33 (And.intro @hlen33 (And.intro @kblss3 (And.intro @kia33 (And.intro @kfa65_0 (And.intro @kld9 (And.intro @kbneq9 (And.intro @qkfa60_1 (And.intro @qkia33 (And.intro @kld65 (And.intro @kbs33_1_0 (And.intro @kst33 @kbadd3))))))))))))))))))))
theorem st63 : type_of% (And.intro @kld65 (And.intro @kbx60 (And.intro @kal65 (And.intro @kfa60_1 (And.intro @kld33 (And.intro @kia33 (And.intro @kst65f (And.intro @klen33 (And.intro @hlen33 (And.intro @kblss3 (And.intro @qkfa60_1 (And.intro @qkia33 (And.intro @qkfa65_1 (And.intro @kfa65_1 (And.intro @kld38 (And.intro @qkblss3 @kbadd3)))))))))))))))) := And.intro @kld65 (And.intro @kbx60 (And.intro @kal65 (And.intro @kfa60_1 (And.intro @kld33 (And.intro @kia33 (And.intro @kst65f (And.intro @klen33 (And.intro @hlen33 (And.intro @kblss3 (And.intro @qkfa60_1 (And.intro @qkia33 (And.intro @qkfa65_1 (And.intro @kfa65_1 (And.intro @kld38 (And.intro @qkblss3 @kbadd3)))))))))))))))
theorem st64 : type_of% (And.intro @kbx60 (And.intro @kfa60_1 (And.intro @kld33 (And.intro @klen33 (And.intro @hlen33 (And.intro @kblss3 (And.intro @kia33 (And.intro @kfa65_0 (And.intro @kld9 (And.intro @kblss9 (And.intro @kbadd3 (And.intro @qkfa60_1 (And.intro @qklen33 (And.intro @qkblss3 (And.intro @qkia33 (And.intro @qkfa65_0 (And.intro @qkbeql9 @kbeql9))))))))))))))))) := And.intro @kbx60 (And.intro @kfa60_1 (And.intro @kld33 (And.intro @klen33 (And.intro @hlen33 (And.intro @kblss3 (And.intro @kia33 (And.intro @kfa65_0 (And.intro @kld9 (And.intro @kblss9 (And.intro @kbadd3 (And.intro @qkfa60_1 (And.intro @qklen33 (And.intro @qkblss3 (And.intro @qkia33 (And.intro @qkfa65_0 (And.intro @qkbeql9 @kbeql9))))))))))))))))
theorem st65 : type_of% (And.intro @kbx65 (And.intro @kfa65_0 (And.intro @kld9 (And.intro @kbeql9 (And.intro @kfa65_1 (And.intro @kld38 (And.intro @kbeql3 (And.intro @kfa65_2 @kld63)))))))) := And.intro @kbx65 (And.intro @kfa65_0 (And.intro @kld9 (And.intro @kbeql9 (And.intro @kfa65_1 (And.intro @kld38 (And.intro @kbeql3 (And.intro @kfa65_2 @kld63)))))))
theorem st66 : type_of% (And.intro @kld73 (And.intro @kbx55 (And.intro @kal73 (And.intro @kfa55_2 (And.intro @kld53 (And.intro @kal126 (And.intro @kst126f (And.intro @kfa126_0 (And.intro @kld3 (And.intro @kbneq3 (And.intro @kfa126_2 (And.intro @kld9 (And.intro @kblss3 (And.intro @kbd73_ (And.intro @kst73f (And.intro @kfa55_0 (And.intro @kbd73_0_1 (And.intro @kbeql3 (And.intro @kfa126_1 (And.intro @kld2 (And.intro @kfa73_2 @kst2))))))))))))))))))))) := And.intro @kld73 (And.intro @kbx55 (And.intro @kal73 (And.intro @kfa55_2 (And.intro @kld53 (And.intro @kal126 (And.intro @kst126f (And.intro @kfa126_0 (And.intro @kld3 (And.intro @kbneq3 (And.intro @kfa126_2 (And.intro @kld9 (And.intro @kblss3 (And.intro @kbd73_ (And.intro @kst73f (And.intro @kfa55_0 (And.intro @kbd73_0_1 (And.intro @kbeql3 (And.intro @kfa126_1 (And.intro @kld2 (And.intro @kfa73_2 @kst2))))))))))))))))))))
theorem st67 : type_of% (And.intro @klen68 @hlen68) := And.intro @klen68 @hlen68
theorem st68 : type_of% (And.intro @kbx73 (And.intro @qkfa73_2 (And.intro @kfa73_2 (And.intro @kld2 (And.intro @qkfa73_1 (And.intro @kfa73_1 (And.intro @kld9 (And.intro @qkfa73_0 (And.intro @kfa73_0 @kbs136_3_0_1_2))))))))) := And.intro @kbx73 (And.intro @qkfa73_2 (And.intro @kfa73_2 (And.intro @kld2 (And.intro @qkfa73_1 (And.intro @kfa73_1 (And.intro @kld9 (And.intro @qkfa73_0 (And.intro @kfa73_0 @kbs136_3_0_1_2))))))))
theorem st69 : type_of% (And.intro @klen68 (And.intro @hlen68 (And.intro @ksl68_011 @ksl68_011z))) := And.intro @klen68 (And.intro @hlen68 (And.intro @ksl68_011 @ksl68_011z))
theorem st70 : type_of% (And.intro @kld121 (And.intro @kal121 (And.intro @klen63 (And.intro @hlen63 (And.intro @kblss3 (And.intro @kia63 (And.intro @kfa133_0 (And.intro @kld9 (And.intro @kbeql9 (And.intro @kfa133_1 (And.intro @kst121f (And.intro @kbadd3 @kbd121_)))))))))))) := And.intro @kld121 (And.intro @kal121 (And.intro @klen63 (And.intro @hlen63 (And.intro @kblss3 (And.intro @kia63 (And.intro @kfa133_0 (And.intro @kld9 (And.intro @kbeql9 (And.intro @kfa133_1 (And.intro @kst121f (And.intro @kbadd3 @kbd121_)))))))))))
theorem st71 : type_of% (@kbneq9) := @kbneq9
theorem st72 : type_of% (And.intro @kbx76 (And.intro @kfa76_2 (And.intro @kld2 (And.intro @kbneq2 (And.intro @kblss2 (And.intro @kfa76_1 (And.intro @kld9 (And.intro @kbneq9 (And.intro @kblss9 @kfa76_0))))))))) := And.intro @kbx76 (And.intro @kfa76_2 (And.intro @kld2 (And.intro @kbneq2 (And.intro @kblss2 (And.intro @kfa76_1 (And.intro @kld9 (And.intro @kbneq9 (And.intro @kblss9 @kfa76_0))))))))
theorem st73 : type_of% (And.intro @kld73 (And.intro @kal73 (And.intro @klen68 (And.intro @hlen68 (And.intro @kbeql3 (And.intro @kst73f @kia68)))))) := And.intro @kld73 (And.intro @kal73 (And.intro @klen68 (And.intro @hlen68 (And.intro @kbeql3 (And.intro @kst73f @kia68)))))
theorem st74 : type_of% (And.intro @kbgeq2 @kbleq2) := And.intro @kbgeq2 @kbleq2
theorem st75 : type_of% (@kbneq9) := @kbneq9
theorem st76 : type_of% (And.intro @kbgeq2 @kbleq2) := And.intro @kbgeq2 @kbleq2
theorem st77 : type_of% (And.intro @klen24 (And.intro @hlen24 (And.intro @kblss3 (And.intro @kia24 (And.intro @kld9 (And.intro @kbadd3 @kbleq3)))))) := And.intro @klen24 (And.intro @hlen24 (And.intro @kblss3 (And.intro @kia24 (And.intro @kld9 (And.intro @kbadd3 @kbleq3)))))
theorem st78 : type_of% (And.intro @kbx55 (And.intro @kfa55_0 (And.intro @kld9 (And.intro @klen9 (And.intro @hlen9 (And.intro @kbleq3 (And.intro @kfa55_1 (And.intro @kfa52_3 (And.intro @kfa55_2 @kld53))))))))) := And.intro @kbx55 (And.intro @kfa55_0 (And.intro @kld9 (And.intro @klen9 (And.intro @hlen9 (And.intro @kbleq3 (And.intro @kfa55_1 (And.intro @kfa52_3 (And.intro @kfa55_2 @kld53))))))))
theorem st79 : type_of% (And.intro @kbx121 (And.intro @kfa121_0 (And.intro @kld3 (And.intro @kbeql3 (And.intro @kfa121_2 (And.intro @kld9 (And.intro @klen9 (And.intro @hlen9 (And.intro @kbgtr3 (And.intro @kblss3 (And.intro @kblss5 (And.intro @kbgtr5 (And.intro @kbeql5 (And.intro @kbadd3 (And.intro @kfa121_3 (And.intro @kld80 (And.intro @klen80 (And.intro @hlen80 (And.intro @qkfa121_3 (And.intro @qkbsub3 (And.intro @kbsub3 (And.intro @qkia80 (And.intro @kia80 (And.intro @kld2 (And.intro @qkbgeq2 @kbgeq2))))))))))))))))))))))))) := And.intro @kbx121 (And.intro @kfa121_0 (And.intro @kld3 (And.intro @kbeql3 (And.intro @kfa121_2 (And.intro @kld9 (And.intro @klen9 (And.intro @hlen9 (And.intro @kbgtr3 (And.intro @kblss3 (And.intro @kblss5 (And.intro @kbgtr5 (And.intro @kbeql5 (And.intro @kbadd3 (And.intro @kfa121_3 (And.intro @kld80 (And.intro @klen80 (And.intro @hlen80 (And.intro @qkfa121_3 (And.intro @qkbsub3 (And.intro @kbsub3 (And.intro @qkia80 (And.intro @kia80 (And.intro @kld2 (And.intro @qkbgeq2 @kbgeq2))))))))))))))))))))))))
theorem st80 : type_of% (And.intro @klen53 (And.intro @hlen53 (And.intro @kblss3 (And.intro @qkia53 (And.intro @kia53 (And.intro @qkfa128_0 (And.intro @kfa128_0 (And.intro @kld9 (And.intro @qkfa128_1 (And.intro @kfa128_1 (And.intro @kld126 (And.intro @kbd133_0_1 (And.intro @kbs63_1_0 @kbadd3))))))))))))) := And.intro @klen53 (And.intro @hlen53 (And.intro @kblss3 (And.intro @qkia53 (And.intro @kia53 (And.intro @qkfa128_0 (And.intro @kfa128_0 (And.intro @kld9 (And.intro @qkfa128_1 (And.intro @kfa128_1 (And.intro @kld126 (And.intro @kbd133_0_1 (And.intro @kbs63_1_0 @kbadd3))))))))))))
theorem st81 : type_of% (And.intro @klen53 (And.intro @hlen53 (And.intro @kblss3 (And.intro @kia53 (And.intro @kld128 (And.intro @kal128 (And.intro @kst128f (And.intro @qkfa128_0 (And.intro @kfa128_0 (And.intro @kld9 (And.intro @qkfa128_1 (And.intro @kfa128_1 (And.intro @kld126 (And.intro @kbd128_0_1 (And.intro @kbs53_1_0 @kbadd3))))))))))))))) := And.intro @klen53 (And.intro @hlen53 (And.intro @kblss3 (And.intro @kia53 (And.intro @kld128 (And.intro @kal128 (And.intro @kst128f (And.intro @qkfa128_0 (And.intro @kfa128_0 (And.intro @kld9 (And.intro @qkfa128_1 (And.intro @kfa128_1 (And.intro @kld126 (And.intro @kbd128_0_1 (And.intro @kbs53_1_0 @kbadd3))))))))))))))
theorem st82 : type_of% (And.intro @kblss2 @kbgtr2) := And.intro @kblss2 @kbgtr2
theorem st83 : type_of% (And.intro @kblss9 @kbgtr9) := And.intro @kblss9 @kbgtr9
theorem st84 : type_of% (And.intro @klen24 (And.intro @hlen24 (And.intro @kblss3 (And.intro @kia24 (And.intro @kld9 (And.intro @kbeql9 @kbadd3)))))) := And.intro @klen24 (And.intro @hlen24 (And.intro @kblss3 (And.intro @kia24 (And.intro @kld9 (And.intro @kbeql9 @kbadd3)))))
theorem st85 : type_of% (@kbneq2) := @kbneq2
theorem st86 : type_of% (And.intro @klen53 (And.intro @hlen53 (And.intro @kbneq3 (And.intro @kblss3 (And.intro @kia53 (And.intro @kld128 (And.intro @kal128 (And.intro @kst128f @kbadd3)))))))) := And.intro @klen53 (And.intro @hlen53 (And.intro @kbneq3 (And.intro @kblss3 (And.intro @kia53 (And.intro @kld128 (And.intro @kal128 (And.intro @kst128f @kbadd3)))))))
theorem st87 : type_of% (And.intro @kbx128 (And.intro @kfa128_0 (And.intro @kld9 (And.intro @kbeql9 (And.intro @kfa128_1 @kld126))))) := And.intro @kbx128 (And.intro @kfa128_0 (And.intro @kld9 (And.intro @kbeql9 (And.intro @kfa128_1 @kld126))))
theorem st88 : type_of% (And.intro @kbx126 (And.intro @kld126 @kbeql3)) := And.intro @kbx126 (And.intro @kld126 @kbeql3)
theorem st89 : type_of% (And.intro @klen63 (And.intro @hlen63 (And.intro @kbneq3 (And.intro @kblss3 (And.intro @qkia63 (And.intro @kia63 (And.intro @qkfa133_0 (And.intro @kfa133_0 (And.intro @kld9 (And.intro @qkbneq9 (And.intro @kbneq9 (And.intro @qkfa133_1 (And.intro @kfa133_1 (And.intro @kld121 (And.intro @qkbneq3 @kbadd3))))))))))))))) := And.intro @klen63 (And.intro @hlen63 (And.intro @kbneq3 (And.intro @kblss3 (And.intro @qkia63 (And.intro @kia63 (And.intro @qkfa133_0 (And.intro @kfa133_0 (And.intro @kld9 (And.intro @qkbneq9 (And.intro @kbneq9 (And.intro @qkfa133_1 (And.intro @kfa133_1 (And.intro @kld121 (And.intro @qkbneq3 @kbadd3))))))))))))))
theorem st90 : type_of% (And.intro @kld126 (And.intro @kal126 (And.intro @kbd126_ (And.intro @kst126f (And.intro @kia53 @kfa128_1))))) := And.intro @kld126 (And.intro @kal126 (And.intro @kbd126_ (And.intro @kst126f (And.intro @kia53 @kfa128_1))))
theorem st91 : type_of% (And.intro @kbneq30 (And.intro @klen24 @hlen24)) := And.intro @kbneq30 (And.intro @klen24 @hlen24)
theorem st92 : type_of% (And.intro @kbleq3 (And.intro @kbadd3 (And.intro @kblss3 @kbmul3))) := And.intro @kbleq3 (And.intro @kbadd3 (And.intro @kblss3 @kbmul3))
theorem st93 : type_of% (@kbeql3) := @kbeql3
theorem st96 : type_of% (And.intro @kbeql9 (And.intro @klen9 (And.intro @hlen9 (And.intro @kbgtr3 (And.intro @kblss5 (And.intro @kblss3 (And.intro @kbgtr5 @kbadd3))))))) := And.intro @kbeql9 (And.intro @klen9 (And.intro @hlen9 (And.intro @kbgtr3 (And.intro @kblss5 (And.intro @kblss3 (And.intro @kbgtr5 @kbadd3))))))
theorem st97 : type_of% (And.intro @klen53 (And.intro @hlen53 (And.intro @kbgtr3 (And.intro @kblss3 (And.intro @kia53 (And.intro @kfa128_0 (And.intro @kld9 (And.intro @klen9 (And.intro @hlen9 (And.intro @kfa128_1 (And.intro @kld126 @kbadd3))))))))))) := And.intro @klen53 (And.intro @hlen53 (And.intro @kbgtr3 (And.intro @kblss3 (And.intro @kia53 (And.intro @kfa128_0 (And.intro @kld9 (And.intro @klen9 (And.intro @hlen9 (And.intro @kfa128_1 (And.intro @kld126 @kbadd3))))))))))
theorem st98 : type_of% (And.intro @kld121 (And.intro @kbx126 (And.intro @kal121 (And.intro @kfa126_0 (And.intro @kld3 (And.intro @kfa126_1 (And.intro @kld2 (And.intro @kfa126_2 (And.intro @kld9 (And.intro @kfa126_3 (And.intro @kld80 (And.intro @kbd121_0_1_2_3 @kst121f)))))))))))) := And.intro @kld121 (And.intro @kbx126 (And.intro @kal121 (And.intro @kfa126_0 (And.intro @kld3 (And.intro @kfa126_1 (And.intro @kld2 (And.intro @kfa126_2 (And.intro @kld9 (And.intro @kfa126_3 (And.intro @kld80 (And.intro @kbd121_0_1_2_3 @kst121f)))))))))))
theorem st99 : type_of% (And.intro @kld126 (And.intro @kbx126 (And.intro @kal126 (And.intro @kfa126_3 (And.intro @kld80 (And.intro @kst80 @kst126f)))))) := And.intro @kld126 (And.intro @kbx126 (And.intro @kal126 (And.intro @kfa126_3 (And.intro @kld80 (And.intro @kst80 @kst126f)))))
theorem st100 : type_of% (And.intro @klen53 (And.intro @hlen53 (And.intro @ksl53_011 @ksl53_011z))) := And.intro @klen53 (And.intro @hlen53 (And.intro @ksl53_011 @ksl53_011z))
theorem st101 : type_of% (And.intro @kbx126 (And.intro @kfa126_0 (And.intro @kld3 (And.intro @kbneq3 (And.intro @kbeql3 (And.intro @kfa126_1 (And.intro @kld2 (And.intro @kfa126_2 (And.intro @kld9 (And.intro @kfa126_3 @kld80)))))))))) := And.intro @kbx126 (And.intro @kfa126_0 (And.intro @kld3 (And.intro @kbneq3 (And.intro @kbeql3 (And.intro @kfa126_1 (And.intro @kld2 (And.intro @kfa126_2 (And.intro @kld9 (And.intro @kfa126_3 @kld80)))))))))
theorem st102 : type_of% (And.intro @kbx121 (And.intro @kfa121_0 (And.intro @kld3 (And.intro @kbneq3 (And.intro @kbeql3 (And.intro @kfa121_1 (And.intro @kld2 (And.intro @kfa121_2 (And.intro @kld9 (And.intro @kfa121_3 (And.intro @kld80 (And.intro @klen80 (And.intro @hlen80 (And.intro @kblss3 (And.intro @qkfa121_3 (And.intro @qkia80 (And.intro @kia80 (And.intro @qkbneq2 (And.intro @kbneq2 @kbadd3))))))))))))))))))) := And.intro @kbx121 (And.intro @kfa121_0 (And.intro @kld3 (And.intro @kbneq3 (And.intro @kbeql3 (And.intro @kfa121_1 (And.intro @kld2 (And.intro @kfa121_2 (And.intro @kld9 (And.intro @kfa121_3 (And.intro @kld80 (And.intro @klen80 (And.intro @hlen80 (And.intro @kblss3 (And.intro @qkfa121_3 (And.intro @qkia80 (And.intro @kia80 (And.intro @qkbneq2 (And.intro @kbneq2 @kbadd3))))))))))))))))))
theorem st104 : type_of% (And.intro @klen24 (And.intro @hlen24 @kbgtr3)) := And.intro @klen24 (And.intro @hlen24 @kbgtr3)
theorem st105 : type_of% (And.intro @kbadd3 (And.intro @kblss3 (And.intro @qkbgtr3 (And.intro @kbgtr3 (And.intro @qkia68 (And.intro @kia68 (And.intro @kld73 (And.intro @qkbsub3 (And.intro @kbsub3 (And.intro @qkblss3 @kst73f)))))))))) := And.intro @kbadd3 (And.intro @kblss3 (And.intro @qkbgtr3 (And.intro @kbgtr3 (And.intro @qkia68 (And.intro @kia68 (And.intro @kld73 (And.intro @qkbsub3 (And.intro @kbsub3 (And.intro @qkblss3 @kst73f)))))))))
theorem st106 : type_of% (And.intro @kbsub3 (And.intro @kbeql3 (And.intro @kblss3 (And.intro @kbadd3 (And.intro @kcv3_51 (And.intro @kbshr51_i32 (And.intro @kbshr51_i64 (And.intro @kbshr51_u16 (And.intro @kbshr51_u32 (And.intro @kbshr51_u64 (And.intro @kbshr51_u8 (And.intro @kcv51_3 (And.intro @qkia68 (And.intro @kia68 (And.intro @kld73 (And.intro @qkblss3 (And.intro @qkbadd3 (And.intro @kst73f (And.intro @kbgtr3 @qkbsub3))))))))))))))))))) := And.intro @kbsub3 (And.intro @kbeql3 (And.intro @kblss3 (And.intro @kbadd3 (And.intro @kcv3_51 (And.intro @kbshr51_i32 (And.intro @kbshr51_i64 (And.intro @kbshr51_u16 (And.intro @kbshr51_u32 (And.intro @kbshr51_u64 (And.intro @kbshr51_u8 (And.intro @kcv51_3 (And.intro @qkia68 (And.intro @kia68 (And.intro @kld73 (And.intro @qkblss3 (And.intro @qkbadd3 (And.intro @kst73f (And.intro @kbgtr3 @qkbsub3))))))))))))))))))
theorem st107 : type_of% (And.intro @klen24 (And.intro @hlen24 (And.intro @kblss3 (And.intro @kia24 (And.intro @kld9 (And.intro @kbadd3 @kbgtr3)))))) := And.intro @klen24 (And.intro @hlen24 (And.intro @kblss3 (And.intro @kia24 (And.intro @kld9 (And.intro @kbadd3 @kbgtr3)))))
theorem st108 : type_of% (And.intro @klen9 @hlen9) := And.intro @klen9 @hlen9
theorem st110 : type_of% (And.intro @kbx126 (And.intro @kfa126_2 (And.intro @kld9 (And.intro @klen9 (And.intro @hlen9 (And.intro @kbleq3 (And.intro @kfa126_3 (And.intro @kld80 (And.intro @klen80 @hlen80))))))))) := And.intro @kbx126 (And.intro @kfa126_2 (And.intro @kld9 (And.intro @klen9 (And.intro @hlen9 (And.intro @kbleq3 (And.intro @kfa126_3 (And.intro @kld80 (And.intro @klen80 @hlen80))))))))
theorem st111 : type_of% (And.intro @klen80 (And.intro @hlen80 (And.intro @ksl80_011 @ksl80_011z))) := And.intro @klen80 (And.intro @hlen80 (And.intro @ksl80_011 @ksl80_011z))
theorem st112 : type_of% (And.intro @kbeql80n (And.intro @kbeql80z @kbs80_0)) := And.intro @kbeql80n (And.intro @kbeql80z @kbs80_0)
theorem st113 : type_of% (And.intro @kblss3 @kbgtr3) := And.intro @kblss3 @kbgtr3
theorem st114 : type_of% (And.intro @klen80 (And.intro @hlen80 (And.intro @kblss3 (And.intro @kia80 (And.intro @kld2 (And.intro @kbgeq3 (And.intro @kbneq3 @kbadd3))))))) := And.intro @klen80 (And.intro @hlen80 (And.intro @kblss3 (And.intro @kia80 (And.intro @kld2 (And.intro @kbgeq3 (And.intro @kbneq3 @kbadd3))))))
theorem st115 : type_of% (And.intro @klen53 (And.intro @hlen53 (And.intro @kblss3 (And.intro @kbadd3 (And.intro @kcv3_51 (And.intro @kbshr51_i32 (And.intro @kbshr51_i64 (And.intro @kbshr51_u16 (And.intro @kbshr51_u32 (And.intro @kbshr51_u64 (And.intro @kbshr51_u8 (And.intro @kcv51_3 (And.intro @kia53 (And.intro @kld128 @kbeql3)))))))))))))) := And.intro @klen53 (And.intro @hlen53 (And.intro @kblss3 (And.intro @kbadd3 (And.intro @kcv3_51 (And.intro @kbshr51_i32 (And.intro @kbshr51_i64 (And.intro @kbshr51_u16 (And.intro @kbshr51_u32 (And.intro @kbshr51_u64 (And.intro @kbshr51_u8 (And.intro @kcv51_3 (And.intro @kia53 (And.intro @kld128 @kbeql3)))))))))))))
theorem st116 : type_of% (And.intro @kbx128 (And.intro @kfa128_0 @kld9)) := And.intro @kbx128 (And.intro @kfa128_0 @kld9)
theorem st117 : type_of% (@kbeql9) := @kbeql9
theorem st118 : type_of% (@kbgeq3) := @kbgeq3
theorem st120 : type_of% (And.intro @kbsub3 (And.intro @kbneq3 (And.intro @kbgtr3 @kbadd3))) := And.intro @kbsub3 (And.intro @kbneq3 (And.intro @kbgtr3 @kbadd3))
theorem st121 : type_of% (And.intro @kbeql9 (And.intro @kbneq5 (And.intro @kbs24_1_0 (And.intro @klen9 (And.intro @hlen9 (And.intro @kblss3 (And.intro @kbeql5 (And.intro @qklen24 (And.intro @klen24 (And.intro @hlen24 (And.intro @qkbsub3 (And.intro @kbsub3 (And.intro @qkia24 (And.intro @kia24 (And.intro @kld9 (And.intro @qkbadd3 (And.intro @kbadd3 @kst9))))))))))))))))) := And.intro @kbeql9 (And.intro @kbneq5 (And.intro @kbs24_1_0 (And.intro @klen9 (And.intro @hlen9 (And.intro @kblss3 (And.intro @kbeql5 (And.intro @qklen24 (And.intro @klen24 (And.intro @hlen24 (And.intro @qkbsub3 (And.intro @kbsub3 (And.intro @qkia24 (And.intro @kia24 (And.intro @kld9 (And.intro @qkbadd3 (And.intro @kbadd3 @kst9))))))))))))))))
theorem st122 : type_of% (And.intro @klen9 (And.intro @hlen9 (And.intro @kbgeq3 @kbeql9))) := And.intro @klen9 (And.intro @hlen9 (And.intro @kbgeq3 @kbeql9))
theorem st126 : type_of% (@kbneq3) := @kbneq3
theorem st127 : type_of% (And.intro @klen24 (And.intro @hlen24 (And.intro @kblss3 (And.intro @kia24 (And.intro @kld9 @kbadd3))))) := And.intro @klen24 (And.intro @hlen24 (And.intro @kblss3 (And.intro @kia24 (And.intro @kld9 @kbadd3))))
theorem st128 : type_of% (And.intro @kblss3 (And.intro @qkbadd3 (And.intro @kbadd3 (And.intro @qkia68 (And.intro @kia68 (And.intro @kld73 @kst73f)))))) := And.intro @kblss3 (And.intro @qkbadd3 (And.intro @kbadd3 (And.intro @qkia68 (And.intro @kia68 (And.intro @kld73 @kst73f)))))
end Go.Proofs.YtpjeohellehgjaaDoor