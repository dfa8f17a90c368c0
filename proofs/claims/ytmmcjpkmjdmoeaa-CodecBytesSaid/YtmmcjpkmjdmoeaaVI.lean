import Derived.Test.YtmmcjpkmjdmoeaaRows
import Derived.Test.YtmmcjpkmjdmoeaaV2
set_option linter.unusedVariables false
set_option linter.unusedSimpArgs false
set_option maxRecDepth 100000
namespace Go.Proofs.Ytmmcjpkmjdmoeaa
open Go.RowKit Go.Cn
theorem klen22 (A : Option Addr) (n c : Nat) (K : Value → World → Prop) (w : World) : BuiltinK Try.prog .len #[22] 3 #[false] #[(.slice A n c)] K w = K (.int .i64 (n : Int)) w := by
  unfold BuiltinK; (first | (go_simp; rfl) | (go_simp; done))

theorem hlen22 (A : Option Addr) (n c : Nat) {K : Value → Prop} {w1 : World} : TakeO Try.prog (fun w' => w' = w1) (builtin .len #[22] 3 #[false] #[(.slice A n c)]) K = K (.int .i64 (n : Int)) := by
  exact here_o (fun w => by (first | (go_simp; rfl) | (go_simp; done)))

theorem kbgtr3 (x y : Int) (K : Value → World → Prop) (w : World) : BinK Try.prog .gtr 3 (.int .i64 x) (.int .i64 y) K w = K (.bool (decide (y < x))) w := by
  unfold BinK; (first | (go_simp; rfl) | (go_simp; done))

theorem kbd27_  (K : Value → World → Prop) (w : World) : BuildK Try.prog 27 #[] K w = K (.agg #[.slice none 0 0]) w := by
  unfold BuildK; (first | (go_simp; rfl) | (go_simp; done))

theorem kbx27 (v_0A : Option Addr) (v_0n v_0c : Nat) (K : Value → World → Prop) (w : World) : BoxK Try.prog 27 (.agg #[(.slice v_0A v_0n v_0c)]) K w = K (.pointer (some ⟨w.heap.size, 0, none⟩)) (w.alloc (.cells #[(.slice v_0A v_0n v_0c)] 27)) := by
  unfold BoxK; (first | (go_simp; rfl) | (go_simp; done))

theorem kblss3 (x y : Int) (K : Value → World → Prop) (w : World) : BinK Try.prog .lss 3 (.int .i64 x) (.int .i64 y) K w = K (.bool (decide (x < y))) w := by
  unfold BinK; (first | (go_simp; rfl) | (go_simp; done))

theorem kia22 (g o n c : Nat) (i : Int) (h : 0 ≤ i ∧ i < (n : Int)) (K : Value → World → Prop) (w : World) : IndexAtK Try.prog 22 (.slice (some ⟨g, o, none⟩) n c) (.int .i64 i) K w = K (.pointer (some ⟨g, o + i.toNat * 4, none⟩)) w := by
  obtain ⟨h0, h1⟩ := h
  unfold IndexAtK; (first | (go_simp; rfl) | (go_simp; done))

theorem kfa29_2 (g o : Nat) (K : Value → World → Prop) (w : World) : FieldAtK Try.prog 29 (.pointer (some ⟨g, o, none⟩)) 2 K w = K (.pointer (some ⟨g, o + 2, none⟩)) w := by
  unfold FieldAtK; (first | (go_simp; rfl) | (go_simp; done))

theorem kld9 (a : Addr) (K : Value → World → Prop) (w : World) : LoadK Try.prog 9 (.pointer (some a)) K w = OptK (w.cell? a) (@hid _ ⟨fun v => K v w⟩) (LoadRaw Try.prog 9 a K w) := by
  exact loadK_eq Try.underlying9 rfl a K w

theorem klen9 (s : ByteArray) (K : Value → World → Prop) (w : World) : BuiltinK Try.prog .len #[9] 3 #[false] #[(.string s)] K w = K (.int .i64 (s.size : Int)) w := by
  unfold BuiltinK; (first | (go_simp; rfl) | (go_simp; done))

theorem hlen9 (s : ByteArray) {K : Value → Prop} {w1 : World} : TakeO Try.prog (fun w' => w' = w1) (builtin .len #[9] 3 #[false] #[(.string s)]) K = K (.int .i64 (s.size : Int)) := by
  exact here_o (fun w => by (first | (go_simp; rfl) | (go_simp; done)))

theorem kfa29_0 (g o : Nat) (K : Value → World → Prop) (w : World) : FieldAtK Try.prog 29 (.pointer (some ⟨g, o, none⟩)) 0 K w = K (.pointer (some ⟨g, o, none⟩)) w := by
  unfold FieldAtK; (first | (go_simp; rfl) | (go_simp; done))

theorem kld3 (a : Addr) (K : Value → World → Prop) (w : World) : LoadK Try.prog 3 (.pointer (some a)) K w = OptK (w.cell? a) (@hid _ ⟨fun v => K v w⟩) (LoadRaw Try.prog 3 a K w) := by
  exact loadK_eq Try.underlying3 rfl a K w

theorem kbeql3 (x y : Int) (K : Value → World → Prop) (w : World) : BinK Try.prog .eql 3 (.int .i64 x) (.int .i64 y) K w = K (.bool (x == y)) w := by
  unfold BinK; (first | (go_simp; rfl) | (go_simp; done))

theorem kbs59_1_0 (v0 : ByteArray) (K : Value → World → Prop) (w : World) : BuildSliceK Try.prog 59 1 #[(0, (.string v0))] K w = K (.slice (some ⟨w.heap.size, 0, none⟩) 1 1) (w.alloc (.cells #[(.string v0)] 9)) := by
  unfold BuildSliceK; (first | (go_simp; rfl) | (go_simp; done))

theorem kfa29_1 (g o : Nat) (K : Value → World → Prop) (w : World) : FieldAtK Try.prog 29 (.pointer (some ⟨g, o, none⟩)) 1 K w = K (.pointer (some ⟨g, o + 1, none⟩)) w := by
  unfold FieldAtK; (first | (go_simp; rfl) | (go_simp; done))

theorem kld2 (a : Addr) (K : Value → World → Prop) (w : World) : LoadK Try.prog 2 (.pointer (some a)) K w = OptK (w.cell? a) (@hid _ ⟨fun v => K v w⟩) (LoadRaw Try.prog 2 a K w) := by
  exact loadK_eq Try.underlying2 rfl a K w

theorem kbs60_1_0 (v0 : Int) (K : Value → World → Prop) (w : World) : BuildSliceK Try.prog 60 1 #[(0, (.int .i64 v0))] K w = K (.slice (some ⟨w.heap.size, 0, none⟩) 1 1) (w.alloc (.cells #[(.int .i64 v0)] 2)) := by
  unfold BuildSliceK; (first | (go_simp; rfl) | (go_simp; done))

theorem kbadd3 (x y : Int) (K : Value → World → Prop) (w : World) : BinK Try.prog .add 3 (.int .i64 x) (.int .i64 y) K w = K (.int .i64 (IntKind.i64.wrap (x + y))) w := by
  unfold BinK; (first | (go_simp; rfl) | (go_simp; done))

theorem kbneq9 (x y : ByteArray) (K : Value → World → Prop) (w : World) : BinK Try.prog .neq 9 (.string x) (.string y) K w = K (.bool (!(x.toList == y.toList))) w := by
  unfold BinK; (first | (go_simp; rfl) | (go_simp; done))

theorem kbneq3 (x y : Int) (K : Value → World → Prop) (w : World) : BinK Try.prog .neq 3 (.int .i64 x) (.int .i64 y) K w = K (.bool (x != y)) w := by
  unfold BinK; (first | (go_simp; rfl) | (go_simp; done))

theorem kbneq2 (x y : Int) (K : Value → World → Prop) (w : World) : BinK Try.prog .neq 2 (.int .i64 x) (.int .i64 y) K w = K (.bool (x != y)) w := by
  unfold BinK; (first | (go_simp; rfl) | (go_simp; done))

theorem klen25 (A : Option Addr) (n c : Nat) (K : Value → World → Prop) (w : World) : BuiltinK Try.prog .len #[25] 3 #[false] #[(.slice A n c)] K w = K (.int .i64 (n : Int)) w := by
  unfold BuiltinK; (first | (go_simp; rfl) | (go_simp; done))

theorem hlen25 (A : Option Addr) (n c : Nat) {K : Value → Prop} {w1 : World} : TakeO Try.prog (fun w' => w' = w1) (builtin .len #[25] 3 #[false] #[(.slice A n c)]) K = K (.int .i64 (n : Int)) := by
  exact here_o (fun w => by (first | (go_simp; rfl) | (go_simp; done)))

theorem kbeql9 (x y : ByteArray) (K : Value → World → Prop) (w : World) : BinK Try.prog .eql 9 (.string x) (.string y) K w = K (.bool (x.toList == y.toList)) w := by
  unfold BinK; (first | (go_simp; rfl) | (go_simp; done))

theorem kbeql50 (x y : Int) (K : Value → World → Prop) (w : World) : BinK Try.prog .eql 50 (.int .u32 x) (.int .u32 y) K w = K (.bool (x == y)) w := by
  unfold BinK; (first | (go_simp; rfl) | (go_simp; done))

theorem kcv49_3 (x : Int) (K : Value → World → Prop) (w : World) : ConvK Try.prog 49 3 (.int .u16 x) K w = K (.int .i64 (IntKind.i64.wrap x)) w := by
  unfold ConvK; (first | (go_simp; rfl) | (go_simp; done))

theorem kbsub3 (x y : Int) (K : Value → World → Prop) (w : World) : BinK Try.prog .sub 3 (.int .i64 x) (.int .i64 y) K w = K (.int .i64 (IntKind.i64.wrap (x - y))) w := by
  unfold BinK; (first | (go_simp; rfl) | (go_simp; done))

theorem kbrem3 (x y : Int) (h : 0 ≤ x ∧ 1 ≤ y ∧ x ≤ 9223372036854775807) (K : Value → World → Prop) (w : World) : BinK Try.prog .rem 3 (.int .i64 x) (.int .i64 y) K w = K (.int .i64 (x % y)) w := by
  obtain ⟨h0, h1, h2⟩ := h
  have h3 : ¬ y = 0 := by omega
  have h4 : x.tmod y = x % y := Int.tmod_eq_emod_of_nonneg h0
  have h5 : x.tdiv y = x / y := Int.tdiv_eq_ediv_of_nonneg h0
  unfold BinK; (first | (go_simp; rfl) | (go_simp; done))

theorem kbs25_0  (K : Value → World → Prop) (w : World) : BuildSliceK Try.prog 25 0 #[] K w = K (.slice (some ⟨w.heap.size, 0, none⟩) 0 0) (w.alloc (.cells #[] 5)) := by
  unfold BuildSliceK; (first | (go_simp; rfl) | (go_simp; done))

theorem kia25 (g o n c : Nat) (i : Int) (h : 0 ≤ i ∧ i < (n : Int)) (K : Value → World → Prop) (w : World) : IndexAtK Try.prog 25 (.slice (some ⟨g, o, none⟩) n c) (.int .i64 i) K w = K (.pointer (some ⟨g, o + i.toNat, none⟩)) w := by
  obtain ⟨h0, h1⟩ := h
  unfold IndexAtK; (first | (go_simp; rfl) | (go_simp; done))

theorem kld5 (a : Addr) (K : Value → World → Prop) (w : World) : LoadK Try.prog 5 (.pointer (some a)) K w = OptK (w.cell? a) (@hid _ ⟨fun v => K v w⟩) (LoadRaw Try.prog 5 a K w) := by
  exact loadK_eq Try.underlying5 rfl a K w

theorem kbmul3 (x y : Int) (K : Value → World → Prop) (w : World) : BinK Try.prog .mul 3 (.int .i64 x) (.int .i64 y) K w = K (.int .i64 (IntKind.i64.wrap (x * y))) w := by
  unfold BinK; (first | (go_simp; rfl) | (go_simp; done))

theorem kcv3_51 (x : Int) (K : Value → World → Prop) (w : World) : ConvK Try.prog 3 51 (.int .i64 x) K w = K (.int .u64 (IntKind.u64.wrap x)) w := by
  unfold ConvK; (first | (go_simp; rfl) | (go_simp; done))

theorem kbshr50_i32 (x y : Int) (h : 0 ≤ y) (K : Value → World → Prop) (w : World) : BinK Try.prog .shr 50 (.int .u32 x) (.int .i32 y) K w = K (.int .u32 (x / 2 ^ min y.toNat 32)) w := by
  unfold BinK; (first | (go_simp; rfl) | (go_simp; done))

theorem kbshr50_i64 (x y : Int) (h : 0 ≤ y) (K : Value → World → Prop) (w : World) : BinK Try.prog .shr 50 (.int .u32 x) (.int .i64 y) K w = K (.int .u32 (x / 2 ^ min y.toNat 32)) w := by
  unfold BinK; (first | (go_simp; rfl) | (go_simp; done))

theorem kbshr50_u16 (x y : Int) (h : 0 ≤ y) (K : Value → World → Prop) (w : World) : BinK Try.prog .shr 50 (.int .u32 x) (.int .u16 y) K w = K (.int .u32 (x / 2 ^ min y.toNat 32)) w := by
  unfold BinK; (first | (go_simp; rfl) | (go_simp; done))

theorem kbshr50_u32 (x y : Int) (h : 0 ≤ y) (K : Value → World → Prop) (w : World) : BinK Try.prog .shr 50 (.int .u32 x) (.int .u32 y) K w = K (.int .u32 (x / 2 ^ min y.toNat 32)) w := by
  unfold BinK; (first | (go_simp; rfl) | (go_simp; done))

theorem kbshr50_u64 (x y : Int) (h : 0 ≤ y) (K : Value → World → Prop) (w : World) : BinK Try.prog .shr 50 (.int .u32 x) (.int .u64 y) K w = K (.int .u32 (x / 2 ^ min y.toNat 32)) w := by
  unfold BinK; (first | (go_simp; rfl) | (go_simp; done))

theorem kbshr50_u8 (x y : Int) (h : 0 ≤ y) (K : Value → World → Prop) (w : World) : BinK Try.prog .shr 50 (.int .u32 x) (.int .u8 y) K w = K (.int .u32 (x / 2 ^ min y.toNat 32)) w := by
  unfold BinK; (first | (go_simp; rfl) | (go_simp; done))

theorem kcv50_5 (x : Int) (K : Value → World → Prop) (w : World) : ConvK Try.prog 50 5 (.int .u32 x) K w = K (.int .u8 (IntKind.u8.wrap x)) w := by
  unfold ConvK; (first | (go_simp; rfl) | (go_simp; done))

theorem kbxor5 (x y : Int) (K : Value → World → Prop) (w : World) : BinK Try.prog .xor 5 (.int .u8 x) (.int .u8 y) K w = K (.int .u8 (bits .xor .u8 x y)) w := by
  unfold BinK; (first | (go_simp; rfl) | (go_simp; done))

theorem kst5 (g o : Nat) (v : Int) (K : Value → World → Prop) (w : World) : StoreK Try.prog 5 (.pointer (some ⟨g, o, none⟩)) (.int .u8 v) K w = OptK (w.cell? ⟨g, o, none⟩) (@hid _ ⟨fun _ => FzK (w.frozen? ⟨g, o, none⟩) (@hid _ ⟨K undef (w.setCell ⟨g, o, none⟩ (.int .u8 v))⟩) (StoreRaw Try.prog 5 ⟨g, o, none⟩ (.int .u8 v) K w)⟩) (StoreRaw Try.prog 5 ⟨g, o, none⟩ (.int .u8 v) K w) := by
  cases h0 : w.cell? ⟨g, o, none⟩ with
  | none => rfl
  | some x =>
  cases f0 : w.frozen? ⟨g, o, none⟩ with
  | true => rfl
  | false =>
  simp only [optK_some, fzK_false]
  unfold StoreK; (first | (go_simp; rfl) | (go_simp; done))

theorem ksl25_010z (K : Value → World → Prop) (w : World) : SliceK Try.prog 25 (.slice none 0 0) none (some (.int .i64 0)) none K w = K (.slice none 0 0) w := by
  unfold SliceK; (first | (go_simp; rfl) | (go_simp; done) | (go_simp; split <;> simp_all))

theorem ksl25_010 (g o n c : Nat) (h : Int) (hb : 0 ≤ h ∧ h ≤ (c : Int)) (K : Value → World → Prop) (w : World) : SliceK Try.prog 25 (.slice (some ⟨g, o, none⟩) n c) none (some (.int .i64 h)) none K w = K (.slice (some ⟨g, o, none⟩) h.toNat c) w := by
  obtain ⟨q0, q1⟩ := hb
  unfold SliceK; (first | (go_simp; rfl) | (go_simp; done) | (go_simp; split <;> simp_all))

theorem kbor5 (x y : Int) (K : Value → World → Prop) (w : World) : BinK Try.prog .or 5 (.int .u8 x) (.int .u8 y) K w = K (.int .u8 (bits .or .u8 x y)) w := by
  unfold BinK; (first | (go_simp; rfl) | (go_simp; done))

theorem kbs25_1_0 (v0 : Int) (K : Value → World → Prop) (w : World) : BuildSliceK Try.prog 25 1 #[(0, (.int .u8 v0))] K w = K (.slice (some ⟨w.heap.size, 0, none⟩) 1 1) (w.alloc (.cells #[(.int .u8 v0)] 5)) := by
  unfold BuildSliceK; (first | (go_simp; rfl) | (go_simp; done))

theorem kbeql2 (x y : Int) (K : Value → World → Prop) (w : World) : BinK Try.prog .eql 2 (.int .i64 x) (.int .i64 y) K w = K (.bool (x == y)) w := by
  unfold BinK; (first | (go_simp; rfl) | (go_simp; done))

theorem kbd56_0 (v0A : Option Addr) (v0n v0c : Nat) (K : Value → World → Prop) (w : World) : BuildK Try.prog 56 #[(0, (.slice v0A v0n v0c))] K w = K (.agg #[(.slice v0A v0n v0c), .int .i64 0, .int .i64 0]) w := by
  unfold BuildK; (first | (go_simp; rfl) | (go_simp; done))

theorem kbx56 (v_0A : Option Addr) (v_0n v_0c : Nat) (v_1 : Int) (v_2 : Int) (K : Value → World → Prop) (w : World) : BoxK Try.prog 56 (.agg #[(.slice v_0A v_0n v_0c), (.int .i64 v_1), (.int .i64 v_2)]) K w = K (.pointer (some ⟨w.heap.size, 0, none⟩)) (w.alloc (.cells #[(.slice v_0A v_0n v_0c), (.int .i64 v_1), (.int .i64 v_2)] 56)) := by
  unfold BoxK; (first | (go_simp; rfl) | (go_simp; done))

theorem kbeql35n (a : Addr) (K : Value → World → Prop) (w : World) : BinK Try.prog .eql 35 (.pointer (some a)) (.pointer none) K w = K (.bool false) w := by
  unfold BinK; (first | (go_simp; rfl) | (go_simp; done))

theorem kfa29_3 (g o : Nat) (K : Value → World → Prop) (w : World) : FieldAtK Try.prog 29 (.pointer (some ⟨g, o, none⟩)) 3 K w = K (.pointer (some ⟨g, o + 3, none⟩)) w := by
  unfold FieldAtK; (first | (go_simp; rfl) | (go_simp; done))

theorem kfa56_2 (g o : Nat) (K : Value → World → Prop) (w : World) : FieldAtK Try.prog 56 (.pointer (some ⟨g, o, none⟩)) 2 K w = K (.pointer (some ⟨g, o + 2, none⟩)) w := by
  unfold FieldAtK; (first | (go_simp; rfl) | (go_simp; done))

theorem kbs60_2_0_1 (v0 : Int) (v1 : Int) (K : Value → World → Prop) (w : World) : BuildSliceK Try.prog 60 2 #[(0, (.int .i64 v0)), (1, (.int .i64 v1))] K w = K (.slice (some ⟨w.heap.size, 0, none⟩) 2 2) (w.alloc (.cells #[(.int .i64 v0), (.int .i64 v1)] 2)) := by
  unfold BuildSliceK; (first | (go_simp; rfl) | (go_simp; done))

theorem kbs25_3_0_1_2 (v0 : Int) (v1 : Int) (v2 : Int) (K : Value → World → Prop) (w : World) : BuildSliceK Try.prog 25 3 #[(0, (.int .u8 v0)), (1, (.int .u8 v1)), (2, (.int .u8 v2))] K w = K (.slice (some ⟨w.heap.size, 0, none⟩) 3 3) (w.alloc (.cells #[(.int .u8 v0), (.int .u8 v1), (.int .u8 v2)] 5)) := by
  unfold BuildSliceK; (first | (go_simp; rfl) | (go_simp; done))

theorem kbs25_4_0_1_2_3 (v0 : Int) (v1 : Int) (v2 : Int) (v3 : Int) (K : Value → World → Prop) (w : World) : BuildSliceK Try.prog 25 4 #[(0, (.int .u8 v0)), (1, (.int .u8 v1)), (2, (.int .u8 v2)), (3, (.int .u8 v3))] K w = K (.slice (some ⟨w.heap.size, 0, none⟩) 4 4) (w.alloc (.cells #[(.int .u8 v0), (.int .u8 v1), (.int .u8 v2), (.int .u8 v3)] 5)) := by
  unfold BuildSliceK; (first | (go_simp; rfl) | (go_simp; done))

theorem klen59 (A : Option Addr) (n c : Nat) (K : Value → World → Prop) (w : World) : BuiltinK Try.prog .len #[59] 3 #[false] #[(.slice A n c)] K w = K (.int .i64 (n : Int)) w := by
  unfold BuiltinK; (first | (go_simp; rfl) | (go_simp; done))

theorem hlen59 (A : Option Addr) (n c : Nat) {K : Value → Prop} {w1 : World} : TakeO Try.prog (fun w' => w' = w1) (builtin .len #[59] 3 #[false] #[(.slice A n c)]) K = K (.int .i64 (n : Int)) := by
  exact here_o (fun w => by (first | (go_simp; rfl) | (go_simp; done)))

theorem kia59 (g o n c : Nat) (i : Int) (h : 0 ≤ i ∧ i < (n : Int)) (K : Value → World → Prop) (w : World) : IndexAtK Try.prog 59 (.slice (some ⟨g, o, none⟩) n c) (.int .i64 i) K w = K (.pointer (some ⟨g, o + i.toNat, none⟩)) w := by
  obtain ⟨h0, h1⟩ := h
  unfold IndexAtK; (first | (go_simp; rfl) | (go_simp; done))

theorem kfa27_0 (g o : Nat) (K : Value → World → Prop) (w : World) : FieldAtK Try.prog 27 (.pointer (some ⟨g, o, none⟩)) 0 K w = K (.pointer (some ⟨g, o, none⟩)) w := by
  unfold FieldAtK; (first | (go_simp; rfl) | (go_simp; done))

theorem kld25 (a : Addr) (K : Value → World → Prop) (w : World) : LoadK Try.prog 25 (.pointer (some a)) K w = OptK (w.cell? a) (@hid _ ⟨fun v => K v w⟩) (LoadRaw Try.prog 25 a K w) := by
  exact loadK_eq Try.underlying25 rfl a K w

theorem kst25 (g o : Nat) (vA : Option Addr) (vn vc : Nat) (K : Value → World → Prop) (w : World) : StoreK Try.prog 25 (.pointer (some ⟨g, o, none⟩)) (.slice vA vn vc) K w = OptK (w.cell? ⟨g, o, none⟩) (@hid _ ⟨fun _ => FzK (w.frozen? ⟨g, o, none⟩) (@hid _ ⟨K undef (w.setCell ⟨g, o, none⟩ (.slice vA vn vc))⟩) (StoreRaw Try.prog 25 ⟨g, o, none⟩ (.slice vA vn vc) K w)⟩) (StoreRaw Try.prog 25 ⟨g, o, none⟩ (.slice vA vn vc) K w) := by
  cases h0 : w.cell? ⟨g, o, none⟩ with
  | none => rfl
  | some x =>
  cases f0 : w.frozen? ⟨g, o, none⟩ with
  | true => rfl
  | false =>
  simp only [optK_some, fzK_false]
  unfold StoreK; (first | (go_simp; rfl) | (go_simp; done))

theorem klen60 (A : Option Addr) (n c : Nat) (K : Value → World → Prop) (w : World) : BuiltinK Try.prog .len #[60] 3 #[false] #[(.slice A n c)] K w = K (.int .i64 (n : Int)) w := by
  unfold BuiltinK; (first | (go_simp; rfl) | (go_simp; done))

theorem hlen60 (A : Option Addr) (n c : Nat) {K : Value → Prop} {w1 : World} : TakeO Try.prog (fun w' => w' = w1) (builtin .len #[60] 3 #[false] #[(.slice A n c)]) K = K (.int .i64 (n : Int)) := by
  exact here_o (fun w => by (first | (go_simp; rfl) | (go_simp; done)))

theorem kia60 (g o n c : Nat) (i : Int) (h : 0 ≤ i ∧ i < (n : Int)) (K : Value → World → Prop) (w : World) : IndexAtK Try.prog 60 (.slice (some ⟨g, o, none⟩) n c) (.int .i64 i) K w = K (.pointer (some ⟨g, o + i.toNat, none⟩)) w := by
  obtain ⟨h0, h1⟩ := h
  unfold IndexAtK; (first | (go_simp; rfl) | (go_simp; done))

theorem kcv2_61 (x : Int) (K : Value → World → Prop) (w : World) : ConvK Try.prog 2 61 (.int .i64 x) K w = K (.int .u64 (IntKind.u64.wrap x)) w := by
  unfold ConvK; (first | (go_simp; rfl) | (go_simp; done))

theorem kbshl61_i32 (x y : Int) (h : 0 ≤ y) (K : Value → World → Prop) (w : World) : BinK Try.prog .shl 61 (.int .u64 x) (.int .i32 y) K w = K (.int .u64 (IntKind.u64.wrap (x * 2 ^ min y.toNat 64))) w := by
  unfold BinK; (first | (go_simp; rfl) | (go_simp; done))

theorem kbshl61_i64 (x y : Int) (h : 0 ≤ y) (K : Value → World → Prop) (w : World) : BinK Try.prog .shl 61 (.int .u64 x) (.int .i64 y) K w = K (.int .u64 (IntKind.u64.wrap (x * 2 ^ min y.toNat 64))) w := by
  unfold BinK; (first | (go_simp; rfl) | (go_simp; done))

theorem kbshl61_u16 (x y : Int) (h : 0 ≤ y) (K : Value → World → Prop) (w : World) : BinK Try.prog .shl 61 (.int .u64 x) (.int .u16 y) K w = K (.int .u64 (IntKind.u64.wrap (x * 2 ^ min y.toNat 64))) w := by
  unfold BinK; (first | (go_simp; rfl) | (go_simp; done))

theorem kbshl61_u32 (x y : Int) (h : 0 ≤ y) (K : Value → World → Prop) (w : World) : BinK Try.prog .shl 61 (.int .u64 x) (.int .u32 y) K w = K (.int .u64 (IntKind.u64.wrap (x * 2 ^ min y.toNat 64))) w := by
  unfold BinK; (first | (go_simp; rfl) | (go_simp; done))

theorem kbshl61_u64 (x y : Int) (h : 0 ≤ y) (K : Value → World → Prop) (w : World) : BinK Try.prog .shl 61 (.int .u64 x) (.int .u64 y) K w = K (.int .u64 (IntKind.u64.wrap (x * 2 ^ min y.toNat 64))) w := by
  unfold BinK; (first | (go_simp; rfl) | (go_simp; done))

theorem kbshl61_u8 (x y : Int) (h : 0 ≤ y) (K : Value → World → Prop) (w : World) : BinK Try.prog .shl 61 (.int .u64 x) (.int .u8 y) K w = K (.int .u64 (IntKind.u64.wrap (x * 2 ^ min y.toNat 64))) w := by
  unfold BinK; (first | (go_simp; rfl) | (go_simp; done))

theorem kbshr2_i32 (x y : Int) (h : 0 ≤ y) (K : Value → World → Prop) (w : World) : BinK Try.prog .shr 2 (.int .i64 x) (.int .i32 y) K w = K (.int .i64 (x / 2 ^ min y.toNat 64)) w := by
  unfold BinK; (first | (go_simp; rfl) | (go_simp; done))

theorem kbshr2_i64 (x y : Int) (h : 0 ≤ y) (K : Value → World → Prop) (w : World) : BinK Try.prog .shr 2 (.int .i64 x) (.int .i64 y) K w = K (.int .i64 (x / 2 ^ min y.toNat 64)) w := by
  unfold BinK; (first | (go_simp; rfl) | (go_simp; done))

theorem kbshr2_u16 (x y : Int) (h : 0 ≤ y) (K : Value → World → Prop) (w : World) : BinK Try.prog .shr 2 (.int .i64 x) (.int .u16 y) K w = K (.int .i64 (x / 2 ^ min y.toNat 64)) w := by
  unfold BinK; (first | (go_simp; rfl) | (go_simp; done))

theorem kbshr2_u32 (x y : Int) (h : 0 ≤ y) (K : Value → World → Prop) (w : World) : BinK Try.prog .shr 2 (.int .i64 x) (.int .u32 y) K w = K (.int .i64 (x / 2 ^ min y.toNat 64)) w := by
  unfold BinK; (first | (go_simp; rfl) | (go_simp; done))

theorem kbshr2_u64 (x y : Int) (h : 0 ≤ y) (K : Value → World → Prop) (w : World) : BinK Try.prog .shr 2 (.int .i64 x) (.int .u64 y) K w = K (.int .i64 (x / 2 ^ min y.toNat 64)) w := by
  unfold BinK; (first | (go_simp; rfl) | (go_simp; done))

theorem kbshr2_u8 (x y : Int) (h : 0 ≤ y) (K : Value → World → Prop) (w : World) : BinK Try.prog .shr 2 (.int .i64 x) (.int .u8 y) K w = K (.int .i64 (x / 2 ^ min y.toNat 64)) w := by
  unfold BinK; (first | (go_simp; rfl) | (go_simp; done))

theorem kbxor61 (x y : Int) (K : Value → World → Prop) (w : World) : BinK Try.prog .xor 61 (.int .u64 x) (.int .u64 y) K w = K (.int .u64 (bits .xor .u64 x y)) w := by
  unfold BinK; (first | (go_simp; rfl) | (go_simp; done))

theorem kbgeq61 (x y : Int) (K : Value → World → Prop) (w : World) : BinK Try.prog .geq 61 (.int .u64 x) (.int .u64 y) K w = K (.bool (decide (y ≤ x))) w := by
  unfold BinK; (first | (go_simp; rfl) | (go_simp; done))

theorem kcv61_5 (x : Int) (K : Value → World → Prop) (w : World) : ConvK Try.prog 61 5 (.int .u64 x) K w = K (.int .u8 (IntKind.u8.wrap x)) w := by
  unfold ConvK; (first | (go_simp; rfl) | (go_simp; done))

theorem kbshr61_i32 (x y : Int) (h : 0 ≤ y) (K : Value → World → Prop) (w : World) : BinK Try.prog .shr 61 (.int .u64 x) (.int .i32 y) K w = K (.int .u64 (x / 2 ^ min y.toNat 64)) w := by
  unfold BinK; (first | (go_simp; rfl) | (go_simp; done))

theorem kbshr61_i64 (x y : Int) (h : 0 ≤ y) (K : Value → World → Prop) (w : World) : BinK Try.prog .shr 61 (.int .u64 x) (.int .i64 y) K w = K (.int .u64 (x / 2 ^ min y.toNat 64)) w := by
  unfold BinK; (first | (go_simp; rfl) | (go_simp; done))

theorem kbshr61_u16 (x y : Int) (h : 0 ≤ y) (K : Value → World → Prop) (w : World) : BinK Try.prog .shr 61 (.int .u64 x) (.int .u16 y) K w = K (.int .u64 (x / 2 ^ min y.toNat 64)) w := by
  unfold BinK; (first | (go_simp; rfl) | (go_simp; done))

theorem kbshr61_u32 (x y : Int) (h : 0 ≤ y) (K : Value → World → Prop) (w : World) : BinK Try.prog .shr 61 (.int .u64 x) (.int .u32 y) K w = K (.int .u64 (x / 2 ^ min y.toNat 64)) w := by
  unfold BinK; (first | (go_simp; rfl) | (go_simp; done))

theorem kbshr61_u64 (x y : Int) (h : 0 ≤ y) (K : Value → World → Prop) (w : World) : BinK Try.prog .shr 61 (.int .u64 x) (.int .u64 y) K w = K (.int .u64 (x / 2 ^ min y.toNat 64)) w := by
  unfold BinK; (first | (go_simp; rfl) | (go_simp; done))

theorem kbshr61_u8 (x y : Int) (h : 0 ≤ y) (K : Value → World → Prop) (w : World) : BinK Try.prog .shr 61 (.int .u64 x) (.int .u8 y) K w = K (.int .u64 (x / 2 ^ min y.toNat 64)) w := by
  unfold BinK; (first | (go_simp; rfl) | (go_simp; done))

theorem kblss2 (x y : Int) (K : Value → World → Prop) (w : World) : BinK Try.prog .lss 2 (.int .i64 x) (.int .i64 y) K w = K (.bool (decide (x < y))) w := by
  unfold BinK; (first | (go_simp; rfl) | (go_simp; done))

theorem kbadd2 (x y : Int) (K : Value → World → Prop) (w : World) : BinK Try.prog .add 2 (.int .i64 x) (.int .i64 y) K w = K (.int .i64 (IntKind.i64.wrap (x + y))) w := by
  unfold BinK; (first | (go_simp; rfl) | (go_simp; done))

theorem kbsub2 (x y : Int) (K : Value → World → Prop) (w : World) : BinK Try.prog .sub 2 (.int .i64 x) (.int .i64 y) K w = K (.int .i64 (IntKind.i64.wrap (x - y))) w := by
  unfold BinK; (first | (go_simp; rfl) | (go_simp; done))

theorem kbor61 (x y : Int) (K : Value → World → Prop) (w : World) : BinK Try.prog .or 61 (.int .u64 x) (.int .u64 y) K w = K (.int .u64 (bits .or .u64 x y)) w := by
  unfold BinK; (first | (go_simp; rfl) | (go_simp; done))

theorem kband61 (x y : Int) (K : Value → World → Prop) (w : World) : BinK Try.prog .and 61 (.int .u64 x) (.int .u64 y) K w = K (.int .u64 (bits .and .u64 x y)) w := by
  unfold BinK; (first | (go_simp; rfl) | (go_simp; done))

theorem kbd63_0 (v0A : Option Addr) (v0n v0c : Nat) (K : Value → World → Prop) (w : World) : BuildK Try.prog 63 #[(0, (.slice v0A v0n v0c))] K w = K (.agg #[(.slice v0A v0n v0c), .int .i64 0]) w := by
  unfold BuildK; (first | (go_simp; rfl) | (go_simp; done))

theorem kbx63 (v_0A : Option Addr) (v_0n v_0c : Nat) (v_1 : Int) (K : Value → World → Prop) (w : World) : BoxK Try.prog 63 (.agg #[(.slice v_0A v_0n v_0c), (.int .i64 v_1)]) K w = K (.pointer (some ⟨w.heap.size, 0, none⟩)) (w.alloc (.cells #[(.slice v_0A v_0n v_0c), (.int .i64 v_1)] 63)) := by
  unfold BoxK; (first | (go_simp; rfl) | (go_simp; done))

theorem kfa63_1 (g o : Nat) (K : Value → World → Prop) (w : World) : FieldAtK Try.prog 63 (.pointer (some ⟨g, o, none⟩)) 1 K w = K (.pointer (some ⟨g, o + 1, none⟩)) w := by
  unfold FieldAtK; (first | (go_simp; rfl) | (go_simp; done))

theorem kld40 (a : Addr) (K : Value → World → Prop) (w : World) : LoadK Try.prog 40 (.pointer (some a)) K w = OptK (w.cell? a) (@hid _ ⟨fun v => K v w⟩) (LoadRaw Try.prog 40 a K w) := by
  exact loadK_eq Try.underlying40 rfl a K w

theorem kbneq40 (x y : Int) (K : Value → World → Prop) (w : World) : BinK Try.prog .neq 40 (.int .i64 x) (.int .i64 y) K w = K (.bool (x != y)) w := by
  unfold BinK; (first | (go_simp; rfl) | (go_simp; done))

theorem kst40 (g o : Nat) (v : Int) (K : Value → World → Prop) (w : World) : StoreK Try.prog 40 (.pointer (some ⟨g, o, none⟩)) (.int .i64 v) K w = OptK (w.cell? ⟨g, o, none⟩) (@hid _ ⟨fun _ => FzK (w.frozen? ⟨g, o, none⟩) (@hid _ ⟨K undef (w.setCell ⟨g, o, none⟩ (.int .i64 v))⟩) (StoreRaw Try.prog 40 ⟨g, o, none⟩ (.int .i64 v) K w)⟩) (StoreRaw Try.prog 40 ⟨g, o, none⟩ (.int .i64 v) K w) := by
  cases h0 : w.cell? ⟨g, o, none⟩ with
  | none => rfl
  | some x =>
  cases f0 : w.frozen? ⟨g, o, none⟩ with
  | true => rfl
  | false =>
  simp only [optK_some, fzK_false]
  unfold StoreK; (first | (go_simp; rfl) | (go_simp; done))

theorem kfa63_0 (g o : Nat) (K : Value → World → Prop) (w : World) : FieldAtK Try.prog 63 (.pointer (some ⟨g, o, none⟩)) 0 K w = K (.pointer (some ⟨g, o, none⟩)) w := by
  unfold FieldAtK; (first | (go_simp; rfl) | (go_simp; done))

theorem kbgtr2 (x y : Int) (K : Value → World → Prop) (w : World) : BinK Try.prog .gtr 2 (.int .i64 x) (.int .i64 y) K w = K (.bool (decide (y < x))) w := by
  unfold BinK; (first | (go_simp; rfl) | (go_simp; done))

theorem ksl25_100z (K : Value → World → Prop) (w : World) : SliceK Try.prog 25 (.slice none 0 0) (some (.int .i64 0)) none none K w = K (.slice none 0 0) w := by
  unfold SliceK; (first | (go_simp; rfl) | (go_simp; done) | (go_simp; split <;> simp_all))

theorem ksl25_100 (g o n c : Nat) (l : Int) (hb : 0 ≤ l ∧ l ≤ (n : Int)) (K : Value → World → Prop) (w : World) : SliceK Try.prog 25 (.slice (some ⟨g, o, none⟩) n c) (some (.int .i64 l)) none none K w = K (.slice (if c = l.toNat then some ⟨g, o, none⟩ else some ⟨g, o + l.toNat, none⟩) (n - l.toNat) (c - l.toNat)) w := by
  obtain ⟨q0, q1⟩ := hb
  unfold SliceK; (first | (go_simp; rfl) | (go_simp; done) | (go_simp; split <;> simp_all))

theorem kcv61_2 (x : Int) (K : Value → World → Prop) (w : World) : ConvK Try.prog 61 2 (.int .u64 x) K w = K (.int .i64 (IntKind.i64.wrap x)) w := by
  unfold ConvK; (first | (go_simp; rfl) | (go_simp; done))

theorem kuneg2 (x : Int) (K : Value → World → Prop) (w : World) : UnK Try.prog .neg (.int .i64 x) K w = K (.int .i64 (IntKind.i64.wrap (-x))) w := by
  unfold UnK; (first | (go_simp; rfl) | (go_simp; done))

theorem kbxor2 (x y : Int) (K : Value → World → Prop) (w : World) : BinK Try.prog .xor 2 (.int .i64 x) (.int .i64 y) K w = K (.int .i64 (bits .xor .i64 x y)) w := by
  unfold BinK; (first | (go_simp; rfl) | (go_simp; done))

theorem kfa56_1 (g o : Nat) (K : Value → World → Prop) (w : World) : FieldAtK Try.prog 56 (.pointer (some ⟨g, o, none⟩)) 1 K w = K (.pointer (some ⟨g, o + 1, none⟩)) w := by
  unfold FieldAtK; (first | (go_simp; rfl) | (go_simp; done))

theorem kfa56_0 (g o : Nat) (K : Value → World → Prop) (w : World) : FieldAtK Try.prog 56 (.pointer (some ⟨g, o, none⟩)) 0 K w = K (.pointer (some ⟨g, o, none⟩)) w := by
  unfold FieldAtK; (first | (go_simp; rfl) | (go_simp; done))

theorem kst3 (g o : Nat) (v : Int) (K : Value → World → Prop) (w : World) : StoreK Try.prog 3 (.pointer (some ⟨g, o, none⟩)) (.int .i64 v) K w = OptK (w.cell? ⟨g, o, none⟩) (@hid _ ⟨fun _ => FzK (w.frozen? ⟨g, o, none⟩) (@hid _ ⟨K undef (w.setCell ⟨g, o, none⟩ (.int .i64 v))⟩) (StoreRaw Try.prog 3 ⟨g, o, none⟩ (.int .i64 v) K w)⟩) (StoreRaw Try.prog 3 ⟨g, o, none⟩ (.int .i64 v) K w) := by
  cases h0 : w.cell? ⟨g, o, none⟩ with
  | none => rfl
  | some x =>
  cases f0 : w.frozen? ⟨g, o, none⟩ with
  | true => rfl
  | false =>
  simp only [optK_some, fzK_false]
  unfold StoreK; (first | (go_simp; rfl) | (go_simp; done))

theorem kcv5_61 (x : Int) (K : Value → World → Prop) (w : World) : ConvK Try.prog 5 61 (.int .u8 x) K w = K (.int .u64 (IntKind.u64.wrap x)) w := by
  unfold ConvK; (first | (go_simp; rfl) | (go_simp; done))

theorem kbgtr61 (x y : Int) (K : Value → World → Prop) (w : World) : BinK Try.prog .gtr 61 (.int .u64 x) (.int .u64 y) K w = K (.bool (decide (y < x))) w := by
  unfold BinK; (first | (go_simp; rfl) | (go_simp; done))

theorem kbeql61 (x y : Int) (K : Value → World → Prop) (w : World) : BinK Try.prog .eql 61 (.int .u64 x) (.int .u64 y) K w = K (.bool (x == y)) w := by
  unfold BinK; (first | (go_simp; rfl) | (go_simp; done))

theorem kblss61 (x y : Int) (K : Value → World → Prop) (w : World) : BinK Try.prog .lss 61 (.int .u64 x) (.int .u64 y) K w = K (.bool (decide (x < y))) w := by
  unfold BinK; (first | (go_simp; rfl) | (go_simp; done))

theorem ksl25_110 (g o n c : Nat) (l : Int) (h : Int) (hb : 0 ≤ l ∧ l ≤ h ∧ h ≤ (c : Int)) (K : Value → World → Prop) (w : World) : SliceK Try.prog 25 (.slice (some ⟨g, o, none⟩) n c) (some (.int .i64 l)) (some (.int .i64 h)) none K w = K (.slice (if c = l.toNat then some ⟨g, o, none⟩ else some ⟨g, o + l.toNat, none⟩) (h.toNat - l.toNat) (c - l.toNat)) w := by
  obtain ⟨q0, q1, q2⟩ := hb
  unfold SliceK; (first | (go_simp; rfl) | (go_simp; done) | (go_simp; split <;> simp_all))

theorem kbeql40 (x y : Int) (K : Value → World → Prop) (w : World) : BinK Try.prog .eql 40 (.int .i64 x) (.int .i64 y) K w = K (.bool (x == y)) w := by
  unfold BinK; (first | (go_simp; rfl) | (go_simp; done))

theorem ksl25_011 (g o n c : Nat) (h m : Int) (hb : 0 ≤ h ∧ h ≤ m ∧ m ≤ (c : Int)) (K : Value → World → Prop) (w : World) : SliceK Try.prog 25 (.slice (some ⟨g, o, none⟩) n c) none (some (.int .i64 h)) (some (.int .i64 m)) K w = K (.slice (some ⟨g, o, none⟩) h.toNat m.toNat) w := by
  obtain ⟨q0, q1, q2⟩ := hb
  unfold SliceK; (first | (go_simp; rfl) | (go_simp; done) | (go_simp; split <;> simp_all))

theorem ksl25_011z (K : Value → World → Prop) (w : World) : SliceK Try.prog 25 (.slice none 0 0) none (some (.int .i64 0)) (some (.int .i64 0)) K w = K (.slice none 0 0) w := by
  unfold SliceK; (first | (go_simp; rfl) | (go_simp; done) | (go_simp; split <;> simp_all))

theorem kbeql25n (a : Addr) (n c : Nat) (K : Value → World → Prop) (w : World) : BinK Try.prog .eql 25 (.slice (some a) n c) (.slice none 0 0) K w = K (.bool false) w := by
  unfold BinK; (first | (go_simp; rfl) | (go_simp; done))

theorem kbeql25z (n c : Nat) (K : Value → World → Prop) (w : World) : BinK Try.prog .eql 25 (.slice none n c) (.slice none 0 0) K w = K (.bool true) w := by
  unfold BinK; (first | (go_simp; rfl) | (go_simp; done))

theorem kbgtr5 (x y : Int) (K : Value → World → Prop) (w : World) : BinK Try.prog .gtr 5 (.int .u8 x) (.int .u8 y) K w = K (.bool (decide (y < x))) w := by
  unfold BinK; (first | (go_simp; rfl) | (go_simp; done))

theorem kbeql5 (x y : Int) (K : Value → World → Prop) (w : World) : BinK Try.prog .eql 5 (.int .u8 x) (.int .u8 y) K w = K (.bool (x == y)) w := by
  unfold BinK; (first | (go_simp; rfl) | (go_simp; done))

theorem kbandNot5 (x y : Int) (K : Value → World → Prop) (w : World) : BinK Try.prog .andNot 5 (.int .u8 x) (.int .u8 y) K w = K (.int .u8 (bits .andNot .u8 x y)) w := by
  unfold BinK; (first | (go_simp; rfl) | (go_simp; done))

theorem kblss5 (x y : Int) (K : Value → World → Prop) (w : World) : BinK Try.prog .lss 5 (.int .u8 x) (.int .u8 y) K w = K (.bool (decide (x < y))) w := by
  unfold BinK; (first | (go_simp; rfl) | (go_simp; done))

theorem kcv5_50 (x : Int) (K : Value → World → Prop) (w : World) : ConvK Try.prog 5 50 (.int .u8 x) K w = K (.int .u32 (IntKind.u32.wrap x)) w := by
  unfold ConvK; (first | (go_simp; rfl) | (go_simp; done))

theorem kbxor50 (x y : Int) (K : Value → World → Prop) (w : World) : BinK Try.prog .xor 50 (.int .u32 x) (.int .u32 y) K w = K (.int .u32 (bits .xor .u32 x y)) w := by
  unfold BinK; (first | (go_simp; rfl) | (go_simp; done))

theorem kband50 (x y : Int) (K : Value → World → Prop) (w : World) : BinK Try.prog .and 50 (.int .u32 x) (.int .u32 y) K w = K (.int .u32 (bits .and .u32 x y)) w := by
  unfold BinK; (first | (go_simp; rfl) | (go_simp; done))

theorem kuxor50 (x : Int) (K : Value → World → Prop) (w : World) : UnK Try.prog .xor (.int .u32 x) K w = K (.int .u32 (bits .xor .u32 (if IntKind.u32.signed then -1 else IntKind.u32.max) x)) w := by
  unfold UnK; (first | (go_simp; rfl) | (go_simp; done))

theorem ck3 {args : Array Value} {K : Value → World → Prop} {w : World} (h : CallK Try.prog 3 args K w) : CallV Try.prog (.func (.func 3) #[] #[]) args K w := callV_func Try.func3 (by kernel_rfl) (by kernel_rfl) h
theorem ck4 {args : Array Value} {K : Value → World → Prop} {w : World} (h : CallK Try.prog 4 args K w) : CallV Try.prog (.func (.func 4) #[] #[]) args K w := callV_func Try.func4 (by kernel_rfl) (by kernel_rfl) h
theorem ck5 {args : Array Value} {K : Value → World → Prop} {w : World} (h : CallK Try.prog 5 args K w) : CallV Try.prog (.func (.func 5) #[] #[]) args K w := callV_func Try.func5 (by kernel_rfl) (by kernel_rfl) h
theorem ck6 {args : Array Value} {K : Value → World → Prop} {w : World} (h : CallK Try.prog 6 args K w) : CallV Try.prog (.func (.func 6) #[] #[]) args K w := callV_func Try.func6 (by kernel_rfl) (by kernel_rfl) h
theorem ck7 {args : Array Value} {K : Value → World → Prop} {w : World} (h : CallK Try.prog 7 args K w) : CallV Try.prog (.func (.func 7) #[] #[]) args K w := callV_func Try.func7 (by kernel_rfl) (by kernel_rfl) h
theorem ck8 {args : Array Value} {K : Value → World → Prop} {w : World} (h : CallK Try.prog 8 args K w) : CallV Try.prog (.func (.func 8) #[] #[]) args K w := callV_func Try.func8 (by kernel_rfl) (by kernel_rfl) h
theorem ck9 {args : Array Value} {K : Value → World → Prop} {w : World} (h : CallK Try.prog 9 args K w) : CallV Try.prog (.func (.func 9) #[] #[]) args K w := callV_func Try.func9 (by kernel_rfl) (by kernel_rfl) h
theorem ck10 {args : Array Value} {K : Value → World → Prop} {w : World} (h : CallK Try.prog 10 args K w) : CallV Try.prog (.func (.func 10) #[] #[]) args K w := callV_func Try.func10 (by kernel_rfl) (by kernel_rfl) h
theorem ck11 {args : Array Value} {K : Value → World → Prop} {w : World} (h : CallK Try.prog 11 args K w) : CallV Try.prog (.func (.func 11) #[] #[]) args K w := callV_func Try.func11 (by kernel_rfl) (by kernel_rfl) h
theorem ck12 {args : Array Value} {K : Value → World → Prop} {w : World} (h : CallK Try.prog 12 args K w) : CallV Try.prog (.func (.func 12) #[] #[]) args K w := callV_func Try.func12 (by kernel_rfl) (by kernel_rfl) h
theorem ck13 {args : Array Value} {K : Value → World → Prop} {w : World} (h : CallK Try.prog 13 args K w) : CallV Try.prog (.func (.func 13) #[] #[]) args K w := callV_func Try.func13 (by kernel_rfl) (by kernel_rfl) h
theorem ck14 {args : Array Value} {K : Value → World → Prop} {w : World} (h : CallK Try.prog 14 args K w) : CallV Try.prog (.func (.func 14) #[] #[]) args K w := callV_func Try.func14 (by kernel_rfl) (by kernel_rfl) h
theorem ck15 {args : Array Value} {K : Value → World → Prop} {w : World} (h : CallK Try.prog 15 args K w) : CallV Try.prog (.func (.func 15) #[] #[]) args K w := callV_func Try.func15 (by kernel_rfl) (by kernel_rfl) h
theorem ck16 {args : Array Value} {K : Value → World → Prop} {w : World} (h : CallK Try.prog 16 args K w) : CallV Try.prog (.func (.func 16) #[] #[]) args K w := callV_func Try.func16 (by kernel_rfl) (by kernel_rfl) h
theorem ck17 {args : Array Value} {K : Value → World → Prop} {w : World} (h : CallK Try.prog 17 args K w) : CallV Try.prog (.func (.func 17) #[] #[]) args K w := callV_func Try.func17 (by kernel_rfl) (by kernel_rfl) h
theorem ck18 {args : Array Value} {K : Value → World → Prop} {w : World} (h : CallK Try.prog 18 args K w) : CallV Try.prog (.func (.func 18) #[] #[]) args K w := callV_func Try.func18 (by kernel_rfl) (by kernel_rfl) h
theorem ck19 {args : Array Value} {K : Value → World → Prop} {w : World} (h : CallK Try.prog 19 args K w) : CallV Try.prog (.func (.func 19) #[] #[]) args K w := callV_func Try.func19 (by kernel_rfl) (by kernel_rfl) h
theorem ck20 {args : Array Value} {K : Value → World → Prop} {w : World} (h : CallK Try.prog 20 args K w) : CallV Try.prog (.func (.func 20) #[] #[]) args K w := callV_func Try.func20 (by kernel_rfl) (by kernel_rfl) h
theorem ck21 {args : Array Value} {K : Value → World → Prop} {w : World} (h : CallK Try.prog 21 args K w) : CallV Try.prog (.func (.func 21) #[] #[]) args K w := callV_func Try.func21 (by kernel_rfl) (by kernel_rfl) h
theorem ck22 {args : Array Value} {K : Value → World → Prop} {w : World} (h : CallK Try.prog 22 args K w) : CallV Try.prog (.func (.func 22) #[] #[]) args K w := callV_func Try.func22 (by kernel_rfl) (by kernel_rfl) h
theorem ck23 {args : Array Value} {K : Value → World → Prop} {w : World} (h : CallK Try.prog 23 args K w) : CallV Try.prog (.func (.func 23) #[] #[]) args K w := callV_func Try.func23 (by kernel_rfl) (by kernel_rfl) h
theorem ck24 {args : Array Value} {K : Value → World → Prop} {w : World} (h : CallK Try.prog 24 args K w) : CallV Try.prog (.func (.func 24) #[] #[]) args K w := callV_func Try.func24 (by kernel_rfl) (by kernel_rfl) h
theorem ck25 {args : Array Value} {K : Value → World → Prop} {w : World} (h : CallK Try.prog 25 args K w) : CallV Try.prog (.func (.func 25) #[] #[]) args K w := callV_func Try.func25 (by kernel_rfl) (by kernel_rfl) h
theorem ck26 {args : Array Value} {K : Value → World → Prop} {w : World} (h : CallK Try.prog 26 args K w) : CallV Try.prog (.func (.func 26) #[] #[]) args K w := callV_func Try.func26 (by kernel_rfl) (by kernel_rfl) h
theorem ck27 {args : Array Value} {K : Value → World → Prop} {w : World} (h : CallK Try.prog 27 args K w) : CallV Try.prog (.func (.func 27) #[] #[]) args K w := callV_func Try.func27 (by kernel_rfl) (by kernel_rfl) h
theorem ck28 {args : Array Value} {K : Value → World → Prop} {w : World} (h : CallK Try.prog 28 args K w) : CallV Try.prog (.func (.func 28) #[] #[]) args K w := callV_func Try.func28 (by kernel_rfl) (by kernel_rfl) h
theorem ck29 {args : Array Value} {K : Value → World → Prop} {w : World} (h : CallK Try.prog 29 args K w) : CallV Try.prog (.func (.func 29) #[] #[]) args K w := callV_func Try.func29 (by kernel_rfl) (by kernel_rfl) h
theorem ck30 {args : Array Value} {K : Value → World → Prop} {w : World} (h : CallK Try.prog 30 args K w) : CallV Try.prog (.func (.func 30) #[] #[]) args K w := callV_func Try.func30 (by kernel_rfl) (by kernel_rfl) h
theorem ck31 {args : Array Value} {K : Value → World → Prop} {w : World} (h : CallK Try.prog 31 args K w) : CallV Try.prog (.func (.func 31) #[] #[]) args K w := callV_func Try.func31 (by kernel_rfl) (by kernel_rfl) h
theorem ck32 {args : Array Value} {K : Value → World → Prop} {w : World} (h : CallK Try.prog 32 args K w) : CallV Try.prog (.func (.func 32) #[] #[]) args K w := callV_func Try.func32 (by kernel_rfl) (by kernel_rfl) h
theorem cv3 {args : Array Value} {K : Value → World → Prop} {w : World} {v : Value} {R : World → Prop} (h : Calls Try.prog 3 args w fun e w' => e = .returned v ∧ R w') (hk : ∀ w', R w' → K v w') : CallV Try.prog (.func (.func 3) #[] #[]) args K w := callV_of Try.func3 (by kernel_rfl) (by kernel_rfl) h hk
theorem cv4 {args : Array Value} {K : Value → World → Prop} {w : World} {v : Value} {R : World → Prop} (h : Calls Try.prog 4 args w fun e w' => e = .returned v ∧ R w') (hk : ∀ w', R w' → K v w') : CallV Try.prog (.func (.func 4) #[] #[]) args K w := callV_of Try.func4 (by kernel_rfl) (by kernel_rfl) h hk
theorem cv5 {args : Array Value} {K : Value → World → Prop} {w : World} {v : Value} {R : World → Prop} (h : Calls Try.prog 5 args w fun e w' => e = .returned v ∧ R w') (hk : ∀ w', R w' → K v w') : CallV Try.prog (.func (.func 5) #[] #[]) args K w := callV_of Try.func5 (by kernel_rfl) (by kernel_rfl) h hk
theorem cv6 {args : Array Value} {K : Value → World → Prop} {w : World} {v : Value} {R : World → Prop} (h : Calls Try.prog 6 args w fun e w' => e = .returned v ∧ R w') (hk : ∀ w', R w' → K v w') : CallV Try.prog (.func (.func 6) #[] #[]) args K w := callV_of Try.func6 (by kernel_rfl) (by kernel_rfl) h hk
theorem cv7 {args : Array Value} {K : Value → World → Prop} {w : World} {v : Value} {R : World → Prop} (h : Calls Try.prog 7 args w fun e w' => e = .returned v ∧ R w') (hk : ∀ w', R w' → K v w') : CallV Try.prog (.func (.func 7) #[] #[]) args K w := callV_of Try.func7 (by kernel_rfl) (by kernel_rfl) h hk
theorem cv8 {args : Array Value} {K : Value → World → Prop} {w : World} {v : Value} {R : World → Prop} (h : Calls Try.prog 8 args w fun e w' => e = .returned v ∧ R w') (hk : ∀ w', R w' → K v w') : CallV Try.prog (.func (.func 8) #[] #[]) args K w := callV_of Try.func8 (by kernel_rfl) (by kernel_rfl) h hk
theorem cv9 {args : Array Value} {K : Value → World → Prop} {w : World} {v : Value} {R : World → Prop} (h : Calls Try.prog 9 args w fun e w' => e = .returned v ∧ R w') (hk : ∀ w', R w' → K v w') : CallV Try.prog (.func (.func 9) #[] #[]) args K w := callV_of Try.func9 (by kernel_rfl) (by kernel_rfl) h hk
theorem cv10 {args : Array Value} {K : Value → World → Prop} {w : World} {v : Value} {R : World → Prop} (h : Calls Try.prog 10 args w fun e w' => e = .returned v ∧ R w') (hk : ∀ w', R w' → K v w') : CallV Try.prog (.func (.func 10) #[] #[]) args K w := callV_of Try.func10 (by kernel_rfl) (by kernel_rfl) h hk
theorem cv11 {args : Array Value} {K : Value → World → Prop} {w : World} {v : Value} {R : World → Prop} (h : Calls Try.prog 11 args w fun e w' => e = .returned v ∧ R w') (hk : ∀ w', R w' → K v w') : CallV Try.prog (.func (.func 11) #[] #[]) args K w := callV_of Try.func11 (by kernel_rfl) (by kernel_rfl) h hk
theorem cv12 {args : Array Value} {K : Value → World → Prop} {w : World} {v : Value} {R : World → Prop} (h : Calls Try.prog 12 args w fun e w' => e = .returned v ∧ R w') (hk : ∀ w', R w' → K v w') : CallV Try.prog (.func (.func 12) #[] #[]) args K w := callV_of Try.func12 (by kernel_rfl) (by kernel_rfl) h hk
theorem cv13 {args : Array Value} {K : Value → World → Prop} {w : World} {v : Value} {R : World → Prop} (h : Calls Try.prog 13 args w fun e w' => e = .returned v ∧ R w') (hk : ∀ w', R w' → K v w') : CallV Try.prog (.func (.func 13) #[] #[]) args K w := callV_of Try.func13 (by kernel_rfl) (by kernel_rfl) h hk
theorem cv14 {args : Array Value} {K : Value → World → Prop} {w : World} {v : Value} {R : World → Prop} (h : Calls Try.prog 14 args w fun e w' => e = .returned v ∧ R w') (hk : ∀ w', R w' → K v w') : CallV Try.prog (.func (.func 14) #[] #[]) args K w := callV_of Try.func14 (by kernel_rfl) (by kernel_rfl) h hk
theorem cv15 {args : Array Value} {K : Value → World → Prop} {w : World} {v : Value} {R : World → Prop} (h : Calls Try.prog 15 args w fun e w' => e = .returned v ∧ R w') (hk : ∀ w', R w' → K v w') : CallV Try.prog (.func (.func 15) #[] #[]) args K w := callV_of Try.func15 (by kernel_rfl) (by kernel_rfl) h hk
theorem cv16 {args : Array Value} {K : Value → World → Prop} {w : World} {v : Value} {R : World → Prop} (h : Calls Try.prog 16 args w fun e w' => e = .returned v ∧ R w') (hk : ∀ w', R w' → K v w') : CallV Try.prog (.func (.func 16) #[] #[]) args K w := callV_of Try.func16 (by kernel_rfl) (by kernel_rfl) h hk
theorem cv17 {args : Array Value} {K : Value → World → Prop} {w : World} {v : Value} {R : World → Prop} (h : Calls Try.prog 17 args w fun e w' => e = .returned v ∧ R w') (hk : ∀ w', R w' → K v w') : CallV Try.prog (.func (.func 17) #[] #[]) args K w := callV_of Try.func17 (by kernel_rfl) (by kernel_rfl) h hk
theorem cv18 {args : Array Value} {K : Value → World → Prop} {w : World} {v : Value} {R : World → Prop} (h : Calls Try.prog 18 args w fun e w' => e = .returned v ∧ R w') (hk : ∀ w', R w' → K v w') : CallV Try.prog (.func (.func 18) #[] #[]) args K w := callV_of Try.func18 (by kernel_rfl) (by kernel_rfl) h hk
theorem cv19 {args : Array Value} {K : Value → World → Prop} {w : World} {v : Value} {R : World → Prop} (h : Calls Try.prog 19 args w fun e w' => e = .returned v ∧ R w') (hk : ∀ w', R w' → K v w') : CallV Try.prog (.func (.func 19) #[] #[]) args K w := callV_of Try.func19 (by kernel_rfl) (by kernel_rfl) h hk
theorem cv20 {args : Array Value} {K : Value → World → Prop} {w : World} {v : Value} {R : World → Prop} (h : Calls Try.prog 20 args w fun e w' => e = .returned v ∧ R w') (hk : ∀ w', R w' → K v w') : CallV Try.prog (.func (.func 20) #[] #[]) args K w := callV_of Try.func20 (by kernel_rfl) (by kernel_rfl) h hk
theorem cv21 {args : Array Value} {K : Value → World → Prop} {w : World} {v : Value} {R : World → Prop} (h : Calls Try.prog 21 args w fun e w' => e = .returned v ∧ R w') (hk : ∀ w', R w' → K v w') : CallV Try.prog (.func (.func 21) #[] #[]) args K w := callV_of Try.func21 (by kernel_rfl) (by kernel_rfl) h hk
theorem cv22 {args : Array Value} {K : Value → World → Prop} {w : World} {v : Value} {R : World → Prop} (h : Calls Try.prog 22 args w fun e w' => e = .returned v ∧ R w') (hk : ∀ w', R w' → K v w') : CallV Try.prog (.func (.func 22) #[] #[]) args K w := callV_of Try.func22 (by kernel_rfl) (by kernel_rfl) h hk
theorem cv23 {args : Array Value} {K : Value → World → Prop} {w : World} {v : Value} {R : World → Prop} (h : Calls Try.prog 23 args w fun e w' => e = .returned v ∧ R w') (hk : ∀ w', R w' → K v w') : CallV Try.prog (.func (.func 23) #[] #[]) args K w := callV_of Try.func23 (by kernel_rfl) (by kernel_rfl) h hk
theorem cv24 {args : Array Value} {K : Value → World → Prop} {w : World} {v : Value} {R : World → Prop} (h : Calls Try.prog 24 args w fun e w' => e = .returned v ∧ R w') (hk : ∀ w', R w' → K v w') : CallV Try.prog (.func (.func 24) #[] #[]) args K w := callV_of Try.func24 (by kernel_rfl) (by kernel_rfl) h hk
theorem cv25 {args : Array Value} {K : Value → World → Prop} {w : World} {v : Value} {R : World → Prop} (h : Calls Try.prog 25 args w fun e w' => e = .returned v ∧ R w') (hk : ∀ w', R w' → K v w') : CallV Try.prog (.func (.func 25) #[] #[]) args K w := callV_of Try.func25 (by kernel_rfl) (by kernel_rfl) h hk
theorem cv26 {args : Array Value} {K : Value → World → Prop} {w : World} {v : Value} {R : World → Prop} (h : Calls Try.prog 26 args w fun e w' => e = .returned v ∧ R w') (hk : ∀ w', R w' → K v w') : CallV Try.prog (.func (.func 26) #[] #[]) args K w := callV_of Try.func26 (by kernel_rfl) (by kernel_rfl) h hk
theorem cv27 {args : Array Value} {K : Value → World → Prop} {w : World} {v : Value} {R : World → Prop} (h : Calls Try.prog 27 args w fun e w' => e = .returned v ∧ R w') (hk : ∀ w', R w' → K v w') : CallV Try.prog (.func (.func 27) #[] #[]) args K w := callV_of Try.func27 (by kernel_rfl) (by kernel_rfl) h hk
theorem cv28 {args : Array Value} {K : Value → World → Prop} {w : World} {v : Value} {R : World → Prop} (h : Calls Try.prog 28 args w fun e w' => e = .returned v ∧ R w') (hk : ∀ w', R w' → K v w') : CallV Try.prog (.func (.func 28) #[] #[]) args K w := callV_of Try.func28 (by kernel_rfl) (by kernel_rfl) h hk
theorem cv29 {args : Array Value} {K : Value → World → Prop} {w : World} {v : Value} {R : World → Prop} (h : Calls Try.prog 29 args w fun e w' => e = .returned v ∧ R w') (hk : ∀ w', R w' → K v w') : CallV Try.prog (.func (.func 29) #[] #[]) args K w := callV_of Try.func29 (by kernel_rfl) (by kernel_rfl) h hk
theorem cv30 {args : Array Value} {K : Value → World → Prop} {w : World} {v : Value} {R : World → Prop} (h : Calls Try.prog 30 args w fun e w' => e = .returned v ∧ R w') (hk : ∀ w', R w' → K v w') : CallV Try.prog (.func (.func 30) #[] #[]) args K w := callV_of Try.func30 (by kernel_rfl) (by kernel_rfl) h hk
theorem cv31 {args : Array Value} {K : Value → World → Prop} {w : World} {v : Value} {R : World → Prop} (h : Calls Try.prog 31 args w fun e w' => e = .returned v ∧ R w') (hk : ∀ w', R w' → K v w') : CallV Try.prog (.func (.func 31) #[] #[]) args K w := callV_of Try.func31 (by kernel_rfl) (by kernel_rfl) h hk
theorem cv32 {args : Array Value} {K : Value → World → Prop} {w : World} {v : Value} {R : World → Prop} (h : Calls Try.prog 32 args w fun e w' => e = .returned v ∧ R w') (hk : ∀ w', R w' → K v w') : CallV Try.prog (.func (.func 32) #[] #[]) args K w := callV_of Try.func32 (by kernel_rfl) (by kernel_rfl) h hk

/-- canton/cantonlaw5.CodecBack, its body as a formula. -/
def F3 (x0 : Value) (R : Value → World → Prop) (w0 : World) : Prop :=
  CallV Try.prog (.func (.func 8) #[] #[]) #[] (@hid _ ⟨fun t8_1 w2 =>
  UnK Try.prog Go.UnOp.not t8_1 (@hid _ ⟨fun t9_3 w4 =>
  BrK t9_3 (@hid _ ⟨
   R (Go.Value.bool false) w4⟩) (@hid _ ⟨
   BuiltinK Try.prog Go.Builtin.len #[22] 3 #[false] #[x0] (@hid _ ⟨fun t11_5 w6 =>
   BinK Try.prog Go.BinOp.gtr 3 t11_5 (Go.Value.int Go.IntKind.i64 60) (@hid _ ⟨fun t12_7 w8 =>
   BrK t12_7 (@hid _ ⟨
    R (Go.Value.bool true) w8⟩) (@hid _ ⟨
    BuildK Try.prog 27 #[] (@hid _ ⟨fun t13_9 w10 =>
    BoxK Try.prog 27 t13_9 (@hid _ ⟨fun t14_11 w12 =>
    LoopK2 (Go.Value.slice none 0 0) (Go.Value.int Go.IntKind.i64 0) w12 (@hid _ ⟨fun _ x4_13 x5_14 w15 B16 =>
     BuiltinK Try.prog Go.Builtin.len #[22] 3 #[false] #[x0] (@hid _ ⟨fun t17_17 w18 =>
     BinK Try.prog Go.BinOp.lss 3 x5_14 t17_17 (@hid _ ⟨fun t18_19 w20 =>
     BrK t18_19 (@hid _ ⟨
      IndexAtK Try.prog 22 x0 x5_14 (@hid _ ⟨fun t23_21 w22 =>
      FieldAtK Try.prog 29 t23_21 2 (@hid _ ⟨fun t24_23 w24 =>
      LoadK Try.prog 9 t24_23 (@hid _ ⟨fun t25_25 w26 =>
      BuiltinK Try.prog Go.Builtin.len #[9] 3 #[false] #[t25_25] (@hid _ ⟨fun t26_27 w28 =>
      BinK Try.prog Go.BinOp.gtr 3 t26_27 (Go.Value.int Go.IntKind.i64 300) (@hid _ ⟨fun t27_29 w30 =>
      BrK t27_29 (@hid _ ⟨
       R (Go.Value.bool true) w30⟩) (@hid _ ⟨
       IndexAtK Try.prog 22 x0 x5_14 (@hid _ ⟨fun t30_31 w32 =>
       FieldAtK Try.prog 29 t30_31 0 (@hid _ ⟨fun t31_33 w34 =>
       LoadK Try.prog 3 t31_33 (@hid _ ⟨fun t32_35 w36 =>
       BinK Try.prog Go.BinOp.eql 3 t32_35 (Go.Value.int Go.IntKind.i64 2) (@hid _ ⟨fun t33_37 w38 =>
       BrK t33_37 (@hid _ ⟨
        IndexAtK Try.prog 22 x0 x5_14 (@hid _ ⟨fun t37_39 w40 =>
        FieldAtK Try.prog 29 t37_39 2 (@hid _ ⟨fun t38_41 w42 =>
        LoadK Try.prog 9 t38_41 (@hid _ ⟨fun t39_43 w44 =>
        BuildSliceK Try.prog 59 1 #[(0, t39_43)] (@hid _ ⟨fun t40_45 w46 =>
        CallV Try.prog (.func (.func 9) #[] #[]) #[t14_11, t40_45] (@hid _ ⟨fun t41_47 w48 =>
        IndexAtK Try.prog 22 x0 x5_14 (@hid _ ⟨fun t45_49 w50 =>
        FieldAtK Try.prog 29 t45_49 2 (@hid _ ⟨fun t46_51 w52 =>
        LoadK Try.prog 9 t46_51 (@hid _ ⟨fun t47_53 w54 =>
        CallV Try.prog (.func (.func 10) #[] #[]) #[t47_53] (@hid _ ⟨fun t48_55 w56 =>
        BuiltinK Try.prog Go.Builtin.append #[25, 25] 25 #[false, false] #[x4_13, t48_55] (@hid _ ⟨fun t49_57 w58 =>
        BinK Try.prog Go.BinOp.add 3 x5_14 (Go.Value.int Go.IntKind.i64 1) (@hid _ ⟨fun t20_59 w60 =>
        B16 t49_57 t20_59 w60⟩) w58⟩) w56⟩) w54⟩) w52⟩) w50⟩) w48⟩) w46⟩) w44⟩) w42⟩) w40⟩) w38⟩) (@hid _ ⟨
        IndexAtK Try.prog 22 x0 x5_14 (@hid _ ⟨fun t53_61 w62 =>
        FieldAtK Try.prog 29 t53_61 1 (@hid _ ⟨fun t54_63 w64 =>
        LoadK Try.prog 2 t54_63 (@hid _ ⟨fun t55_65 w66 =>
        BuildSliceK Try.prog 60 1 #[(0, t55_65)] (@hid _ ⟨fun t56_67 w68 =>
        CallV Try.prog (.func (.func 11) #[] #[]) #[t14_11, t56_67] (@hid _ ⟨fun t57_69 w70 =>
        IndexAtK Try.prog 22 x0 x5_14 (@hid _ ⟨fun t61_71 w72 =>
        FieldAtK Try.prog 29 t61_71 1 (@hid _ ⟨fun t62_73 w74 =>
        LoadK Try.prog 2 t62_73 (@hid _ ⟨fun t63_75 w76 =>
        CallV Try.prog (.func (.func 12) #[] #[]) #[t63_75] (@hid _ ⟨fun t64_77 w78 =>
        BuiltinK Try.prog Go.Builtin.append #[25, 25] 25 #[false, false] #[x4_13, t64_77] (@hid _ ⟨fun t65_79 w80 =>
        BinK Try.prog Go.BinOp.add 3 x5_14 (Go.Value.int Go.IntKind.i64 1) (@hid _ ⟨fun t20_81 w82 =>
        B16 t65_79 t20_81 w82⟩) w80⟩) w78⟩) w76⟩) w74⟩) w72⟩) w70⟩) w68⟩) w66⟩) w64⟩) w62⟩) w38⟩)⟩) w36⟩) w34⟩) w32⟩) w30⟩)⟩) w28⟩) w26⟩) w24⟩) w22⟩) w20⟩) (@hid _ ⟨
      DrawK (@hid _ ⟨fun S83 w84 =>
      TakeS Try.prog S83 (convert 25 9 x4_13) (@hid _ ⟨fun t70_85 =>
      (CallV Try.prog (.func (.func 13) #[] #[]) #[t14_11] (@hid _ ⟨fun t67_86 w87 =>
      S83 w87 ∧
      (ConvK Try.prog 25 9 t67_86 (@hid _ ⟨fun t68_88 w89 =>
      S83 w89 ∧
      BinT Try.prog S83 Go.BinOp.neq 9 t68_88 t70_85 (@hid _ ⟨fun t71_90 =>
      BrK t71_90 (@hid _ ⟨
       R (Go.Value.bool false) w89⟩) (@hid _ ⟨
       CallV Try.prog (.func (.func 14) #[] #[]) #[x4_13] (@hid _ ⟨fun t73_91 w92 =>
       LoopK1 (Go.Value.int Go.IntKind.i64 0) w92 (@hid _ ⟨fun _ x7_93 w94 B95 =>
        BuiltinK Try.prog Go.Builtin.len #[22] 3 #[false] #[x0] (@hid _ ⟨fun t76_96 w97 =>
        BinK Try.prog Go.BinOp.lss 3 x7_93 t76_96 (@hid _ ⟨fun t77_98 w99 =>
        BrK t77_98 (@hid _ ⟨
         DrawK (@hid _ ⟨fun S100 w101 =>
         TakeS Try.prog S100 (Instr.indexAt 22 x0 x7_93) (@hid _ ⟨fun t82_102 =>
         TakeS Try.prog S100 (Instr.fieldAt 29 t82_102 0) (@hid _ ⟨fun t83_103 =>
         TakeS Try.prog S100 (Instr.loadAt 3 t83_103) (@hid _ ⟨fun t84_104 =>
         BinT Try.prog S100 Go.BinOp.eql 3 t84_104 (Go.Value.int Go.IntKind.i64 2) (@hid _ ⟨fun t85_105 =>
         TakeG t85_105 true (fun k => k t73_91) (@hid _ ⟨fun t87_106 =>
         TakeG t85_105 true (fun k => k x0) (@hid _ ⟨fun t89_107 =>
         TakeG t85_105 true (fun k => k x7_93) (@hid _ ⟨fun t90_108 =>
         TakeG t85_105 true (fun k => TakeS Try.prog S100 (Instr.indexAt 22 t89_107 t90_108) k) (@hid _ ⟨fun t91_109 =>
         TakeG t85_105 true (fun k => TakeS Try.prog S100 (Instr.fieldAt 29 t91_109 2) k) (@hid _ ⟨fun t92_110 =>
         TakeG t85_105 true (fun k => TakeS Try.prog S100 (Instr.loadAt 9 t92_110) k) (@hid _ ⟨fun t93_111 =>
         (GuardK t85_105 true (fun k w => CallV Try.prog (.func (.func 15) #[] #[]) #[t87_106] k w) (@hid _ ⟨fun t88_112 w113 =>
         S100 w113 ∧
         TakeG t85_105 true (fun k => BinT Try.prog S100 Go.BinOp.neq 9 t88_112 t93_111 k) (@hid _ ⟨fun t94_114 =>
         PickT t85_105 t94_114 (Go.Value.bool false) (@hid _ ⟨fun t95_115 =>
         TakeG t95_115 false (fun k => k x0) (@hid _ ⟨fun t97_116 =>
         TakeG t95_115 false (fun k => k x7_93) (@hid _ ⟨fun t98_117 =>
         TakeG t95_115 false (fun k => TakeS Try.prog S100 (Instr.indexAt 22 t97_116 t98_117) k) (@hid _ ⟨fun t99_118 =>
         TakeG t95_115 false (fun k => TakeS Try.prog S100 (Instr.fieldAt 29 t99_118 0) k) (@hid _ ⟨fun t100_119 =>
         TakeG t95_115 false (fun k => TakeS Try.prog S100 (Instr.loadAt 3 t100_119) k) (@hid _ ⟨fun t101_120 =>
         TakeG t95_115 false (fun k => BinT Try.prog S100 Go.BinOp.neq 3 t101_120 (Go.Value.int Go.IntKind.i64 2) k) (@hid _ ⟨fun t102_121 =>
         TakeG t95_115 false (fun k => k t102_121) (@hid _ ⟨fun t103_122 =>
         TakeG t103_122 true (fun k => k t73_91) (@hid _ ⟨fun t104_123 =>
         TakeG t103_122 true (fun k => k x0) (@hid _ ⟨fun t106_124 =>
         TakeG t103_122 true (fun k => k x7_93) (@hid _ ⟨fun t107_125 =>
         TakeG t103_122 true (fun k => TakeS Try.prog S100 (Instr.indexAt 22 t106_124 t107_125) k) (@hid _ ⟨fun t108_126 =>
         TakeG t103_122 true (fun k => TakeS Try.prog S100 (Instr.fieldAt 29 t108_126 1) k) (@hid _ ⟨fun t109_127 =>
         TakeG t103_122 true (fun k => TakeS Try.prog S100 (Instr.loadAt 2 t109_127) k) (@hid _ ⟨fun t110_128 =>
         (GuardK t103_122 true (fun k w => CallV Try.prog (.func (.func 16) #[] #[]) #[t104_123] k w) (@hid _ ⟨fun t105_129 w130 =>
         S100 w130 ∧
         TakeG t103_122 true (fun k => BinT Try.prog S100 Go.BinOp.neq 2 t105_129 t110_128 k) (@hid _ ⟨fun t111_131 =>
         TakeG t95_115 false (fun k => PickT t103_122 t111_131 (Go.Value.bool false) k) (@hid _ ⟨fun t112_132 =>
         PickT t95_115 (Go.Value.bool true) t112_132 (@hid _ ⟨fun t113_133 =>
         BrK t113_133 (@hid _ ⟨
          R (Go.Value.bool false) w130⟩) (@hid _ ⟨
          BinK Try.prog Go.BinOp.add 3 x7_93 (Go.Value.int Go.IntKind.i64 1) (@hid _ ⟨fun t79_134 w135 =>
          B95 t79_134 w135⟩) w130⟩)⟩)⟩)⟩)⟩) w113) ∧
         True⟩)⟩)⟩)⟩)⟩)⟩)⟩)⟩)⟩)⟩)⟩)⟩)⟩)⟩)⟩)⟩) w101) ∧
         True⟩)⟩)⟩)⟩)⟩)⟩)⟩)⟩)⟩)⟩)⟩) w99⟩) (@hid _ ⟨
         CallV Try.prog (.func (.func 17) #[] #[]) #[t73_91] (@hid _ ⟨fun t115_136 w137 =>
         BinK Try.prog Go.BinOp.eql 3 t115_136 (Go.Value.int Go.IntKind.i64 0) (@hid _ ⟨fun t116_138 w139 =>
         GuardK t116_138 true (fun k w => k t73_91 w) (@hid _ ⟨fun t118_140 w141 =>
         GuardK t116_138 true (fun k w => CallV Try.prog (.func (.func 18) #[] #[]) #[t118_140] k w) (@hid _ ⟨fun t119_142 w143 =>
         GuardK t116_138 true (fun k w => BinK Try.prog Go.BinOp.eql 3 t119_142 (Go.Value.int Go.IntKind.i64 0) k w) (@hid _ ⟨fun t120_144 w145 =>
         PickK Try.prog t116_138 t120_144 (Go.Value.bool false) (@hid _ ⟨fun t121_146 w147 =>
         R t121_146 w147⟩) w145⟩) w143⟩) w141⟩) w139⟩) w137⟩) w99⟩)⟩) w97⟩) w94⟩)⟩) w89⟩)⟩)⟩) w87) ∧
      True⟩) w84) ∧
      True⟩)⟩) w20⟩)⟩) w18⟩) w15⟩)⟩) w10⟩) w8⟩)⟩) w6⟩) w4⟩)⟩) w2⟩) w0
def a3 : Ann := (.seq .no (.seq (.seq .no (.cond (.seq .no .no) .no)) (.seq (.seq .no (.cond (.seq .no .no) .no)) (.seq .no (.seq .no (.seq (.seq .no (.block (.loop [4, 5] [(2, 2), (15, 65)] (.seq (.seq .no (.cond .no .no)) (.seq (.block (.seq (.seq .no (.cond (.seq .no .no) .no)) (.seq .no (.cond (.seq .no .no) (.seq .no .no))))) .no))))) (.seq (.seq (.plan (.take 0 (.take 3 (.take 4 (.alt 1 (.alt 2 (.take 5 .done) .nil) .nil))))) (.cond (.seq .no .no) .no)) (.seq .no (.seq (.seq .no (.block (.loop [7] [(2, 2), (74, 113)] (.seq (.seq .no (.cond .no .no)) (.seq (.block (.seq (.plan (.take 0 (.take 1 (.take 2 (.take 3 (.take 4 (.take 5 (.take 6 (.take 7 (.take 9 (.take 10 (.take 11 (.take 12 (.take 13 (.alt 8 (.take 14 (.take 15 (.take 16 (.take 17 (.take 18 (.take 19 (.take 20 (.take 21 (.take 22 (.take 23 (.take 24 (.take 26 (.take 27 (.take 28 (.take 29 (.take 30 (.alt 25 (.take 31 (.take 32 (.take 33 .done))) .nil))))))))))))))))) .nil))))))))))))))) (.cond (.seq .no .no) .no))) .no))))) (.seq .no .no))))))))))
theorem F3_eq (x0 : Value) (R : Value → World → Prop) (w0 : World) : F3 x0 R w0 = vc Try.prog (bodyOf Try.f3) a3 (retQ Try.prog Try.f3 R) (envOf 0 [x0]) w0 := by kernel_rfl
theorem F3_calls (x0 : Value) (R : Value → World → Prop) (w0 : World) (h : F3 x0 R w0) : CallK Try.prog 3 #[x0] R w0 :=
  calls_vc (c := bodyOf Try.f3) Try.func3 (by kernel_rfl) (by kernel_rfl) a3 (by kernel_rfl) (by kernel_rfl) [x0] (by rw [Try.ntmps3]; exact Nat.le_of_ble_eq_true rfl) w0 R ((F3_eq x0 R w0).mp h)

/-- canton/cantonlaw5.SealAny, its body as a formula. -/
def F4 (x0 : Value) (R : Value → World → Prop) (w0 : World) : Prop :=
  CallV Try.prog (.func (.func 8) #[] #[]) #[] (@hid _ ⟨fun t10_1 w2 =>
  UnK Try.prog Go.UnOp.not t10_1 (@hid _ ⟨fun t11_3 w4 =>
  BrK t11_3 (@hid _ ⟨
   R (Go.Value.bool false) w4⟩) (@hid _ ⟨
   BuiltinK Try.prog Go.Builtin.len #[25] 3 #[false] #[x0] (@hid _ ⟨fun t13_5 w6 =>
   BinK Try.prog Go.BinOp.gtr 3 t13_5 (Go.Value.int Go.IntKind.i64 1000) (@hid _ ⟨fun t14_7 w8 =>
   BrK t14_7 (@hid _ ⟨
    R (Go.Value.bool true) w8⟩) (@hid _ ⟨
    CallV Try.prog (.func (.func 19) #[] #[]) #[x0] (@hid _ ⟨fun t16_9 w10 =>
    CallV Try.prog (.func (.func 20) #[] #[]) #[t16_9] (@hid _ ⟨fun t19_11 w12 =>
    ExtractK Try.prog t19_11 0 (@hid _ ⟨fun t20_13 w14 =>
    ExtractK Try.prog t19_11 1 (@hid _ ⟨fun t21_15 w16 =>
    CallV Try.prog (.func (.func 20) #[] #[]) #[x0] (@hid _ ⟨fun t24_17 w18 =>
    ExtractK Try.prog t24_17 0 (@hid _ ⟨fun t25_19 w20 =>
    ExtractK Try.prog t24_17 1 (@hid _ ⟨fun t26_21 w22 =>
    CallV Try.prog (.func (.func 21) #[] #[]) #[x0] (@hid _ ⟨fun t29_23 w24 =>
    ExtractK Try.prog t29_23 0 (@hid _ ⟨fun t30_25 w26 =>
    ExtractK Try.prog t29_23 1 (@hid _ ⟨fun t31_27 w28 =>
    DrawK (@hid _ ⟨fun S29 w30 =>
    TakeS Try.prog S29 (convert 25 9 t16_9) (@hid _ ⟨fun t33_31 =>
    (CallV Try.prog (.func (.func 22) #[] #[]) #[x0] (@hid _ ⟨fun t35_32 w33 =>
    S29 w33 ∧
    (ConvK Try.prog 25 9 t35_32 (@hid _ ⟨fun t36_34 w35 =>
    S29 w35 ∧
    BinT Try.prog S29 Go.BinOp.eql 9 t33_31 t36_34 (@hid _ ⟨fun t37_36 =>
    TakeG t37_36 true (fun k => k t21_15) (@hid _ ⟨fun t39_37 =>
    TakeG t37_36 true (fun k => BinT Try.prog S29 Go.BinOp.eql 3 t39_37 (Go.Value.int Go.IntKind.i64 0) k) (@hid _ ⟨fun t40_38 =>
    PickT t37_36 t40_38 (Go.Value.bool false) (@hid _ ⟨fun t41_39 =>
    TakeG t41_39 true (fun k => k t20_13) (@hid _ ⟨fun t43_40 =>
    TakeG t41_39 true (fun k => TakeS Try.prog S29 (convert 25 9 t43_40) k) (@hid _ ⟨fun t44_41 =>
    TakeG t41_39 true (fun k => k x0) (@hid _ ⟨fun t45_42 =>
    TakeG t41_39 true (fun k => TakeS Try.prog S29 (convert 25 9 t45_42) k) (@hid _ ⟨fun t46_43 =>
    TakeG t41_39 true (fun k => BinT Try.prog S29 Go.BinOp.eql 9 t44_41 t46_43 k) (@hid _ ⟨fun t47_44 =>
    PickT t41_39 t47_44 (Go.Value.bool false) (@hid _ ⟨fun t48_45 =>
    TakeG t48_45 true (fun k => k t26_21) (@hid _ ⟨fun t50_46 =>
    TakeG t48_45 true (fun k => k t31_27) (@hid _ ⟨fun t51_47 =>
    TakeG t48_45 true (fun k => BinT Try.prog S29 Go.BinOp.eql 3 t50_46 t51_47 k) (@hid _ ⟨fun t52_48 =>
    PickT t48_45 t52_48 (Go.Value.bool false) (@hid _ ⟨fun t53_49 =>
    TakeG t53_49 true (fun k => k t25_19) (@hid _ ⟨fun t55_50 =>
    TakeG t53_49 true (fun k => TakeS Try.prog S29 (convert 25 9 t55_50) k) (@hid _ ⟨fun t56_51 =>
    TakeG t53_49 true (fun k => k t30_25) (@hid _ ⟨fun t57_52 =>
    TakeG t53_49 true (fun k => TakeS Try.prog S29 (convert 25 9 t57_52) k) (@hid _ ⟨fun t58_53 =>
    TakeG t53_49 true (fun k => BinT Try.prog S29 Go.BinOp.eql 9 t56_51 t58_53 k) (@hid _ ⟨fun t59_54 =>
    PickT t53_49 t59_54 (Go.Value.bool false) (@hid _ ⟨fun t60_55 =>
    R t60_55 w35⟩)⟩)⟩)⟩)⟩)⟩)⟩)⟩)⟩)⟩)⟩)⟩)⟩)⟩)⟩)⟩)⟩)⟩)⟩)⟩)⟩) w33) ∧
    True⟩) w30) ∧
    True⟩)⟩) w28⟩) w26⟩) w24⟩) w22⟩) w20⟩) w18⟩) w16⟩) w14⟩) w12⟩) w10⟩) w8⟩)⟩) w6⟩) w4⟩)⟩) w2⟩) w0
def a4 : Ann := (.seq .no (.seq (.seq .no (.cond (.seq .no .no) .no)) (.seq (.seq .no (.cond (.seq .no .no) .no)) (.seq .no (.seq .no (.seq .no (.seq .no (.seq (.plan (.take 0 (.take 1 (.take 2 (.alt 3 (.alt 4 (.take 5 (.take 6 (.take 7 (.take 8 (.take 9 (.take 10 (.take 11 (.take 12 (.take 13 (.take 14 (.take 15 (.take 16 (.take 17 (.take 18 (.take 19 (.take 20 (.take 21 (.take 22 (.take 23 (.take 24 (.take 25 (.take 26 (.take 27 (.take 28 (.take 29 .done))))))))))))))))))))))))) .nil) .nil))))) .no))))))))
theorem F4_eq (x0 : Value) (R : Value → World → Prop) (w0 : World) : F4 x0 R w0 = vc Try.prog (bodyOf Try.f4) a4 (retQ Try.prog Try.f4 R) (envOf 0 [x0]) w0 := by kernel_rfl
theorem F4_calls (x0 : Value) (R : Value → World → Prop) (w0 : World) (h : F4 x0 R w0) : CallK Try.prog 4 #[x0] R w0 :=
  calls_vc (c := bodyOf Try.f4) Try.func4 (by kernel_rfl) (by kernel_rfl) a4 (by kernel_rfl) (by kernel_rfl) [x0] (by rw [Try.ntmps4]; exact Nat.le_of_ble_eq_true rfl) w0 R ((F4_eq x0 R w0).mp h)

/-- canton/cantonlaw5.SealTurned, its body as a formula. -/
def F5 (x0 x1 x2 : Value) (R : Value → World → Prop) (w0 : World) : Prop :=
  CallV Try.prog (.func (.func 8) #[] #[]) #[] (@hid _ ⟨fun t13_1 w2 =>
  UnK Try.prog Go.UnOp.not t13_1 (@hid _ ⟨fun t14_3 w4 =>
  BrK t14_3 (@hid _ ⟨
   R (Go.Value.bool false) w4⟩) (@hid _ ⟨
   BuiltinK Try.prog Go.Builtin.len #[25] 3 #[false] #[x0] (@hid _ ⟨fun t16_5 w6 =>
   BinK Try.prog Go.BinOp.gtr 3 t16_5 (Go.Value.int Go.IntKind.i64 1000) (@hid _ ⟨fun t17_7 w8 =>
   GuardK t17_7 false (fun k w => k x2 w) (@hid _ ⟨fun t19_9 w10 =>
   GuardK t17_7 false (fun k w => BinK Try.prog Go.BinOp.eql 50 t19_9 (Go.Value.int Go.IntKind.u32 0) k w) (@hid _ ⟨fun t20_11 w12 =>
   PickK Try.prog t17_7 (Go.Value.bool true) t20_11 (@hid _ ⟨fun t21_13 w14 =>
   BrK t21_13 (@hid _ ⟨
    R (Go.Value.bool true) w14⟩) (@hid _ ⟨
    CallV Try.prog (.func (.func 19) #[] #[]) #[x0] (@hid _ ⟨fun t23_15 w16 =>
    BuiltinK Try.prog Go.Builtin.len #[25] 3 #[false] #[t23_15] (@hid _ ⟨fun t25_17 w18 =>
    BinK Try.prog Go.BinOp.lss 3 t25_17 (Go.Value.int Go.IntKind.i64 4) (@hid _ ⟨fun t26_19 w20 =>
    BrK t26_19 (@hid _ ⟨
     R (Go.Value.bool false) w20⟩) (@hid _ ⟨
     ConvK Try.prog 49 3 x1 (@hid _ ⟨fun t28_21 w22 =>
     BuiltinK Try.prog Go.Builtin.len #[25] 3 #[false] #[t23_15] (@hid _ ⟨fun t30_23 w24 =>
     BinK Try.prog Go.BinOp.sub 3 t30_23 (Go.Value.int Go.IntKind.i64 3) (@hid _ ⟨fun t31_25 w26 =>
     BinK Try.prog Go.BinOp.rem 3 t28_21 t31_25 (@hid _ ⟨fun t32_27 w28 =>
     BuildSliceK Try.prog 25 0 #[] (@hid _ ⟨fun t33_29 w30 =>
     BuiltinK Try.prog Go.Builtin.append #[25, 25] 25 #[false, false] #[t33_29, t23_15] (@hid _ ⟨fun t35_31 w32 =>
     LoopK1 (Go.Value.int Go.IntKind.i64 0) w32 (@hid _ ⟨fun _ x10_33 w34 B35 =>
      BinK Try.prog Go.BinOp.lss 3 x10_33 (Go.Value.int Go.IntKind.i64 4) (@hid _ ⟨fun t37_36 w37 =>
      BrK t37_36 (@hid _ ⟨
       BinK Try.prog Go.BinOp.add 3 t32_27 x10_33 (@hid _ ⟨fun t43_38 w39 =>
       BinK Try.prog Go.BinOp.add 3 t32_27 x10_33 (@hid _ ⟨fun t47_40 w41 =>
       IndexAtK Try.prog 25 t35_31 t47_40 (@hid _ ⟨fun t48_42 w43 =>
       LoadK Try.prog 5 t48_42 (@hid _ ⟨fun t49_44 w45 =>
       BinK Try.prog Go.BinOp.mul 3 (Go.Value.int Go.IntKind.i64 8) x10_33 (@hid _ ⟨fun t52_46 w47 =>
       ConvK Try.prog 3 51 t52_46 (@hid _ ⟨fun t53_48 w49 =>
       BinK Try.prog Go.BinOp.shr 50 x2 t53_48 (@hid _ ⟨fun t54_50 w51 =>
       ConvK Try.prog 50 5 t54_50 (@hid _ ⟨fun t55_52 w53 =>
       BinK Try.prog Go.BinOp.xor 5 t49_44 t55_52 (@hid _ ⟨fun t56_54 w55 =>
       IndexAtK Try.prog 25 t35_31 t43_38 (@hid _ ⟨fun t57_56 w57 =>
       StoreK Try.prog 5 t57_56 t56_54 (@hid _ ⟨fun tu_58 w59 =>
       BinK Try.prog Go.BinOp.add 3 x10_33 (Go.Value.int Go.IntKind.i64 1) (@hid _ ⟨fun t39_60 w61 =>
       B35 t39_60 w61⟩) w59⟩) w57⟩) w55⟩) w53⟩) w51⟩) w49⟩) w47⟩) w45⟩) w43⟩) w41⟩) w39⟩) w37⟩) (@hid _ ⟨
       CallV Try.prog (.func (.func 20) #[] #[]) #[t35_31] (@hid _ ⟨fun t60_62 w63 =>
       ExtractK Try.prog t60_62 0 (@hid _ ⟨fun t61_64 w65 =>
       ExtractK Try.prog t60_62 1 (@hid _ ⟨fun t62_66 w67 =>
       BinK Try.prog Go.BinOp.eql 3 t62_66 (Go.Value.int Go.IntKind.i64 10) (@hid _ ⟨fun t64_68 w69 =>
       R t64_68 w69⟩) w67⟩) w65⟩) w63⟩) w37⟩)⟩) w34⟩)⟩) w30⟩) w28⟩) w26⟩) w24⟩) w22⟩) w20⟩)⟩) w18⟩) w16⟩) w14⟩)⟩) w12⟩) w10⟩) w8⟩) w6⟩) w4⟩)⟩) w2⟩) w0
def a5 : Ann := (.seq .no (.seq (.seq .no (.cond (.seq .no .no) .no)) (.seq (.seq .no (.cond (.seq .no .no) .no)) (.seq .no (.seq (.seq .no (.cond (.seq .no .no) .no)) (.seq .no (.seq .no (.seq (.seq .no (.block (.loop [10] [(36, 57)] (.seq (.seq .no (.cond .no .no)) (.seq (.block .no) .no))))) (.seq .no (.seq .no .no))))))))))
theorem F5_eq (x0 x1 x2 : Value) (R : Value → World → Prop) (w0 : World) : F5 x0 x1 x2 R w0 = vc Try.prog (bodyOf Try.f5) a5 (retQ Try.prog Try.f5 R) (envOf 0 [x0, x1, x2]) w0 := by kernel_rfl
theorem F5_calls (x0 x1 x2 : Value) (R : Value → World → Prop) (w0 : World) (h : F5 x0 x1 x2 R w0) : CallK Try.prog 5 #[x0, x1, x2] R w0 :=
  calls_vc (c := bodyOf Try.f5) Try.func5 (by kernel_rfl) (by kernel_rfl) a5 (by kernel_rfl) (by kernel_rfl) [x0, x1, x2] (by rw [Try.ntmps5]; exact Nat.le_of_ble_eq_true rfl) w0 R ((F5_eq x0 x1 x2 R w0).mp h)

/-- canton/cantonlaw5.CodecShort, its body as a formula. -/
def F6 (x0 x1 x2 : Value) (R : Value → World → Prop) (w0 : World) : Prop :=
  CallV Try.prog (.func (.func 8) #[] #[]) #[] (@hid _ ⟨fun t15_1 w2 =>
  UnK Try.prog Go.UnOp.not t15_1 (@hid _ ⟨fun t16_3 w4 =>
  BrK t16_3 (@hid _ ⟨
   R (Go.Value.bool false) w4⟩) (@hid _ ⟨
   BuiltinK Try.prog Go.Builtin.len #[9] 3 #[false] #[x0] (@hid _ ⟨fun t18_5 w6 =>
   BinK Try.prog Go.BinOp.gtr 3 t18_5 (Go.Value.int Go.IntKind.i64 300) (@hid _ ⟨fun t19_7 w8 =>
   GuardK t19_7 false (fun k w => k x1 w) (@hid _ ⟨fun t21_9 w10 =>
   GuardK t19_7 false (fun k w => BinK Try.prog Go.BinOp.lss 3 t21_9 (Go.Value.int Go.IntKind.i64 0) k w) (@hid _ ⟨fun t22_11 w12 =>
   PickK Try.prog t19_7 (Go.Value.bool true) t22_11 (@hid _ ⟨fun t23_13 w14 =>
   BrK t23_13 (@hid _ ⟨
    R (Go.Value.bool true) w14⟩) (@hid _ ⟨
    BuildK Try.prog 27 #[] (@hid _ ⟨fun t24_15 w16 =>
    BoxK Try.prog 27 t24_15 (@hid _ ⟨fun t25_17 w18 =>
    BuildSliceK Try.prog 59 1 #[(0, x0)] (@hid _ ⟨fun t28_19 w20 =>
    CallV Try.prog (.func (.func 9) #[] #[]) #[t25_17, t28_19] (@hid _ ⟨fun t29_21 w22 =>
    CallV Try.prog (.func (.func 13) #[] #[]) #[t25_17] (@hid _ ⟨fun t31_23 w24 =>
    BuiltinK Try.prog Go.Builtin.len #[25] 3 #[false] #[t31_23] (@hid _ ⟨fun t35_25 w26 =>
    BinK Try.prog Go.BinOp.rem 3 x1 t35_25 (@hid _ ⟨fun t36_27 w28 =>
    SliceK Try.prog 25 t31_23 none (some t36_27) none (@hid _ ⟨fun t37_29 w30 =>
    CallV Try.prog (.func (.func 14) #[] #[]) #[t37_29] (@hid _ ⟨fun t38_31 w32 =>
    CallV Try.prog (.func (.func 15) #[] #[]) #[t38_31] (@hid _ ⟨fun t40_33 w34 =>
    CallV Try.prog (.func (.func 18) #[] #[]) #[t38_31] (@hid _ ⟨fun t42_35 w36 =>
    CallV Try.prog (.func (.func 12) #[] #[]) #[x2] (@hid _ ⟨fun t44_37 w38 =>
    BuiltinK Try.prog Go.Builtin.len #[25] 3 #[false] #[t44_37] (@hid _ ⟨fun t47_39 w40 =>
    BinK Try.prog Go.BinOp.sub 3 t47_39 (Go.Value.int Go.IntKind.i64 1) (@hid _ ⟨fun t48_41 w42 =>
    BuiltinK Try.prog Go.Builtin.len #[25] 3 #[false] #[t44_37] (@hid _ ⟨fun t51_43 w44 =>
    BinK Try.prog Go.BinOp.sub 3 t51_43 (Go.Value.int Go.IntKind.i64 1) (@hid _ ⟨fun t52_45 w46 =>
    IndexAtK Try.prog 25 t44_37 t52_45 (@hid _ ⟨fun t53_47 w48 =>
    LoadK Try.prog 5 t53_47 (@hid _ ⟨fun t54_49 w50 =>
    BinK Try.prog Go.BinOp.or 5 t54_49 (Go.Value.int Go.IntKind.u8 128) (@hid _ ⟨fun t55_51 w52 =>
    IndexAtK Try.prog 25 t44_37 t48_41 (@hid _ ⟨fun t56_53 w54 =>
    StoreK Try.prog 5 t56_53 t55_51 (@hid _ ⟨fun tu_55 w56 =>
    BuildSliceK Try.prog 25 1 #[(0, (Go.Value.int Go.IntKind.u8 0))] (@hid _ ⟨fun t58_57 w58 =>
    BuiltinK Try.prog Go.Builtin.append #[25, 25] 25 #[false, false] #[t44_37, t58_57] (@hid _ ⟨fun t59_59 w60 =>
    CallV Try.prog (.func (.func 14) #[] #[]) #[t59_59] (@hid _ ⟨fun t60_61 w62 =>
    CallV Try.prog (.func (.func 16) #[] #[]) #[t60_61] (@hid _ ⟨fun t62_63 w64 =>
    BinK Try.prog Go.BinOp.eql 9 t40_33 (Go.Value.string { data := #[] }) (@hid _ ⟨fun t64_65 w66 =>
    GuardK t64_65 true (fun k w => k t42_35 w) (@hid _ ⟨fun t66_67 w68 =>
    GuardK t64_65 true (fun k w => BinK Try.prog Go.BinOp.eql 3 t66_67 (Go.Value.int Go.IntKind.i64 3) k w) (@hid _ ⟨fun t67_69 w70 =>
    PickK Try.prog t64_65 t67_69 (Go.Value.bool false) (@hid _ ⟨fun t68_71 w72 =>
    GuardK t68_71 true (fun k w => k t62_63 w) (@hid _ ⟨fun t70_73 w74 =>
    GuardK t68_71 true (fun k w => BinK Try.prog Go.BinOp.eql 2 t70_73 (Go.Value.int Go.IntKind.i64 0) k w) (@hid _ ⟨fun t71_75 w76 =>
    PickK Try.prog t68_71 t71_75 (Go.Value.bool false) (@hid _ ⟨fun t72_77 w78 =>
    GuardK t72_77 true (fun k w => k t60_61 w) (@hid _ ⟨fun t74_79 w80 =>
    GuardK t72_77 true (fun k w => CallV Try.prog (.func (.func 18) #[] #[]) #[t74_79] k w) (@hid _ ⟨fun t75_81 w82 =>
    GuardK t72_77 true (fun k w => BinK Try.prog Go.BinOp.eql 3 t75_81 (Go.Value.int Go.IntKind.i64 2) k w) (@hid _ ⟨fun t76_83 w84 =>
    PickK Try.prog t72_77 t76_83 (Go.Value.bool false) (@hid _ ⟨fun t77_85 w86 =>
    GuardK t77_85 true (fun k w => k t60_61 w) (@hid _ ⟨fun t79_87 w88 =>
    GuardK t77_85 true (fun k w => CallV Try.prog (.func (.func 17) #[] #[]) #[t79_87] k w) (@hid _ ⟨fun t80_89 w90 =>
    GuardK t77_85 true (fun k w => BinK Try.prog Go.BinOp.eql 3 t80_89 (Go.Value.int Go.IntKind.i64 0) k w) (@hid _ ⟨fun t81_91 w92 =>
    PickK Try.prog t77_85 t81_91 (Go.Value.bool false) (@hid _ ⟨fun t82_93 w94 =>
    R t82_93 w94⟩) w92⟩) w90⟩) w88⟩) w86⟩) w84⟩) w82⟩) w80⟩) w78⟩) w76⟩) w74⟩) w72⟩) w70⟩) w68⟩) w66⟩) w64⟩) w62⟩) w60⟩) w58⟩) w56⟩) w54⟩) w52⟩) w50⟩) w48⟩) w46⟩) w44⟩) w42⟩) w40⟩) w38⟩) w36⟩) w34⟩) w32⟩) w30⟩) w28⟩) w26⟩) w24⟩) w22⟩) w20⟩) w18⟩) w16⟩) w14⟩)⟩) w12⟩) w10⟩) w8⟩) w6⟩) w4⟩)⟩) w2⟩) w0
def a6 : Ann := (.seq .no (.seq (.seq .no (.cond (.seq .no .no) .no)) (.seq (.seq .no (.cond (.seq .no .no) .no)) (.seq .no (.seq .no (.seq .no (.seq .no (.seq .no (.seq .no (.seq .no (.seq .no (.seq .no (.seq .no (.seq .no .no))))))))))))))
theorem F6_eq (x0 x1 x2 : Value) (R : Value → World → Prop) (w0 : World) : F6 x0 x1 x2 R w0 = vc Try.prog (bodyOf Try.f6) a6 (retQ Try.prog Try.f6 R) (envOf 0 [x0, x1, x2]) w0 := by kernel_rfl
theorem F6_calls (x0 x1 x2 : Value) (R : Value → World → Prop) (w0 : World) (h : F6 x0 x1 x2 R w0) : CallK Try.prog 6 #[x0, x1, x2] R w0 :=
  calls_vc (c := bodyOf Try.f6) Try.func6 (by kernel_rfl) (by kernel_rfl) a6 (by kernel_rfl) (by kernel_rfl) [x0, x1, x2] (by rw [Try.ntmps6]; exact Nat.le_of_ble_eq_true rfl) w0 R ((F6_eq x0 x1 x2 R w0).mp h)

/-- canton/cantonlaw5.CodecBytes, its body as a formula. -/
def F7 (x0 x1 : Value) (R : Value → World → Prop) (w0 : World) : Prop :=
  CallV Try.prog (.func (.func 8) #[] #[]) #[] (@hid _ ⟨fun t9_1 w2 =>
  UnK Try.prog Go.UnOp.not t9_1 (@hid _ ⟨fun t10_3 w4 =>
  BrK t10_3 (@hid _ ⟨
   R (Go.Value.bool false) w4⟩) (@hid _ ⟨
   BuiltinK Try.prog Go.Builtin.len #[25] 3 #[false] #[x0] (@hid _ ⟨fun t12_5 w6 =>
   BinK Try.prog Go.BinOp.gtr 3 t12_5 (Go.Value.int Go.IntKind.i64 1000) (@hid _ ⟨fun t13_7 w8 =>
   GuardK t13_7 false (fun k w => k x1 w) (@hid _ ⟨fun t15_9 w10 =>
   GuardK t13_7 false (fun k w => BuiltinK Try.prog Go.Builtin.len #[22] 3 #[false] #[t15_9] k w) (@hid _ ⟨fun t16_11 w12 =>
   GuardK t13_7 false (fun k w => BinK Try.prog Go.BinOp.gtr 3 t16_11 (Go.Value.int Go.IntKind.i64 60) k w) (@hid _ ⟨fun t17_13 w14 =>
   PickK Try.prog t13_7 (Go.Value.bool true) t17_13 (@hid _ ⟨fun t18_15 w16 =>
   BrK t18_15 (@hid _ ⟨
    R (Go.Value.bool true) w16⟩) (@hid _ ⟨
    CallV Try.prog (.func (.func 14) #[] #[]) #[x0] (@hid _ ⟨fun t20_17 w18 =>
    BuildK Try.prog 56 #[(0, x0)] (@hid _ ⟨fun t22_19 w20 =>
    BoxK Try.prog 56 t22_19 (@hid _ ⟨fun t23_21 w22 =>
    BinK Try.prog Go.BinOp.eql 35 t20_17 (Go.Value.pointer none) (@hid _ ⟨fun t25_23 w24 =>
    BrK t25_23 (@hid _ ⟨
     R (Go.Value.bool false) w24⟩) (@hid _ ⟨
     LoopK1 (Go.Value.int Go.IntKind.i64 0) w24 (@hid _ ⟨fun _ x7_25 w26 B27 =>
      BuiltinK Try.prog Go.Builtin.len #[22] 3 #[false] #[x1] (@hid _ ⟨fun t28_28 w29 =>
      BinK Try.prog Go.BinOp.lss 3 x7_25 t28_28 (@hid _ ⟨fun t29_30 w31 =>
      BrK t29_30 (@hid _ ⟨
       CutK1 (@hid _ ⟨fun R32 =>
        IndexAtK Try.prog 22 x1 x7_25 (@hid _ ⟨fun t34_35 w36 =>
        FieldAtK Try.prog 29 t34_35 0 (@hid _ ⟨fun t35_37 w38 =>
        LoadK Try.prog 3 t35_37 (@hid _ ⟨fun t36_39 w40 =>
        BinK Try.prog Go.BinOp.eql 3 t36_39 (Go.Value.int Go.IntKind.i64 1) (@hid _ ⟨fun t38_41 w42 =>
        BrK t38_41 (@hid _ ⟨
         CallV Try.prog (.func (.func 16) #[] #[]) #[t20_17] (@hid _ ⟨fun t40_43 w44 =>
         CallV Try.prog (.func (.func 23) #[] #[]) #[t23_21] (@hid _ ⟨fun t42_45 w46 =>
         BinK Try.prog Go.BinOp.eql 2 t40_43 t42_45 (@hid _ ⟨fun t43_47 w48 =>
         R32 t43_47 w48⟩) w46⟩) w44⟩) w42⟩) (@hid _ ⟨
         BinK Try.prog Go.BinOp.eql 3 t36_39 (Go.Value.int Go.IntKind.i64 2) (@hid _ ⟨fun t45_49 w50 =>
         BrK t45_49 (@hid _ ⟨
          CallV Try.prog (.func (.func 15) #[] #[]) #[t20_17] (@hid _ ⟨fun t47_51 w52 =>
          CallV Try.prog (.func (.func 24) #[] #[]) #[t23_21] (@hid _ ⟨fun t49_53 w54 =>
          BinK Try.prog Go.BinOp.eql 9 t47_51 t49_53 (@hid _ ⟨fun t50_55 w56 =>
          R32 t50_55 w56⟩) w54⟩) w52⟩) w50⟩) (@hid _ ⟨
          BinK Try.prog Go.BinOp.eql 3 t36_39 (Go.Value.int Go.IntKind.i64 3) (@hid _ ⟨fun t52_57 w58 =>
          BrK t52_57 (@hid _ ⟨
           DrawK (@hid _ ⟨fun S59 w60 =>
           TakeS Try.prog S59 (Instr.indexAt 22 x1 x7_25) (@hid _ ⟨fun t56_61 =>
           TakeS Try.prog S59 (Instr.fieldAt 29 t56_61 3) (@hid _ ⟨fun t57_62 =>
           TakeS Try.prog S59 (Instr.loadAt 3 t57_62) (@hid _ ⟨fun t58_63 =>
           TakeS Try.prog S59 (Instr.indexAt 22 x1 x7_25) (@hid _ ⟨fun t63_64 =>
           TakeS Try.prog S59 (Instr.fieldAt 29 t63_64 3) (@hid _ ⟨fun t64_65 =>
           TakeS Try.prog S59 (Instr.loadAt 3 t64_65) (@hid _ ⟨fun t65_66 =>
           (CallV Try.prog (.func (.func 25) #[] #[]) #[t20_17, t58_63] (@hid _ ⟨fun t59_67 w68 =>
           S59 w68 ∧
           (CallV Try.prog (.func (.func 26) #[] #[]) #[t23_21, t65_66] (@hid _ ⟨fun t66_69 w70 =>
           S59 w70 ∧
           BinT Try.prog S59 Go.BinOp.eql 3 t59_67 t66_69 (@hid _ ⟨fun t67_71 =>
           R32 t67_71 w70⟩)⟩) w68) ∧
           True⟩) w60) ∧
           True⟩)⟩)⟩)⟩)⟩)⟩)⟩) w58⟩) (@hid _ ⟨
           R32 (Go.Value.bool true) w58⟩)⟩) w50⟩)⟩) w42⟩)⟩) w40⟩) w38⟩) w36⟩) w31⟩)
       (@hid _ ⟨fun _ x8_33 w34 =>
        DrawK (@hid _ ⟨fun S72 w73 =>
        TakeS Try.prog S72 (Op.unary Go.UnOp.not x8_33) (@hid _ ⟨fun t69_74 =>
        TakeG t69_74 false (fun k => k t20_17) (@hid _ ⟨fun t71_75 =>
        TakeG t69_74 false (fun k => k t23_21) (@hid _ ⟨fun t73_76 =>
        (GuardK t69_74 false (fun k w => CallV Try.prog (.func (.func 17) #[] #[]) #[t71_75] k w) (@hid _ ⟨fun t72_77 w78 =>
        S72 w78 ∧
        (GuardK t69_74 false (fun k w => CallV Try.prog (.func (.func 27) #[] #[]) #[t73_76] k w) (@hid _ ⟨fun t74_79 w80 =>
        S72 w80 ∧
        TakeG t69_74 false (fun k => BinT Try.prog S72 Go.BinOp.neq 3 t72_77 t74_79 k) (@hid _ ⟨fun t75_81 =>
        PickT t69_74 (Go.Value.bool true) t75_81 (@hid _ ⟨fun t76_82 =>
        TakeG t76_82 false (fun k => k t20_17) (@hid _ ⟨fun t78_83 =>
        TakeG t76_82 false (fun k => k t23_21) (@hid _ ⟨fun t80_84 =>
        TakeG t76_82 false (fun k => TakeO Try.prog S72 (nilSem t80_84) k) (@hid _ ⟨fun t81_85 =>
        TakeG t76_82 false (fun k => TakeS Try.prog S72 (Instr.fieldAt 56 t81_85 2) k) (@hid _ ⟨fun t82_86 =>
        TakeG t76_82 false (fun k => TakeS Try.prog S72 (Instr.loadAt 3 t82_86) k) (@hid _ ⟨fun t83_87 =>
        (GuardK t76_82 false (fun k w => CallV Try.prog (.func (.func 18) #[] #[]) #[t78_83] k w) (@hid _ ⟨fun t79_88 w89 =>
        S72 w89 ∧
        TakeG t76_82 false (fun k => BinT Try.prog S72 Go.BinOp.neq 3 t79_88 t83_87 k) (@hid _ ⟨fun t84_90 =>
        PickT t76_82 (Go.Value.bool true) t84_90 (@hid _ ⟨fun t85_91 =>
        BrK t85_91 (@hid _ ⟨
         R (Go.Value.bool false) w89⟩) (@hid _ ⟨
         BinK Try.prog Go.BinOp.add 3 x7_25 (Go.Value.int Go.IntKind.i64 1) (@hid _ ⟨fun t31_92 w93 =>
         B27 t31_92 w93⟩) w89⟩)⟩)⟩)⟩) w80) ∧
        True⟩)⟩)⟩)⟩)⟩)⟩)⟩)⟩) w78) ∧
        True⟩) w73) ∧
        True⟩)⟩)⟩)⟩) w34⟩)⟩) (@hid _ ⟨
       R (Go.Value.bool true) w31⟩)⟩) w29⟩) w26⟩)⟩)⟩) w22⟩) w20⟩) w18⟩) w16⟩)⟩) w14⟩) w12⟩) w10⟩) w8⟩) w6⟩) w4⟩)⟩) w2⟩) w0
def a7 : Ann := (.seq .no (.seq (.seq .no (.cond (.seq .no .no) .no)) (.seq (.seq .no (.cond (.seq .no .no) .no)) (.seq .no (.seq .no (.seq (.seq .no (.cond (.seq .no .no) .no)) (.seq (.seq .no (.block (.loop [7] [(4, 4), (8, 8), (26, 85)] (.seq (.seq .no (.cond .no .no)) (.seq (.block (.seq .no (.cut [8] [(32, 67)] (.seq .no (.block (.seq .no (.cond .no (.seq .no (.cond .no (.seq .no (.cond (.plan (.take 0 (.take 1 (.take 2 (.take 3 (.take 4 (.take 5 (.take 7 (.take 8 (.take 9 (.take 10 (.take 11 (.take 12 (.alt 6 (.alt 13 (.take 14 (.take 15 .done)) .nil) .nil)))))))))))))) .no)))))))) (.seq (.plan (.take 0 (.take 1 (.take 2 (.take 3 (.take 5 (.alt 4 (.alt 6 (.take 7 (.take 8 (.take 9 (.take 10 (.take 12 (.take 13 (.take 14 (.take 15 (.alt 11 (.take 16 (.take 17 .done)) .nil))))))))) .nil) .nil))))))) (.cond (.seq .no .no) .no))))) .no))))) (.seq .no .no))))))))
theorem F7_eq (x0 x1 : Value) (R : Value → World → Prop) (w0 : World) : F7 x0 x1 R w0 = vc Try.prog (bodyOf Try.f7) a7 (retQ Try.prog Try.f7 R) (envOf 0 [x0, x1]) w0 := by kernel_rfl
theorem F7_calls (x0 x1 : Value) (R : Value → World → Prop) (w0 : World) (h : F7 x0 x1 R w0) : CallK Try.prog 7 #[x0, x1] R w0 :=
  calls_vc (c := bodyOf Try.f7) Try.func7 (by kernel_rfl) (by kernel_rfl) a7 (by kernel_rfl) (by kernel_rfl) [x0, x1] (by rw [Try.ntmps7]; exact Nat.le_of_ble_eq_true rfl) w0 R ((F7_eq x0 x1 R w0).mp h)

/-- canton/cantonlaw5.known, its body as a formula. -/
def F8 (R : Value → World → Prop) (w0 : World) : Prop :=
  BuildK Try.prog 27 #[] (@hid _ ⟨fun t10_1 w2 =>
  BoxK Try.prog 27 t10_1 (@hid _ ⟨fun t11_3 w4 =>
  BuildSliceK Try.prog 60 2 #[(0, (Go.Value.int Go.IntKind.i64 300)), (1, (Go.Value.int Go.IntKind.i64 (-1)))] (@hid _ ⟨fun t13_5 w6 =>
  CallV Try.prog (.func (.func 11) #[] #[]) #[t11_3, t13_5] (@hid _ ⟨fun t14_7 w8 =>
  BuildSliceK Try.prog 59 1 #[(0, (Go.Value.string { data := #[97, 98] }))] (@hid _ ⟨fun t16_9 w10 =>
  CallV Try.prog (.func (.func 9) #[] #[]) #[t11_3, t16_9] (@hid _ ⟨fun t17_11 w12 =>
  CallV Try.prog (.func (.func 13) #[] #[]) #[t11_3] (@hid _ ⟨fun t19_13 w14 =>
  CallV Try.prog (.func (.func 14) #[] #[]) #[t19_13] (@hid _ ⟨fun t20_15 w16 =>
  BinK Try.prog Go.BinOp.eql 35 t20_15 (Go.Value.pointer none) (@hid _ ⟨fun t22_17 w18 =>
  BrK t22_17 (@hid _ ⟨
   R (Go.Value.bool false) w18⟩) (@hid _ ⟨
   CallV Try.prog (.func (.func 16) #[] #[]) #[t20_15] (@hid _ ⟨fun t24_19 w20 =>
   CallV Try.prog (.func (.func 16) #[] #[]) #[t20_15] (@hid _ ⟨fun t26_21 w22 =>
   CallV Try.prog (.func (.func 15) #[] #[]) #[t20_15] (@hid _ ⟨fun t28_23 w24 =>
   BuildSliceK Try.prog 25 3 #[(0, (Go.Value.int Go.IntKind.u8 120)), (1, (Go.Value.int Go.IntKind.u8 121)), (2, (Go.Value.int Go.IntKind.u8 122))] (@hid _ ⟨fun t30_25 w26 =>
   ConvK Try.prog 25 25 t30_25 (@hid _ ⟨fun t31_27 w28 =>
   CallV Try.prog (.func (.func 19) #[] #[]) #[t31_27] (@hid _ ⟨fun t32_29 w30 =>
   CallV Try.prog (.func (.func 20) #[] #[]) #[t32_29] (@hid _ ⟨fun t33_31 w32 =>
   ExtractK Try.prog t33_31 0 (@hid _ ⟨fun t34_33 w34 =>
   ExtractK Try.prog t33_31 1 (@hid _ ⟨fun t35_35 w36 =>
   BuildSliceK Try.prog 25 4 #[(0, (Go.Value.int Go.IntKind.u8 120)), (1, (Go.Value.int Go.IntKind.u8 121)), (2, (Go.Value.int Go.IntKind.u8 122)), (3, (Go.Value.int Go.IntKind.u8 48))] (@hid _ ⟨fun t37_37 w38 =>
   ConvK Try.prog 25 25 t37_37 (@hid _ ⟨fun t38_39 w40 =>
   CallV Try.prog (.func (.func 20) #[] #[]) #[t38_39] (@hid _ ⟨fun t39_41 w42 =>
   ExtractK Try.prog t39_41 0 (@hid _ ⟨fun t40_43 w44 =>
   ExtractK Try.prog t39_41 1 (@hid _ ⟨fun t41_45 w46 =>
   CallV Try.prog (.func (.func 13) #[] #[]) #[t11_3] (@hid _ ⟨fun t43_47 w48 =>
   ConvK Try.prog 25 9 t43_47 (@hid _ ⟨fun t44_49 w50 =>
   BinK Try.prog Go.BinOp.eql 9 t44_49 (Go.Value.string { data := #[216, 4, 1, 4, 97, 98] }) (@hid _ ⟨fun t45_51 w52 =>
   GuardK t45_51 true (fun k w => k t24_19 w) (@hid _ ⟨fun t47_53 w54 =>
   GuardK t45_51 true (fun k w => BinK Try.prog Go.BinOp.eql 2 t47_53 (Go.Value.int Go.IntKind.i64 300) k w) (@hid _ ⟨fun t48_55 w56 =>
   PickK Try.prog t45_51 t48_55 (Go.Value.bool false) (@hid _ ⟨fun t49_57 w58 =>
   GuardK t49_57 true (fun k w => k t26_21 w) (@hid _ ⟨fun t51_59 w60 =>
   GuardK t49_57 true (fun k w => BinK Try.prog Go.BinOp.eql 2 t51_59 (Go.Value.int Go.IntKind.i64 (-1)) k w) (@hid _ ⟨fun t52_61 w62 =>
   PickK Try.prog t49_57 t52_61 (Go.Value.bool false) (@hid _ ⟨fun t53_63 w64 =>
   GuardK t53_63 true (fun k w => k t28_23 w) (@hid _ ⟨fun t55_65 w66 =>
   GuardK t53_63 true (fun k w => BinK Try.prog Go.BinOp.eql 9 t55_65 (Go.Value.string { data := #[97, 98] }) k w) (@hid _ ⟨fun t56_67 w68 =>
   PickK Try.prog t53_63 t56_67 (Go.Value.bool false) (@hid _ ⟨fun t57_69 w70 =>
   GuardK t57_69 true (fun k w => k t20_15 w) (@hid _ ⟨fun t59_71 w72 =>
   GuardK t57_69 true (fun k w => CallV Try.prog (.func (.func 17) #[] #[]) #[t59_71] k w) (@hid _ ⟨fun t60_73 w74 =>
   GuardK t57_69 true (fun k w => BinK Try.prog Go.BinOp.eql 3 t60_73 (Go.Value.int Go.IntKind.i64 0) k w) (@hid _ ⟨fun t61_75 w76 =>
   PickK Try.prog t57_69 t61_75 (Go.Value.bool false) (@hid _ ⟨fun t62_77 w78 =>
   GuardK t62_77 true (fun k w => k t20_15 w) (@hid _ ⟨fun t64_79 w80 =>
   GuardK t62_77 true (fun k w => CallV Try.prog (.func (.func 18) #[] #[]) #[t64_79] k w) (@hid _ ⟨fun t65_81 w82 =>
   GuardK t62_77 true (fun k w => BinK Try.prog Go.BinOp.eql 3 t65_81 (Go.Value.int Go.IntKind.i64 0) k w) (@hid _ ⟨fun t66_83 w84 =>
   PickK Try.prog t62_77 t66_83 (Go.Value.bool false) (@hid _ ⟨fun t67_85 w86 =>
   GuardK t67_85 true (fun k w => k t34_33 w) (@hid _ ⟨fun t69_87 w88 =>
   GuardK t67_85 true (fun k w => ConvK Try.prog 25 9 t69_87 k w) (@hid _ ⟨fun t70_89 w90 =>
   GuardK t67_85 true (fun k w => BinK Try.prog Go.BinOp.eql 9 t70_89 (Go.Value.string { data := #[120, 121, 122] }) k w) (@hid _ ⟨fun t71_91 w92 =>
   PickK Try.prog t67_85 t71_91 (Go.Value.bool false) (@hid _ ⟨fun t72_93 w94 =>
   GuardK t72_93 true (fun k w => k t35_35 w) (@hid _ ⟨fun t74_95 w96 =>
   GuardK t72_93 true (fun k w => BinK Try.prog Go.BinOp.eql 3 t74_95 (Go.Value.int Go.IntKind.i64 0) k w) (@hid _ ⟨fun t75_97 w98 =>
   PickK Try.prog t72_93 t75_97 (Go.Value.bool false) (@hid _ ⟨fun t76_99 w100 =>
   GuardK t76_99 true (fun k w => k t41_45 w) (@hid _ ⟨fun t78_101 w102 =>
   GuardK t76_99 true (fun k w => BinK Try.prog Go.BinOp.eql 3 t78_101 (Go.Value.int Go.IntKind.i64 10) k w) (@hid _ ⟨fun t79_103 w104 =>
   PickK Try.prog t76_99 t79_103 (Go.Value.bool false) (@hid _ ⟨fun t80_105 w106 =>
   R t80_105 w106⟩) w104⟩) w102⟩) w100⟩) w98⟩) w96⟩) w94⟩) w92⟩) w90⟩) w88⟩) w86⟩) w84⟩) w82⟩) w80⟩) w78⟩) w76⟩) w74⟩) w72⟩) w70⟩) w68⟩) w66⟩) w64⟩) w62⟩) w60⟩) w58⟩) w56⟩) w54⟩) w52⟩) w50⟩) w48⟩) w46⟩) w44⟩) w42⟩) w40⟩) w38⟩) w36⟩) w34⟩) w32⟩) w30⟩) w28⟩) w26⟩) w24⟩) w22⟩) w20⟩) w18⟩)⟩) w16⟩) w14⟩) w12⟩) w10⟩) w8⟩) w6⟩) w4⟩) w2⟩) w0
def a8 : Ann := (.seq .no (.seq .no (.seq .no (.seq .no (.seq .no (.seq (.seq .no (.cond (.seq .no .no) .no)) (.seq .no (.seq .no (.seq .no (.seq .no (.seq .no (.seq .no .no))))))))))))
theorem F8_eq (R : Value → World → Prop) (w0 : World) : F8  R w0 = vc Try.prog (bodyOf Try.f8) a8 (retQ Try.prog Try.f8 R) (envOf 0 []) w0 := by kernel_rfl
theorem F8_calls (R : Value → World → Prop) (w0 : World) (h : F8  R w0) : CallK Try.prog 8 #[] R w0 :=
  calls_vc (c := bodyOf Try.f8) Try.func8 (by kernel_rfl) (by kernel_rfl) a8 (by kernel_rfl) (by kernel_rfl) [] (by rw [Try.ntmps8]; exact Nat.le_of_ble_eq_true rfl) w0 R ((F8_eq  R w0).mp h)

/-- (*canton/codec.Enc).Text, its body as a formula. -/
def F9 (x0 x1 : Value) (R : Value → World → Prop) (w0 : World) : Prop :=
  BuiltinK Try.prog Go.Builtin.len #[59] 3 #[false] #[x1] (@hid _ ⟨fun t7_1 w2 =>
  LoopK1 (Go.Value.int Go.IntKind.i64 0) w2 (@hid _ ⟨fun _ x8_3 w4 B5 =>
   BinK Try.prog Go.BinOp.lss 3 x8_3 t7_1 (@hid _ ⟨fun t9_6 w7 =>
   BrK t9_6 (@hid _ ⟨
    IndexAtK Try.prog 59 x1 x8_3 (@hid _ ⟨fun t10_8 w9 =>
    LoadK Try.prog 9 t10_8 (@hid _ ⟨fun t11_10 w11 =>
    BuiltinK Try.prog Go.Builtin.len #[9] 3 #[false] #[t11_10] (@hid _ ⟨fun t14_12 w13 =>
    BuildSliceK Try.prog 60 1 #[(0, t14_12)] (@hid _ ⟨fun t15_14 w15 =>
    CallV Try.prog (.func (.func 11) #[] #[]) #[x0, t15_14] (@hid _ ⟨fun t16_16 w17 =>
    NilK Try.prog x0 (@hid _ ⟨fun t19_18 w19 =>
    FieldAtK Try.prog 27 t19_18 0 (@hid _ ⟨fun t20_20 w21 =>
    LoadK Try.prog 25 t20_20 (@hid _ ⟨fun t21_22 w23 =>
    BuiltinK Try.prog Go.Builtin.append #[25, 9] 25 #[false, false] #[t21_22, t11_10] (@hid _ ⟨fun t23_24 w25 =>
    NilK Try.prog x0 (@hid _ ⟨fun t24_26 w27 =>
    FieldAtK Try.prog 27 t24_26 0 (@hid _ ⟨fun t25_28 w29 =>
    StoreK Try.prog 25 t25_28 t23_24 (@hid _ ⟨fun tu_30 w31 =>
    BinK Try.prog Go.BinOp.add 3 x8_3 (Go.Value.int Go.IntKind.i64 1) (@hid _ ⟨fun t26_32 w33 =>
    B5 t26_32 w33⟩) w31⟩) w29⟩) w27⟩) w25⟩) w23⟩) w21⟩) w19⟩) w17⟩) w15⟩) w13⟩) w11⟩) w9⟩) w7⟩) (@hid _ ⟨
    R (.tuple #[]) w7⟩)⟩) w4⟩)⟩) w0
def a9 : Ann := (.seq .no (.block (.loop [8] [(5, 5), (9, 26)] (.seq .no (.seq (.cond .no .no) (.seq (.block (.seq .no (.seq .no .no))) .no))))))
theorem F9_eq (x0 x1 : Value) (R : Value → World → Prop) (w0 : World) : F9 x0 x1 R w0 = vc Try.prog (bodyOf Try.f9) a9 (retQ Try.prog Try.f9 R) (envOf 0 [x0, x1]) w0 := by kernel_rfl
theorem F9_calls (x0 x1 : Value) (R : Value → World → Prop) (w0 : World) (h : F9 x0 x1 R w0) : CallK Try.prog 9 #[x0, x1] R w0 :=
  calls_vc (c := bodyOf Try.f9) Try.func9 (by kernel_rfl) (by kernel_rfl) a9 (by kernel_rfl) (by kernel_rfl) [x0, x1] (by rw [Try.ntmps9]; exact Nat.le_of_ble_eq_true rfl) w0 R ((F9_eq x0 x1 R w0).mp h)

/-- canton/cantonref7.PutText, its body as a formula. -/
def F10 (x0 : Value) (R : Value → World → Prop) (w0 : World) : Prop :=
  BuiltinK Try.prog Go.Builtin.len #[9] 3 #[false] #[x0] (@hid _ ⟨fun t4_1 w2 =>
  CallV Try.prog (.func (.func 12) #[] #[]) #[t4_1] (@hid _ ⟨fun t5_3 w4 =>
  BuiltinK Try.prog Go.Builtin.append #[25, 9] 25 #[false, false] #[t5_3, x0] (@hid _ ⟨fun t7_5 w6 =>
  R t7_5 w6⟩) w4⟩) w2⟩) w0
def a10 : Ann := (.seq .no (.seq .no .no))
theorem F10_eq (x0 : Value) (R : Value → World → Prop) (w0 : World) : F10 x0 R w0 = vc Try.prog (bodyOf Try.f10) a10 (retQ Try.prog Try.f10 R) (envOf 0 [x0]) w0 := by kernel_rfl
theorem F10_calls (x0 : Value) (R : Value → World → Prop) (w0 : World) (h : F10 x0 R w0) : CallK Try.prog 10 #[x0] R w0 :=
  calls_vc (c := bodyOf Try.f10) Try.func10 (by kernel_rfl) (by kernel_rfl) a10 (by kernel_rfl) (by kernel_rfl) [x0] (by rw [Try.ntmps10]; exact Nat.le_of_ble_eq_true rfl) w0 R ((F10_eq x0 R w0).mp h)

/-- (*canton/codec.Enc).Int, its body as a formula. -/
def F11 (x0 x1 : Value) (R : Value → World → Prop) (w0 : World) : Prop :=
  BuiltinK Try.prog Go.Builtin.len #[60] 3 #[false] #[x1] (@hid _ ⟨fun t8_1 w2 =>
  LoopK1 (Go.Value.int Go.IntKind.i64 0) w2 (@hid _ ⟨fun _ x9_3 w4 B5 =>
   BinK Try.prog Go.BinOp.lss 3 x9_3 t8_1 (@hid _ ⟨fun t10_6 w7 =>
   BrK t10_6 (@hid _ ⟨
    IndexAtK Try.prog 60 x1 x9_3 (@hid _ ⟨fun t11_8 w9 =>
    LoadK Try.prog 2 t11_8 (@hid _ ⟨fun t12_10 w11 =>
    ConvK Try.prog 2 61 t12_10 (@hid _ ⟨fun t14_12 w13 =>
    BinK Try.prog Go.BinOp.shl 61 t14_12 (Go.Value.int Go.IntKind.u64 1) (@hid _ ⟨fun t15_14 w15 =>
    BinK Try.prog Go.BinOp.shr 2 t12_10 (Go.Value.int Go.IntKind.u64 63) (@hid _ ⟨fun t17_16 w17 =>
    ConvK Try.prog 2 61 t17_16 (@hid _ ⟨fun t18_18 w19 =>
    BinK Try.prog Go.BinOp.xor 61 t15_14 t18_18 (@hid _ ⟨fun t19_20 w21 =>
    LoopK1 t19_20 w21 (@hid _ ⟨fun _ x6_22 w23 B24 =>
     BinK Try.prog Go.BinOp.geq 61 x6_22 (Go.Value.int Go.IntKind.u64 128) (@hid _ ⟨fun t21_25 w26 =>
     BrK t21_25 (@hid _ ⟨
      NilK Try.prog x0 (@hid _ ⟨fun t24_27 w28 =>
      FieldAtK Try.prog 27 t24_27 0 (@hid _ ⟨fun t25_29 w30 =>
      LoadK Try.prog 25 t25_29 (@hid _ ⟨fun t26_31 w32 =>
      ConvK Try.prog 61 5 x6_22 (@hid _ ⟨fun t28_33 w34 =>
      BinK Try.prog Go.BinOp.or 5 t28_33 (Go.Value.int Go.IntKind.u8 128) (@hid _ ⟨fun t29_35 w36 =>
      BuildSliceK Try.prog 25 1 #[(0, t29_35)] (@hid _ ⟨fun t30_37 w38 =>
      BuiltinK Try.prog Go.Builtin.append #[25, 25] 25 #[false, false] #[t26_31, t30_37] (@hid _ ⟨fun t31_39 w40 =>
      NilK Try.prog x0 (@hid _ ⟨fun t32_41 w42 =>
      FieldAtK Try.prog 27 t32_41 0 (@hid _ ⟨fun t33_43 w44 =>
      StoreK Try.prog 25 t33_43 t31_39 (@hid _ ⟨fun tu_45 w46 =>
      BinK Try.prog Go.BinOp.shr 61 x6_22 (Go.Value.int Go.IntKind.u64 7) (@hid _ ⟨fun t35_47 w48 =>
      B24 t35_47 w48⟩) w46⟩) w44⟩) w42⟩) w40⟩) w38⟩) w36⟩) w34⟩) w32⟩) w30⟩) w28⟩) w26⟩) (@hid _ ⟨
      NilK Try.prog x0 (@hid _ ⟨fun t38_49 w50 =>
      FieldAtK Try.prog 27 t38_49 0 (@hid _ ⟨fun t39_51 w52 =>
      LoadK Try.prog 25 t39_51 (@hid _ ⟨fun t40_53 w54 =>
      ConvK Try.prog 61 5 x6_22 (@hid _ ⟨fun t42_55 w56 =>
      BuildSliceK Try.prog 25 1 #[(0, t42_55)] (@hid _ ⟨fun t43_57 w58 =>
      BuiltinK Try.prog Go.Builtin.append #[25, 25] 25 #[false, false] #[t40_53, t43_57] (@hid _ ⟨fun t44_59 w60 =>
      NilK Try.prog x0 (@hid _ ⟨fun t45_61 w62 =>
      FieldAtK Try.prog 27 t45_61 0 (@hid _ ⟨fun t46_63 w64 =>
      StoreK Try.prog 25 t46_63 t44_59 (@hid _ ⟨fun tu_65 w66 =>
      BinK Try.prog Go.BinOp.add 3 x9_3 (Go.Value.int Go.IntKind.i64 1) (@hid _ ⟨fun t47_67 w68 =>
      B5 t47_67 w68⟩) w66⟩) w64⟩) w62⟩) w60⟩) w58⟩) w56⟩) w54⟩) w52⟩) w50⟩) w26⟩)⟩) w23⟩)⟩) w19⟩) w17⟩) w15⟩) w13⟩) w11⟩) w9⟩) w7⟩) (@hid _ ⟨
    R (.tuple #[]) w7⟩)⟩) w4⟩)⟩) w0
def a11 : Ann := (.seq .no (.block (.loop [9] [(5, 6), (10, 47)] (.seq .no (.seq (.cond .no .no) (.seq (.block (.seq .no (.seq .no (.seq (.block (.loop [6] [(20, 35)] (.seq (.seq .no (.cond .no .no)) (.block (.seq .no .no))))) .no)))) .no))))))
theorem F11_eq (x0 x1 : Value) (R : Value → World → Prop) (w0 : World) : F11 x0 x1 R w0 = vc Try.prog (bodyOf Try.f11) a11 (retQ Try.prog Try.f11 R) (envOf 0 [x0, x1]) w0 := by kernel_rfl
theorem F11_calls (x0 x1 : Value) (R : Value → World → Prop) (w0 : World) (h : F11 x0 x1 R w0) : CallK Try.prog 11 #[x0, x1] R w0 :=
  calls_vc (c := bodyOf Try.f11) Try.func11 (by kernel_rfl) (by kernel_rfl) a11 (by kernel_rfl) (by kernel_rfl) [x0, x1] (by rw [Try.ntmps11]; exact Nat.le_of_ble_eq_true rfl) w0 R ((F11_eq x0 x1 R w0).mp h)

/-- canton/cantonref7.PutInt, its body as a formula. -/
def F12 (x0 : Value) (R : Value → World → Prop) (w0 : World) : Prop :=
  ConvK Try.prog 2 61 x0 (@hid _ ⟨fun t6_1 w2 =>
  BinK Try.prog Go.BinOp.shl 61 t6_1 (Go.Value.int Go.IntKind.u64 1) (@hid _ ⟨fun t7_3 w4 =>
  CutK1 (@hid _ ⟨fun R5 =>
   BinK Try.prog Go.BinOp.lss 2 x0 (Go.Value.int Go.IntKind.i64 0) (@hid _ ⟨fun t9_8 w9 =>
   BrK t9_8 (@hid _ ⟨
    BinK Try.prog Go.BinOp.add 2 x0 (Go.Value.int Go.IntKind.i64 1) (@hid _ ⟨fun t11_10 w11 =>
    BinK Try.prog Go.BinOp.sub 2 (Go.Value.int Go.IntKind.i64 0) t11_10 (@hid _ ⟨fun t12_12 w13 =>
    ConvK Try.prog 2 61 t12_12 (@hid _ ⟨fun t13_14 w15 =>
    BinK Try.prog Go.BinOp.shl 61 t13_14 (Go.Value.int Go.IntKind.u64 1) (@hid _ ⟨fun t14_16 w17 =>
    BinK Try.prog Go.BinOp.or 61 t14_16 (Go.Value.int Go.IntKind.u64 1) (@hid _ ⟨fun t15_18 w19 =>
    R5 t15_18 w19⟩) w17⟩) w15⟩) w13⟩) w11⟩) w9⟩) (@hid _ ⟨
    R5 t7_3 w9⟩)⟩) w4⟩)
  (@hid _ ⟨fun _ x3_6 w7 =>
   LoopK2 x3_6 (Go.Value.slice none 0 0) w7 (@hid _ ⟨fun _ x3_20 x4_21 w22 B23 =>
    BinK Try.prog Go.BinOp.geq 61 x3_20 (Go.Value.int Go.IntKind.u64 128) (@hid _ ⟨fun t17_24 w25 =>
    BrK t17_24 (@hid _ ⟨
     BinK Try.prog Go.BinOp.and 61 x3_20 (Go.Value.int Go.IntKind.u64 127) (@hid _ ⟨fun t20_26 w27 =>
     BinK Try.prog Go.BinOp.or 61 t20_26 (Go.Value.int Go.IntKind.u64 128) (@hid _ ⟨fun t21_28 w29 =>
     ConvK Try.prog 61 5 t21_28 (@hid _ ⟨fun t22_30 w31 =>
     BuildSliceK Try.prog 25 1 #[(0, t22_30)] (@hid _ ⟨fun t23_32 w33 =>
     BuiltinK Try.prog Go.Builtin.append #[25, 25] 25 #[false, false] #[x4_21, t23_32] (@hid _ ⟨fun t24_34 w35 =>
     BinK Try.prog Go.BinOp.shr 61 x3_20 (Go.Value.int Go.IntKind.u64 7) (@hid _ ⟨fun t26_36 w37 =>
     B23 t26_36 t24_34 w37⟩) w35⟩) w33⟩) w31⟩) w29⟩) w27⟩) w25⟩) (@hid _ ⟨
     ConvK Try.prog 61 5 x3_20 (@hid _ ⟨fun t29_38 w39 =>
     BuildSliceK Try.prog 25 1 #[(0, t29_38)] (@hid _ ⟨fun t30_40 w41 =>
     BuiltinK Try.prog Go.Builtin.append #[25, 25] 25 #[false, false] #[x4_21, t30_40] (@hid _ ⟨fun t31_42 w43 =>
     R t31_42 w43⟩) w41⟩) w39⟩) w25⟩)⟩) w22⟩)⟩)⟩) w2⟩) w0
def a12 : Ann := (.seq .no (.seq .no (.cut [3] [(8, 15)] (.seq .no (.cond .no .no)) (.seq .no (.seq (.block (.loop [3, 4] [(16, 26)] (.seq (.seq .no (.cond .no .no)) (.block (.seq .no .no))))) (.seq .no .no))))))
theorem F12_eq (x0 : Value) (R : Value → World → Prop) (w0 : World) : F12 x0 R w0 = vc Try.prog (bodyOf Try.f12) a12 (retQ Try.prog Try.f12 R) (envOf 0 [x0]) w0 := by kernel_rfl
theorem F12_calls (x0 : Value) (R : Value → World → Prop) (w0 : World) (h : F12 x0 R w0) : CallK Try.prog 12 #[x0] R w0 :=
  calls_vc (c := bodyOf Try.f12) Try.func12 (by kernel_rfl) (by kernel_rfl) a12 (by kernel_rfl) (by kernel_rfl) [x0] (by rw [Try.ntmps12]; exact Nat.le_of_ble_eq_true rfl) w0 R ((F12_eq x0 R w0).mp h)

/-- (*canton/codec.Enc).Bytes, its body as a formula. -/
def F13 (x0 : Value) (R : Value → World → Prop) (w0 : World) : Prop :=
  NilK Try.prog x0 (@hid _ ⟨fun t4_1 w2 =>
  FieldAtK Try.prog 27 t4_1 0 (@hid _ ⟨fun t5_3 w4 =>
  LoadK Try.prog 25 t5_3 (@hid _ ⟨fun t6_5 w6 =>
  CallV Try.prog (.func (.func 29) #[] #[]) #[t6_5] (@hid _ ⟨fun t7_7 w8 =>
  CallV Try.prog (.func (.func 28) #[] #[]) #[t7_7] (@hid _ ⟨fun t8_9 w10 =>
  R t8_9 w10⟩) w8⟩) w6⟩) w4⟩) w2⟩) w0
def a13 : Ann := (.seq .no (.seq .no .no))
theorem F13_eq (x0 : Value) (R : Value → World → Prop) (w0 : World) : F13 x0 R w0 = vc Try.prog (bodyOf Try.f13) a13 (retQ Try.prog Try.f13 R) (envOf 0 [x0]) w0 := by kernel_rfl
theorem F13_calls (x0 : Value) (R : Value → World → Prop) (w0 : World) (h : F13 x0 R w0) : CallK Try.prog 13 #[x0] R w0 :=
  calls_vc (c := bodyOf Try.f13) Try.func13 (by kernel_rfl) (by kernel_rfl) a13 (by kernel_rfl) (by kernel_rfl) [x0] (by rw [Try.ntmps13]; exact Nat.le_of_ble_eq_true rfl) w0 R ((F13_eq x0 R w0).mp h)

/-- canton/codec.Of, its body as a formula. -/
def F14 (x0 : Value) (R : Value → World → Prop) (w0 : World) : Prop :=
  CallV Try.prog (.func (.func 29) #[] #[]) #[x0] (@hid _ ⟨fun t4_1 w2 =>
  BuildK Try.prog 63 #[(0, t4_1)] (@hid _ ⟨fun t5_3 w4 =>
  BoxK Try.prog 63 t5_3 (@hid _ ⟨fun t6_5 w6 =>
  R t6_5 w6⟩) w4⟩) w2⟩) w0
def a14 : Ann := (.seq .no (.seq .no .no))
theorem F14_eq (x0 : Value) (R : Value → World → Prop) (w0 : World) : F14 x0 R w0 = vc Try.prog (bodyOf Try.f14) a14 (retQ Try.prog Try.f14 R) (envOf 0 [x0]) w0 := by kernel_rfl
theorem F14_calls (x0 : Value) (R : Value → World → Prop) (w0 : World) (h : F14 x0 R w0) : CallK Try.prog 14 #[x0] R w0 :=
  calls_vc (c := bodyOf Try.f14) Try.func14 (by kernel_rfl) (by kernel_rfl) a14 (by kernel_rfl) (by kernel_rfl) [x0] (by rw [Try.ntmps14]; exact Nat.le_of_ble_eq_true rfl) w0 R ((F14_eq x0 R w0).mp h)

/-- (*canton/codec.Dec).Text, its body as a formula. -/
def F15 (x0 : Value) (R : Value → World → Prop) (w0 : World) : Prop :=
  CallV Try.prog (.func (.func 16) #[] #[]) #[x0] (@hid _ ⟨fun t6_1 w2 =>
  NilK Try.prog x0 (@hid _ ⟨fun t9_3 w4 =>
  FieldAtK Try.prog 63 t9_3 1 (@hid _ ⟨fun t10_5 w6 =>
  LoadK Try.prog 40 t10_5 (@hid _ ⟨fun t11_7 w8 =>
  BinK Try.prog Go.BinOp.neq 40 t11_7 (Go.Value.int Go.IntKind.i64 0) (@hid _ ⟨fun t12_9 w10 =>
  BrK t12_9 (@hid _ ⟨
   R (Go.Value.string { data := #[] }) w10⟩) (@hid _ ⟨
   BinK Try.prog Go.BinOp.lss 2 t6_1 (Go.Value.int Go.IntKind.i64 0) (@hid _ ⟨fun t15_11 w12 =>
   BrK t15_11 (@hid _ ⟨
    NilK Try.prog x0 (@hid _ ⟨fun t17_13 w14 =>
    FieldAtK Try.prog 63 t17_13 1 (@hid _ ⟨fun t18_15 w16 =>
    StoreK Try.prog 40 t18_15 (Go.Value.int Go.IntKind.i64 2) (@hid _ ⟨fun tu_17 w18 =>
    R (Go.Value.string { data := #[] }) w18⟩) w16⟩) w14⟩) w12⟩) (@hid _ ⟨
    NilK Try.prog x0 (@hid _ ⟨fun t22_19 w20 =>
    FieldAtK Try.prog 63 t22_19 0 (@hid _ ⟨fun t23_21 w22 =>
    LoadK Try.prog 25 t23_21 (@hid _ ⟨fun t24_23 w24 =>
    BuiltinK Try.prog Go.Builtin.len #[25] 3 #[false] #[t24_23] (@hid _ ⟨fun t25_25 w26 =>
    BinK Try.prog Go.BinOp.gtr 2 t6_1 t25_25 (@hid _ ⟨fun t26_27 w28 =>
    BrK t26_27 (@hid _ ⟨
     NilK Try.prog x0 (@hid _ ⟨fun t28_29 w30 =>
     FieldAtK Try.prog 63 t28_29 1 (@hid _ ⟨fun t29_31 w32 =>
     StoreK Try.prog 40 t29_31 (Go.Value.int Go.IntKind.i64 3) (@hid _ ⟨fun tu_33 w34 =>
     R (Go.Value.string { data := #[] }) w34⟩) w32⟩) w30⟩) w28⟩) (@hid _ ⟨
     NilK Try.prog x0 (@hid _ ⟨fun t31_35 w36 =>
     FieldAtK Try.prog 63 t31_35 0 (@hid _ ⟨fun t32_37 w38 =>
     LoadK Try.prog 25 t32_37 (@hid _ ⟨fun t33_39 w40 =>
     SliceK Try.prog 25 t33_39 none (some t6_1) none (@hid _ ⟨fun t35_41 w42 =>
     ConvK Try.prog 25 9 t35_41 (@hid _ ⟨fun t36_43 w44 =>
     NilK Try.prog x0 (@hid _ ⟨fun t39_45 w46 =>
     FieldAtK Try.prog 63 t39_45 0 (@hid _ ⟨fun t40_47 w48 =>
     LoadK Try.prog 25 t40_47 (@hid _ ⟨fun t41_49 w50 =>
     SliceK Try.prog 25 t41_49 (some t6_1) none none (@hid _ ⟨fun t43_51 w52 =>
     NilK Try.prog x0 (@hid _ ⟨fun t44_53 w54 =>
     FieldAtK Try.prog 63 t44_53 0 (@hid _ ⟨fun t45_55 w56 =>
     StoreK Try.prog 25 t45_55 t43_51 (@hid _ ⟨fun tu_57 w58 =>
     R t36_43 w58⟩) w56⟩) w54⟩) w52⟩) w50⟩) w48⟩) w46⟩) w44⟩) w42⟩) w40⟩) w38⟩) w36⟩) w28⟩)⟩) w26⟩) w24⟩) w22⟩) w20⟩) w12⟩)⟩) w10⟩)⟩) w8⟩) w6⟩) w4⟩) w2⟩) w0
def a15 : Ann := (.seq .no (.seq .no (.seq (.block (.seq .no (.cond (.seq .no .no) (.seq .no (.cond (.seq .no (.seq .no .no)) (.seq .no (.cond (.seq .no (.seq .no .no)) .no))))))) (.seq .no (.seq .no (.seq .no .no))))))
theorem F15_eq (x0 : Value) (R : Value → World → Prop) (w0 : World) : F15 x0 R w0 = vc Try.prog (bodyOf Try.f15) a15 (retQ Try.prog Try.f15 R) (envOf 0 [x0]) w0 := by kernel_rfl
theorem F15_calls (x0 : Value) (R : Value → World → Prop) (w0 : World) (h : F15 x0 R w0) : CallK Try.prog 15 #[x0] R w0 :=
  calls_vc (c := bodyOf Try.f15) Try.func15 (by kernel_rfl) (by kernel_rfl) a15 (by kernel_rfl) (by kernel_rfl) [x0] (by rw [Try.ntmps15]; exact Nat.le_of_ble_eq_true rfl) w0 R ((F15_eq x0 R w0).mp h)

/-- (*canton/codec.Dec).Int, its body as a formula. -/
def F16 (x0 : Value) (R : Value → World → Prop) (w0 : World) : Prop :=
  NilK Try.prog x0 (@hid _ ⟨fun t6_1 w2 =>
  FieldAtK Try.prog 63 t6_1 1 (@hid _ ⟨fun t7_3 w4 =>
  LoadK Try.prog 40 t7_3 (@hid _ ⟨fun t8_5 w6 =>
  BinK Try.prog Go.BinOp.neq 40 t8_5 (Go.Value.int Go.IntKind.i64 0) (@hid _ ⟨fun t9_7 w8 =>
  BrK t9_7 (@hid _ ⟨
   R (Go.Value.int Go.IntKind.i64 0) w8⟩) (@hid _ ⟨
   CallV Try.prog (.func (.func 30) #[] #[]) #[x0] (@hid _ ⟨fun t12_9 w10 =>
   ExtractK Try.prog t12_9 0 (@hid _ ⟨fun t13_11 w12 =>
   ExtractK Try.prog t12_9 1 (@hid _ ⟨fun t14_13 w14 =>
   BinK Try.prog Go.BinOp.neq 40 t14_13 (Go.Value.int Go.IntKind.i64 0) (@hid _ ⟨fun t16_15 w16 =>
   BrK t16_15 (@hid _ ⟨
    NilK Try.prog x0 (@hid _ ⟨fun t19_17 w18 =>
    FieldAtK Try.prog 63 t19_17 1 (@hid _ ⟨fun t20_19 w20 =>
    StoreK Try.prog 40 t20_19 t14_13 (@hid _ ⟨fun tu_21 w22 =>
    R (Go.Value.int Go.IntKind.i64 0) w22⟩) w20⟩) w18⟩) w16⟩) (@hid _ ⟨
    BinK Try.prog Go.BinOp.shr 61 t13_11 (Go.Value.int Go.IntKind.u64 1) (@hid _ ⟨fun t22_23 w24 =>
    ConvK Try.prog 61 2 t22_23 (@hid _ ⟨fun t23_25 w26 =>
    BinK Try.prog Go.BinOp.and 61 t13_11 (Go.Value.int Go.IntKind.u64 1) (@hid _ ⟨fun t25_27 w28 =>
    ConvK Try.prog 61 2 t25_27 (@hid _ ⟨fun t26_29 w30 =>
    UnK Try.prog Go.UnOp.neg t26_29 (@hid _ ⟨fun t27_31 w32 =>
    BinK Try.prog Go.BinOp.xor 2 t23_25 t27_31 (@hid _ ⟨fun t28_33 w34 =>
    R t28_33 w34⟩) w32⟩) w30⟩) w28⟩) w26⟩) w24⟩) w16⟩)⟩) w14⟩) w12⟩) w10⟩) w8⟩)⟩) w6⟩) w4⟩) w2⟩) w0
def a16 : Ann := (.seq .no (.seq (.seq .no (.cond (.seq .no .no) .no)) (.seq .no (.seq (.seq .no (.cond (.seq .no (.seq .no .no)) .no)) (.seq .no .no)))))
theorem F16_eq (x0 : Value) (R : Value → World → Prop) (w0 : World) : F16 x0 R w0 = vc Try.prog (bodyOf Try.f16) a16 (retQ Try.prog Try.f16 R) (envOf 0 [x0]) w0 := by kernel_rfl
theorem F16_calls (x0 : Value) (R : Value → World → Prop) (w0 : World) (h : F16 x0 R w0) : CallK Try.prog 16 #[x0] R w0 :=
  calls_vc (c := bodyOf Try.f16) Try.func16 (by kernel_rfl) (by kernel_rfl) a16 (by kernel_rfl) (by kernel_rfl) [x0] (by rw [Try.ntmps16]; exact Nat.le_of_ble_eq_true rfl) w0 R ((F16_eq x0 R w0).mp h)

/-- (*canton/codec.Dec).Left, its body as a formula. -/
def F17 (x0 : Value) (R : Value → World → Prop) (w0 : World) : Prop :=
  NilK Try.prog x0 (@hid _ ⟨fun t4_1 w2 =>
  FieldAtK Try.prog 63 t4_1 1 (@hid _ ⟨fun t5_3 w4 =>
  LoadK Try.prog 40 t5_3 (@hid _ ⟨fun t6_5 w6 =>
  BinK Try.prog Go.BinOp.neq 40 t6_5 (Go.Value.int Go.IntKind.i64 0) (@hid _ ⟨fun t7_7 w8 =>
  BrK t7_7 (@hid _ ⟨
   R (Go.Value.int Go.IntKind.i64 0) w8⟩) (@hid _ ⟨
   NilK Try.prog x0 (@hid _ ⟨fun t9_9 w10 =>
   FieldAtK Try.prog 63 t9_9 0 (@hid _ ⟨fun t10_11 w12 =>
   LoadK Try.prog 25 t10_11 (@hid _ ⟨fun t11_13 w14 =>
   BuiltinK Try.prog Go.Builtin.len #[25] 3 #[false] #[t11_13] (@hid _ ⟨fun t12_15 w16 =>
   R t12_15 w16⟩) w14⟩) w12⟩) w10⟩) w8⟩)⟩) w6⟩) w4⟩) w2⟩) w0
def a17 : Ann := (.seq .no (.seq (.seq .no (.cond (.seq .no .no) .no)) (.seq .no .no)))
theorem F17_eq (x0 : Value) (R : Value → World → Prop) (w0 : World) : F17 x0 R w0 = vc Try.prog (bodyOf Try.f17) a17 (retQ Try.prog Try.f17 R) (envOf 0 [x0]) w0 := by kernel_rfl
theorem F17_calls (x0 : Value) (R : Value → World → Prop) (w0 : World) (h : F17 x0 R w0) : CallK Try.prog 17 #[x0] R w0 :=
  calls_vc (c := bodyOf Try.f17) Try.func17 (by kernel_rfl) (by kernel_rfl) a17 (by kernel_rfl) (by kernel_rfl) [x0] (by rw [Try.ntmps17]; exact Nat.le_of_ble_eq_true rfl) w0 R ((F17_eq x0 R w0).mp h)

/-- (*canton/codec.Dec).Err, its body as a formula. -/
def F18 (x0 : Value) (R : Value → World → Prop) (w0 : World) : Prop :=
  NilK Try.prog x0 (@hid _ ⟨fun t4_1 w2 =>
  FieldAtK Try.prog 63 t4_1 1 (@hid _ ⟨fun t5_3 w4 =>
  LoadK Try.prog 40 t5_3 (@hid _ ⟨fun t6_5 w6 =>
  R t6_5 w6⟩) w4⟩) w2⟩) w0
def a18 : Ann := (.seq .no (.seq .no .no))
theorem F18_eq (x0 : Value) (R : Value → World → Prop) (w0 : World) : F18 x0 R w0 = vc Try.prog (bodyOf Try.f18) a18 (retQ Try.prog Try.f18 R) (envOf 0 [x0]) w0 := by kernel_rfl
theorem F18_calls (x0 : Value) (R : Value → World → Prop) (w0 : World) (h : F18 x0 R w0) : CallK Try.prog 18 #[x0] R w0 :=
  calls_vc (c := bodyOf Try.f18) Try.func18 (by kernel_rfl) (by kernel_rfl) a18 (by kernel_rfl) (by kernel_rfl) [x0] (by rw [Try.ntmps18]; exact Nat.le_of_ble_eq_true rfl) w0 R ((F18_eq x0 R w0).mp h)

/-- canton/codec.Seal, its body as a formula. -/
def F19 (x0 : Value) (R : Value → World → Prop) (w0 : World) : Prop :=
  CallV Try.prog (.func (.func 29) #[] #[]) #[x0] (@hid _ ⟨fun t7_1 w2 =>
  CallV Try.prog (.func (.func 31) #[] #[]) #[x0] (@hid _ ⟨fun t9_3 w4 =>
  LoopK2 t7_1 (Go.Value.int Go.IntKind.i64 0) w4 (@hid _ ⟨fun _ x3_5 x10_6 w7 B8 =>
   BinK Try.prog Go.BinOp.lss 3 x10_6 (Go.Value.int Go.IntKind.i64 4) (@hid _ ⟨fun t11_9 w10 =>
   BrK t11_9 (@hid _ ⟨
    BinK Try.prog Go.BinOp.mul 3 (Go.Value.int Go.IntKind.i64 8) x10_6 (@hid _ ⟨fun t16_11 w12 =>
    BinK Try.prog Go.BinOp.shr 50 t9_3 t16_11 (@hid _ ⟨fun t17_13 w14 =>
    ConvK Try.prog 50 5 t17_13 (@hid _ ⟨fun t18_15 w16 =>
    BuildSliceK Try.prog 25 1 #[(0, t18_15)] (@hid _ ⟨fun t19_17 w18 =>
    BuiltinK Try.prog Go.Builtin.append #[25, 25] 25 #[false, false] #[x3_5, t19_17] (@hid _ ⟨fun t20_19 w20 =>
    BinK Try.prog Go.BinOp.add 3 x10_6 (Go.Value.int Go.IntKind.i64 1) (@hid _ ⟨fun t21_21 w22 =>
    B8 t20_19 t21_21 w22⟩) w20⟩) w18⟩) w16⟩) w14⟩) w12⟩) w10⟩) (@hid _ ⟨
    CallV Try.prog (.func (.func 28) #[] #[]) #[x3_5] (@hid _ ⟨fun t23_23 w24 =>
    R t23_23 w24⟩) w10⟩)⟩) w7⟩)⟩) w2⟩) w0
def a19 : Ann := (.seq .no (.seq .no (.seq (.seq .no (.block (.loop [3, 10] [(5, 5), (11, 21)] (.seq .no (.seq (.cond .no .no) (.seq (.block (.seq .no .no)) .no)))))) (.seq .no .no))))
theorem F19_eq (x0 : Value) (R : Value → World → Prop) (w0 : World) : F19 x0 R w0 = vc Try.prog (bodyOf Try.f19) a19 (retQ Try.prog Try.f19 R) (envOf 0 [x0]) w0 := by kernel_rfl
theorem F19_calls (x0 : Value) (R : Value → World → Prop) (w0 : World) (h : F19 x0 R w0) : CallK Try.prog 19 #[x0] R w0 :=
  calls_vc (c := bodyOf Try.f19) Try.func19 (by kernel_rfl) (by kernel_rfl) a19 (by kernel_rfl) (by kernel_rfl) [x0] (by rw [Try.ntmps19]; exact Nat.le_of_ble_eq_true rfl) w0 R ((F19_eq x0 R w0).mp h)

/-- canton/codec.Open, its body as a formula. -/
def F20 (x0 : Value) (R : Value → World → Prop) (w0 : World) : Prop :=
  BuiltinK Try.prog Go.Builtin.len #[25] 3 #[false] #[x0] (@hid _ ⟨fun t6_1 w2 =>
  BinK Try.prog Go.BinOp.lss 3 t6_1 (Go.Value.int Go.IntKind.i64 4) (@hid _ ⟨fun t7_3 w4 =>
  BrK t7_3 (@hid _ ⟨
   R (.tuple #[(Go.Value.slice none 0 0), (Go.Value.int Go.IntKind.i64 3)]) w4⟩) (@hid _ ⟨
   BuiltinK Try.prog Go.Builtin.len #[25] 3 #[false] #[x0] (@hid _ ⟨fun t10_5 w6 =>
   BinK Try.prog Go.BinOp.sub 3 t10_5 (Go.Value.int Go.IntKind.i64 4) (@hid _ ⟨fun t11_7 w8 =>
   SliceK Try.prog 25 x0 none (some t11_7) none (@hid _ ⟨fun t12_9 w10 =>
   DrawK (@hid _ ⟨fun S11 w12 =>
   TakeS Try.prog S11 (convert 25 9 x0) (@hid _ ⟨fun t17_13 =>
   (CallV Try.prog (.func (.func 19) #[] #[]) #[t12_9] (@hid _ ⟨fun t14_14 w15 =>
   S11 w15 ∧
   (ConvK Try.prog 25 9 t14_14 (@hid _ ⟨fun t15_16 w17 =>
   S11 w17 ∧
   BinT Try.prog S11 Go.BinOp.neq 9 t15_16 t17_13 (@hid _ ⟨fun t18_18 =>
   BrK t18_18 (@hid _ ⟨
    R (.tuple #[(Go.Value.slice none 0 0), (Go.Value.int Go.IntKind.i64 10)]) w17⟩) (@hid _ ⟨
    CallV Try.prog (.func (.func 29) #[] #[]) #[t12_9] (@hid _ ⟨fun t20_19 w20 =>
    CallV Try.prog (.func (.func 28) #[] #[]) #[t20_19] (@hid _ ⟨fun t21_21 w22 =>
    R (.tuple #[t21_21, (Go.Value.int Go.IntKind.i64 0)]) w22⟩) w20⟩) w17⟩)⟩)⟩) w15) ∧
   True⟩) w12) ∧
   True⟩)⟩) w10⟩) w8⟩) w6⟩) w4⟩)⟩) w2⟩) w0
def a20 : Ann := (.seq .no (.seq (.seq .no (.cond (.seq .no .no) .no)) (.seq .no (.seq (.seq (.plan (.take 0 (.take 3 (.take 4 (.alt 1 (.alt 2 (.take 5 .done) .nil) .nil))))) (.cond (.seq .no .no) .no)) (.seq .no .no)))))
theorem F20_eq (x0 : Value) (R : Value → World → Prop) (w0 : World) : F20 x0 R w0 = vc Try.prog (bodyOf Try.f20) a20 (retQ Try.prog Try.f20 R) (envOf 0 [x0]) w0 := by kernel_rfl
theorem F20_calls (x0 : Value) (R : Value → World → Prop) (w0 : World) (h : F20 x0 R w0) : CallK Try.prog 20 #[x0] R w0 :=
  calls_vc (c := bodyOf Try.f20) Try.func20 (by kernel_rfl) (by kernel_rfl) a20 (by kernel_rfl) (by kernel_rfl) [x0] (by rw [Try.ntmps20]; exact Nat.le_of_ble_eq_true rfl) w0 R ((F20_eq x0 R w0).mp h)

/-- canton/cantonref7.Open, its body as a formula. -/
def F21 (x0 : Value) (R : Value → World → Prop) (w0 : World) : Prop :=
  BuiltinK Try.prog Go.Builtin.len #[25] 3 #[false] #[x0] (@hid _ ⟨fun t6_1 w2 =>
  BinK Try.prog Go.BinOp.sub 3 t6_1 (Go.Value.int Go.IntKind.i64 4) (@hid _ ⟨fun t7_3 w4 =>
  BinK Try.prog Go.BinOp.lss 3 t7_3 (Go.Value.int Go.IntKind.i64 0) (@hid _ ⟨fun t9_5 w6 =>
  BrK t9_5 (@hid _ ⟨
   R (.tuple #[(Go.Value.slice none 0 0), (Go.Value.int Go.IntKind.i64 3)]) w6⟩) (@hid _ ⟨
   DrawK (@hid _ ⟨fun S7 w8 =>
   TakeS Try.prog S7 (Instr.sliceAt 25 x0 none (some t7_3) none) (@hid _ ⟨fun t12_9 =>
   TakeS Try.prog S7 (convert 25 9 x0) (@hid _ ⟨fun t16_10 =>
   (CallV Try.prog (.func (.func 22) #[] #[]) #[t12_9] (@hid _ ⟨fun t13_11 w12 =>
   S7 w12 ∧
   (ConvK Try.prog 25 9 t13_11 (@hid _ ⟨fun t14_13 w14 =>
   S7 w14 ∧
   BinT Try.prog S7 Go.BinOp.neq 9 t14_13 t16_10 (@hid _ ⟨fun t17_15 =>
   BrK t17_15 (@hid _ ⟨
    R (.tuple #[(Go.Value.slice none 0 0), (Go.Value.int Go.IntKind.i64 10)]) w14⟩) (@hid _ ⟨
    BuildSliceK Try.prog 25 0 #[] (@hid _ ⟨fun t18_16 w17 =>
    SliceK Try.prog 25 x0 none (some t7_3) none (@hid _ ⟨fun t21_18 w19 =>
    BuiltinK Try.prog Go.Builtin.append #[25, 25] 25 #[false, false] #[t18_16, t21_18] (@hid _ ⟨fun t22_20 w21 =>
    R (.tuple #[t22_20, (Go.Value.int Go.IntKind.i64 0)]) w21⟩) w19⟩) w17⟩) w14⟩)⟩)⟩) w12) ∧
   True⟩) w8) ∧
   True⟩)⟩)⟩) w6⟩)⟩) w4⟩) w2⟩) w0
def a21 : Ann := (.seq .no (.seq .no (.seq (.seq .no (.cond (.seq .no .no) .no)) (.seq (.seq (.plan (.take 0 (.take 1 (.take 2 (.take 5 (.take 6 (.alt 3 (.alt 4 (.take 7 .done) .nil) .nil))))))) (.cond (.seq .no .no) .no)) (.seq .no .no)))))
theorem F21_eq (x0 : Value) (R : Value → World → Prop) (w0 : World) : F21 x0 R w0 = vc Try.prog (bodyOf Try.f21) a21 (retQ Try.prog Try.f21 R) (envOf 0 [x0]) w0 := by kernel_rfl
theorem F21_calls (x0 : Value) (R : Value → World → Prop) (w0 : World) (h : F21 x0 R w0) : CallK Try.prog 21 #[x0] R w0 :=
  calls_vc (c := bodyOf Try.f21) Try.func21 (by kernel_rfl) (by kernel_rfl) a21 (by kernel_rfl) (by kernel_rfl) [x0] (by rw [Try.ntmps21]; exact Nat.le_of_ble_eq_true rfl) w0 R ((F21_eq x0 R w0).mp h)

/-- canton/cantonref7.Seal, its body as a formula. -/
def F22 (x0 : Value) (R : Value → World → Prop) (w0 : World) : Prop :=
  CallV Try.prog (.func (.func 32) #[] #[]) #[x0] (@hid _ ⟨fun t5_1 w2 =>
  BuildSliceK Try.prog 25 0 #[] (@hid _ ⟨fun t6_3 w4 =>
  BuiltinK Try.prog Go.Builtin.append #[25, 25] 25 #[false, false] #[t6_3, x0] (@hid _ ⟨fun t8_5 w6 =>
  ConvK Try.prog 50 5 t5_1 (@hid _ ⟨fun t10_7 w8 =>
  BinK Try.prog Go.BinOp.shr 50 t5_1 (Go.Value.int Go.IntKind.u64 8) (@hid _ ⟨fun t12_9 w10 =>
  ConvK Try.prog 50 5 t12_9 (@hid _ ⟨fun t13_11 w12 =>
  BinK Try.prog Go.BinOp.shr 50 t5_1 (Go.Value.int Go.IntKind.u64 16) (@hid _ ⟨fun t15_13 w14 =>
  ConvK Try.prog 50 5 t15_13 (@hid _ ⟨fun t16_15 w16 =>
  BinK Try.prog Go.BinOp.shr 50 t5_1 (Go.Value.int Go.IntKind.u64 24) (@hid _ ⟨fun t18_17 w18 =>
  ConvK Try.prog 50 5 t18_17 (@hid _ ⟨fun t19_19 w20 =>
  BuildSliceK Try.prog 25 4 #[(0, t10_7), (1, t13_11), (2, t16_15), (3, t19_19)] (@hid _ ⟨fun t20_21 w22 =>
  BuiltinK Try.prog Go.Builtin.append #[25, 25] 25 #[false, false] #[t8_5, t20_21] (@hid _ ⟨fun t21_23 w24 =>
  R t21_23 w24⟩) w22⟩) w20⟩) w18⟩) w16⟩) w14⟩) w12⟩) w10⟩) w8⟩) w6⟩) w4⟩) w2⟩) w0
def a22 : Ann := (.seq .no (.seq .no (.seq .no .no)))
theorem F22_eq (x0 : Value) (R : Value → World → Prop) (w0 : World) : F22 x0 R w0 = vc Try.prog (bodyOf Try.f22) a22 (retQ Try.prog Try.f22 R) (envOf 0 [x0]) w0 := by kernel_rfl
theorem F22_calls (x0 : Value) (R : Value → World → Prop) (w0 : World) (h : F22 x0 R w0) : CallK Try.prog 22 #[x0] R w0 :=
  calls_vc (c := bodyOf Try.f22) Try.func22 (by kernel_rfl) (by kernel_rfl) a22 (by kernel_rfl) (by kernel_rfl) [x0] (by rw [Try.ntmps22]; exact Nat.le_of_ble_eq_true rfl) w0 R ((F22_eq x0 R w0).mp h)

/-- (*canton/cantonref7.Dec).Int, its body as a formula. -/
def F23 (x0 : Value) (R : Value → World → Prop) (w0 : World) : Prop :=
  NilK Try.prog x0 (@hid _ ⟨fun t8_1 w2 =>
  FieldAtK Try.prog 56 t8_1 2 (@hid _ ⟨fun t9_3 w4 =>
  LoadK Try.prog 3 t9_3 (@hid _ ⟨fun t10_5 w6 =>
  BinK Try.prog Go.BinOp.neq 3 t10_5 (Go.Value.int Go.IntKind.i64 0) (@hid _ ⟨fun t11_7 w8 =>
  BrK t11_7 (@hid _ ⟨
   R (Go.Value.int Go.IntKind.i64 0) w8⟩) (@hid _ ⟨
   LoopK2 (Go.Value.int Go.IntKind.u64 0) (Go.Value.int Go.IntKind.i64 0) w8 (@hid _ ⟨fun _ x3_9 x4_10 w11 B12 =>
    BinK Try.prog Go.BinOp.lss 3 x4_10 (Go.Value.int Go.IntKind.i64 10) (@hid _ ⟨fun t13_13 w14 =>
    BrK t13_13 (@hid _ ⟨
     DrawK (@hid _ ⟨fun S15 w16 =>
     TakeO Try.prog S15 (nilSem x0) (@hid _ ⟨fun t17_17 =>
     TakeS Try.prog S15 (Instr.fieldAt 56 t17_17 1) (@hid _ ⟨fun t18_18 =>
     TakeS Try.prog S15 (Instr.loadAt 3 t18_18) (@hid _ ⟨fun t19_19 =>
     BinT Try.prog S15 Go.BinOp.add 3 t19_19 x4_10 (@hid _ ⟨fun t21_20 =>
     TakeO Try.prog S15 (nilSem x0) (@hid _ ⟨fun t23_21 =>
     TakeS Try.prog S15 (Instr.fieldAt 56 t23_21 0) (@hid _ ⟨fun t24_22 =>
     TakeS Try.prog S15 (Instr.loadAt 25 t24_22) (@hid _ ⟨fun t25_23 =>
     TakeO Try.prog S15 (builtin Go.Builtin.len #[25] 3 #[false] #[t25_23]) (@hid _ ⟨fun t26_24 =>
     BinT Try.prog S15 Go.BinOp.eql 3 t21_20 t26_24 (@hid _ ⟨fun t27_25 =>
     BrK t27_25 (@hid _ ⟨
      NilK Try.prog x0 (@hid _ ⟨fun t29_26 w27 =>
      FieldAtK Try.prog 56 t29_26 2 (@hid _ ⟨fun t30_28 w29 =>
      StoreK Try.prog 3 t30_28 (Go.Value.int Go.IntKind.i64 3) (@hid _ ⟨fun tu_30 w31 =>
      R (Go.Value.int Go.IntKind.i64 0) w31⟩) w29⟩) w27⟩) w16⟩) (@hid _ ⟨
      DrawK (@hid _ ⟨fun S32 w33 =>
      TakeO Try.prog S32 (nilSem x0) (@hid _ ⟨fun t32_34 =>
      TakeS Try.prog S32 (Instr.fieldAt 56 t32_34 0) (@hid _ ⟨fun t33_35 =>
      TakeS Try.prog S32 (Instr.loadAt 25 t33_35) (@hid _ ⟨fun t34_36 =>
      TakeO Try.prog S32 (nilSem x0) (@hid _ ⟨fun t36_37 =>
      TakeS Try.prog S32 (Instr.fieldAt 56 t36_37 1) (@hid _ ⟨fun t37_38 =>
      TakeS Try.prog S32 (Instr.loadAt 3 t37_38) (@hid _ ⟨fun t38_39 =>
      BinT Try.prog S32 Go.BinOp.add 3 t38_39 x4_10 (@hid _ ⟨fun t40_40 =>
      TakeS Try.prog S32 (Instr.indexAt 25 t34_36 t40_40) (@hid _ ⟨fun t41_41 =>
      TakeS Try.prog S32 (Instr.loadAt 5 t41_41) (@hid _ ⟨fun t42_42 =>
      TakeS Try.prog S32 (convert 5 61 t42_42) (@hid _ ⟨fun t43_43 =>
      BinK Try.prog Go.BinOp.eql 3 x4_10 (Go.Value.int Go.IntKind.i64 9) (@hid _ ⟨fun t45_44 w45 =>
      GuardK t45_44 true (fun k w => k t43_43 w) (@hid _ ⟨fun t47_46 w47 =>
      GuardK t45_44 true (fun k w => BinK Try.prog Go.BinOp.gtr 61 t47_46 (Go.Value.int Go.IntKind.u64 1) k w) (@hid _ ⟨fun t48_48 w49 =>
      PickK Try.prog t45_44 t48_48 (Go.Value.bool false) (@hid _ ⟨fun t49_50 w51 =>
      GuardK t49_50 false (fun k w => k x4_10 w) (@hid _ ⟨fun t51_52 w53 =>
      GuardK t49_50 false (fun k w => BinK Try.prog Go.BinOp.gtr 3 t51_52 (Go.Value.int Go.IntKind.i64 0) k w) (@hid _ ⟨fun t52_54 w55 =>
      GuardK t49_50 false (fun k w => k t52_54 w) (@hid _ ⟨fun t53_56 w57 =>
      GuardK t53_56 true (fun k w => k t43_43 w) (@hid _ ⟨fun t54_58 w59 =>
      GuardK t53_56 true (fun k w => BinK Try.prog Go.BinOp.eql 61 t54_58 (Go.Value.int Go.IntKind.u64 0) k w) (@hid _ ⟨fun t55_60 w61 =>
      GuardK t49_50 false (fun k w => PickK Try.prog t53_56 t55_60 (Go.Value.bool false) k w) (@hid _ ⟨fun t56_62 w63 =>
      PickK Try.prog t49_50 (Go.Value.bool true) t56_62 (@hid _ ⟨fun t57_64 w65 =>
      BrK t57_64 (@hid _ ⟨
       NilK Try.prog x0 (@hid _ ⟨fun t59_66 w67 =>
       FieldAtK Try.prog 56 t59_66 2 (@hid _ ⟨fun t60_68 w69 =>
       StoreK Try.prog 3 t60_68 (Go.Value.int Go.IntKind.i64 2) (@hid _ ⟨fun tu_70 w71 =>
       R (Go.Value.int Go.IntKind.i64 0) w71⟩) w69⟩) w67⟩) w65⟩) (@hid _ ⟨
       BinK Try.prog Go.BinOp.and 61 t43_43 (Go.Value.int Go.IntKind.u64 127) (@hid _ ⟨fun t63_72 w73 =>
       BinK Try.prog Go.BinOp.mul 3 (Go.Value.int Go.IntKind.i64 7) x4_10 (@hid _ ⟨fun t65_74 w75 =>
       ConvK Try.prog 3 51 t65_74 (@hid _ ⟨fun t66_76 w77 =>
       BinK Try.prog Go.BinOp.shl 61 t63_72 t66_76 (@hid _ ⟨fun t67_78 w79 =>
       BinK Try.prog Go.BinOp.or 61 x3_9 t67_78 (@hid _ ⟨fun t68_80 w81 =>
       BinK Try.prog Go.BinOp.lss 61 t43_43 (Go.Value.int Go.IntKind.u64 128) (@hid _ ⟨fun t70_82 w83 =>
       BrK t70_82 (@hid _ ⟨
        NilK Try.prog x0 (@hid _ ⟨fun t73_84 w85 =>
        FieldAtK Try.prog 56 t73_84 1 (@hid _ ⟨fun t74_86 w87 =>
        LoadK Try.prog 3 t74_86 (@hid _ ⟨fun t75_88 w89 =>
        BinK Try.prog Go.BinOp.add 3 t75_88 x4_10 (@hid _ ⟨fun t77_90 w91 =>
        BinK Try.prog Go.BinOp.add 3 t77_90 (Go.Value.int Go.IntKind.i64 1) (@hid _ ⟨fun t78_92 w93 =>
        NilK Try.prog x0 (@hid _ ⟨fun t79_94 w95 =>
        FieldAtK Try.prog 56 t79_94 1 (@hid _ ⟨fun t80_96 w97 =>
        StoreK Try.prog 3 t80_96 t78_92 (@hid _ ⟨fun tu_98 w99 =>
        BinK Try.prog Go.BinOp.shr 61 t68_80 (Go.Value.int Go.IntKind.u64 1) (@hid _ ⟨fun t82_100 w101 =>
        ConvK Try.prog 61 2 t82_100 (@hid _ ⟨fun t83_102 w103 =>
        BinK Try.prog Go.BinOp.and 61 t68_80 (Go.Value.int Go.IntKind.u64 1) (@hid _ ⟨fun t85_104 w105 =>
        BinK Try.prog Go.BinOp.eql 61 t85_104 (Go.Value.int Go.IntKind.u64 1) (@hid _ ⟨fun t86_106 w107 =>
        BrK t86_106 (@hid _ ⟨
         BinK Try.prog Go.BinOp.sub 2 (Go.Value.int Go.IntKind.i64 0) t83_102 (@hid _ ⟨fun t88_108 w109 =>
         BinK Try.prog Go.BinOp.sub 2 t88_108 (Go.Value.int Go.IntKind.i64 1) (@hid _ ⟨fun t89_110 w111 =>
         R t89_110 w111⟩) w109⟩) w107⟩) (@hid _ ⟨
         R t83_102 w107⟩)⟩) w105⟩) w103⟩) w101⟩) w99⟩) w97⟩) w95⟩) w93⟩) w91⟩) w89⟩) w87⟩) w85⟩) w83⟩) (@hid _ ⟨
        BinK Try.prog Go.BinOp.add 3 x4_10 (Go.Value.int Go.IntKind.i64 1) (@hid _ ⟨fun t15_112 w113 =>
        B12 t68_80 t15_112 w113⟩) w83⟩)⟩) w81⟩) w79⟩) w77⟩) w75⟩) w73⟩) w65⟩)⟩) w63⟩) w61⟩) w59⟩) w57⟩) w55⟩) w53⟩) w51⟩) w49⟩) w47⟩) w45⟩) w33⟩)⟩)⟩)⟩)⟩)⟩)⟩)⟩)⟩)⟩)⟩) w16⟩)⟩)⟩)⟩)⟩)⟩)⟩)⟩)⟩)⟩)⟩) w14⟩) (@hid _ ⟨
     R (Go.Value.int Go.IntKind.i64 0) w14⟩)⟩) w11⟩)⟩)⟩) w6⟩) w4⟩) w2⟩) w0
def a23 : Ann := (.seq .no (.seq (.seq .no (.cond (.seq .no .no) .no)) (.seq .no (.seq (.seq .no (.block (.loop [3, 4] [(2, 2), (5, 6), (12, 90)] (.seq (.seq .no (.cond .no .no)) (.seq (.block (.seq (.seq (.plan (.take 0 (.take 1 (.take 2 (.take 3 (.take 4 (.take 5 (.take 6 (.take 7 (.take 8 (.take 9 (.take 10 (.take 11 .done))))))))))))) (.cond (.seq .no (.seq .no .no)) .no)) (.seq (.plan (.take 0 (.take 1 (.take 2 (.take 3 (.take 4 (.take 5 (.take 6 (.take 7 (.take 8 (.take 9 (.take 10 (.take 11 (.take 12 (.take 13 .done))))))))))))))) (.seq (.seq .no (.cond (.seq .no (.seq .no .no)) .no)) (.seq .no (.seq .no (.cond (.seq .no (.seq .no (.seq (.seq .no (.cond (.seq .no .no) .no)) (.seq .no .no)))) .no))))))) .no))))) (.seq .no .no)))))
theorem F23_eq (x0 : Value) (R : Value → World → Prop) (w0 : World) : F23 x0 R w0 = vc Try.prog (bodyOf Try.f23) a23 (retQ Try.prog Try.f23 R) (envOf 0 [x0]) w0 := by kernel_rfl
theorem F23_calls (x0 : Value) (R : Value → World → Prop) (w0 : World) (h : F23 x0 R w0) : CallK Try.prog 23 #[x0] R w0 :=
  calls_vc (c := bodyOf Try.f23) Try.func23 (by kernel_rfl) (by kernel_rfl) a23 (by kernel_rfl) (by kernel_rfl) [x0] (by rw [Try.ntmps23]; exact Nat.le_of_ble_eq_true rfl) w0 R ((F23_eq x0 R w0).mp h)

/-- (*canton/cantonref7.Dec).Text, its body as a formula. -/
def F24 (x0 : Value) (R : Value → World → Prop) (w0 : World) : Prop :=
  CallV Try.prog (.func (.func 23) #[] #[]) #[x0] (@hid _ ⟨fun t6_1 w2 =>
  NilK Try.prog x0 (@hid _ ⟨fun t9_3 w4 =>
  FieldAtK Try.prog 56 t9_3 2 (@hid _ ⟨fun t10_5 w6 =>
  LoadK Try.prog 3 t10_5 (@hid _ ⟨fun t11_7 w8 =>
  BinK Try.prog Go.BinOp.neq 3 t11_7 (Go.Value.int Go.IntKind.i64 0) (@hid _ ⟨fun t12_9 w10 =>
  BrK t12_9 (@hid _ ⟨
   R (Go.Value.string { data := #[] }) w10⟩) (@hid _ ⟨
   BinK Try.prog Go.BinOp.lss 2 t6_1 (Go.Value.int Go.IntKind.i64 0) (@hid _ ⟨fun t15_11 w12 =>
   BrK t15_11 (@hid _ ⟨
    NilK Try.prog x0 (@hid _ ⟨fun t17_13 w14 =>
    FieldAtK Try.prog 56 t17_13 2 (@hid _ ⟨fun t18_15 w16 =>
    StoreK Try.prog 3 t18_15 (Go.Value.int Go.IntKind.i64 2) (@hid _ ⟨fun tu_17 w18 =>
    R (Go.Value.string { data := #[] }) w18⟩) w16⟩) w14⟩) w12⟩) (@hid _ ⟨
    DrawK (@hid _ ⟨fun S19 w20 =>
    TakeO Try.prog S19 (nilSem x0) (@hid _ ⟨fun t22_21 =>
    TakeS Try.prog S19 (Instr.fieldAt 56 t22_21 0) (@hid _ ⟨fun t23_22 =>
    TakeS Try.prog S19 (Instr.loadAt 25 t23_22) (@hid _ ⟨fun t24_23 =>
    TakeO Try.prog S19 (builtin Go.Builtin.len #[25] 3 #[false] #[t24_23]) (@hid _ ⟨fun t25_24 =>
    TakeO Try.prog S19 (nilSem x0) (@hid _ ⟨fun t27_25 =>
    TakeS Try.prog S19 (Instr.fieldAt 56 t27_25 1) (@hid _ ⟨fun t28_26 =>
    TakeS Try.prog S19 (Instr.loadAt 3 t28_26) (@hid _ ⟨fun t29_27 =>
    BinT Try.prog S19 Go.BinOp.sub 3 t25_24 t29_27 (@hid _ ⟨fun t30_28 =>
    BinT Try.prog S19 Go.BinOp.gtr 2 t6_1 t30_28 (@hid _ ⟨fun t31_29 =>
    BrK t31_29 (@hid _ ⟨
     NilK Try.prog x0 (@hid _ ⟨fun t33_30 w31 =>
     FieldAtK Try.prog 56 t33_30 2 (@hid _ ⟨fun t34_32 w33 =>
     StoreK Try.prog 3 t34_32 (Go.Value.int Go.IntKind.i64 3) (@hid _ ⟨fun tu_34 w35 =>
     R (Go.Value.string { data := #[] }) w35⟩) w33⟩) w31⟩) w20⟩) (@hid _ ⟨
     DrawK (@hid _ ⟨fun S36 w37 =>
     TakeO Try.prog S36 (nilSem x0) (@hid _ ⟨fun t36_38 =>
     TakeS Try.prog S36 (Instr.fieldAt 56 t36_38 0) (@hid _ ⟨fun t37_39 =>
     TakeS Try.prog S36 (Instr.loadAt 25 t37_39) (@hid _ ⟨fun t38_40 =>
     TakeO Try.prog S36 (nilSem x0) (@hid _ ⟨fun t40_41 =>
     TakeS Try.prog S36 (Instr.fieldAt 56 t40_41 1) (@hid _ ⟨fun t41_42 =>
     TakeS Try.prog S36 (Instr.loadAt 3 t41_42) (@hid _ ⟨fun t42_43 =>
     TakeO Try.prog S36 (nilSem x0) (@hid _ ⟨fun t44_44 =>
     TakeS Try.prog S36 (Instr.fieldAt 56 t44_44 1) (@hid _ ⟨fun t45_45 =>
     TakeS Try.prog S36 (Instr.loadAt 3 t45_45) (@hid _ ⟨fun t46_46 =>
     BinT Try.prog S36 Go.BinOp.add 3 t46_46 t6_1 (@hid _ ⟨fun t48_47 =>
     TakeS Try.prog S36 (Instr.sliceAt 25 t38_40 (some t42_43) (some t48_47) none) (@hid _ ⟨fun t49_48 =>
     TakeS Try.prog S36 (convert 25 9 t49_48) (@hid _ ⟨fun t50_49 =>
     NilK Try.prog x0 (@hid _ ⟨fun t53_50 w51 =>
     FieldAtK Try.prog 56 t53_50 1 (@hid _ ⟨fun t54_52 w53 =>
     LoadK Try.prog 3 t54_52 (@hid _ ⟨fun t55_54 w55 =>
     BinK Try.prog Go.BinOp.add 3 t55_54 t6_1 (@hid _ ⟨fun t57_56 w57 =>
     NilK Try.prog x0 (@hid _ ⟨fun t58_58 w59 =>
     FieldAtK Try.prog 56 t58_58 1 (@hid _ ⟨fun t59_60 w61 =>
     StoreK Try.prog 3 t59_60 t57_56 (@hid _ ⟨fun tu_62 w63 =>
     R t50_49 w63⟩) w61⟩) w59⟩) w57⟩) w55⟩) w53⟩) w51⟩) w37⟩)⟩)⟩)⟩)⟩)⟩)⟩)⟩)⟩)⟩)⟩)⟩)⟩) w20⟩)⟩)⟩)⟩)⟩)⟩)⟩)⟩)⟩)⟩)⟩) w12⟩)⟩) w10⟩)⟩) w8⟩) w6⟩) w4⟩) w2⟩) w0
def a24 : Ann := (.seq .no (.seq .no (.seq (.block (.seq .no (.cond (.seq .no .no) (.seq .no (.cond (.seq .no (.seq .no .no)) (.seq (.plan (.take 0 (.take 1 (.take 2 (.take 3 (.take 4 (.take 5 (.take 6 (.take 7 (.take 8 (.take 9 (.take 10 (.take 11 (.take 12 .done)))))))))))))) (.cond (.seq .no (.seq .no .no)) .no))))))) (.seq (.plan (.take 0 (.take 1 (.take 2 (.take 3 (.take 4 (.take 5 (.take 6 (.take 7 (.take 8 (.take 9 (.take 10 (.take 11 (.take 12 (.take 13 (.take 14 (.take 15 (.take 16 .done)))))))))))))))))) (.seq .no (.seq .no .no))))))
theorem F24_eq (x0 : Value) (R : Value → World → Prop) (w0 : World) : F24 x0 R w0 = vc Try.prog (bodyOf Try.f24) a24 (retQ Try.prog Try.f24 R) (envOf 0 [x0]) w0 := by kernel_rfl
theorem F24_calls (x0 : Value) (R : Value → World → Prop) (w0 : World) (h : F24 x0 R w0) : CallK Try.prog 24 #[x0] R w0 :=
  calls_vc (c := bodyOf Try.f24) Try.func24 (by kernel_rfl) (by kernel_rfl) a24 (by kernel_rfl) (by kernel_rfl) [x0] (by rw [Try.ntmps24]; exact Nat.le_of_ble_eq_true rfl) w0 R ((F24_eq x0 R w0).mp h)

/-- (*canton/codec.Dec).Many, its body as a formula. -/
def F25 (x0 x1 : Value) (R : Value → World → Prop) (w0 : World) : Prop :=
  CallV Try.prog (.func (.func 16) #[] #[]) #[x0] (@hid _ ⟨fun t7_1 w2 =>
  CutK0 (@hid _ ⟨fun R3 =>
   NilK Try.prog x0 (@hid _ ⟨fun t9_5 w6 =>
   FieldAtK Try.prog 63 t9_5 1 (@hid _ ⟨fun t10_7 w8 =>
   LoadK Try.prog 40 t10_7 (@hid _ ⟨fun t11_9 w10 =>
   BinK Try.prog Go.BinOp.eql 40 t11_9 (Go.Value.int Go.IntKind.i64 0) (@hid _ ⟨fun t12_11 w12 =>
   GuardK t12_11 true (fun k w => k t7_1 w) (@hid _ ⟨fun t14_13 w14 =>
   GuardK t12_11 true (fun k w => BinK Try.prog Go.BinOp.lss 2 t14_13 (Go.Value.int Go.IntKind.i64 0) k w) (@hid _ ⟨fun t15_15 w16 =>
   GuardK t12_11 true (fun k w => k t15_15 w) (@hid _ ⟨fun t16_17 w18 =>
   GuardK t16_17 false (fun k w => k t7_1 w) (@hid _ ⟨fun t17_19 w20 =>
   GuardK t16_17 false (fun k w => k x1 w) (@hid _ ⟨fun t18_21 w22 =>
   GuardK t16_17 false (fun k w => BinK Try.prog Go.BinOp.gtr 2 t17_19 t18_21 k w) (@hid _ ⟨fun t19_23 w24 =>
   GuardK t12_11 true (fun k w => PickK Try.prog t16_17 (Go.Value.bool true) t19_23 k w) (@hid _ ⟨fun t20_25 w26 =>
   PickK Try.prog t12_11 t20_25 (Go.Value.bool false) (@hid _ ⟨fun t21_27 w28 =>
   BrK t21_27 (@hid _ ⟨
    NilK Try.prog x0 (@hid _ ⟨fun t23_29 w30 =>
    FieldAtK Try.prog 63 t23_29 1 (@hid _ ⟨fun t24_31 w32 =>
    StoreK Try.prog 40 t24_31 (Go.Value.int Go.IntKind.i64 2) (@hid _ ⟨fun tu_33 w34 =>
    R3 w34⟩) w32⟩) w30⟩) w28⟩) (@hid _ ⟨
    R3 w28⟩)⟩) w26⟩) w24⟩) w22⟩) w20⟩) w18⟩) w16⟩) w14⟩) w12⟩) w10⟩) w8⟩) w6⟩) w2⟩)
  (@hid _ ⟨fun _ w4 =>
   NilK Try.prog x0 (@hid _ ⟨fun t26_35 w36 =>
   FieldAtK Try.prog 63 t26_35 1 (@hid _ ⟨fun t27_37 w38 =>
   LoadK Try.prog 40 t27_37 (@hid _ ⟨fun t28_39 w40 =>
   BinK Try.prog Go.BinOp.neq 40 t28_39 (Go.Value.int Go.IntKind.i64 0) (@hid _ ⟨fun t29_41 w42 =>
   BrK t29_41 (@hid _ ⟨
    R (Go.Value.int Go.IntKind.i64 0) w42⟩) (@hid _ ⟨
    R t7_1 w42⟩)⟩) w40⟩) w38⟩) w36⟩) w4⟩)⟩) w0
def a25 : Ann := (.seq .no (.seq .no (.cut [] [(8, 24)] (.seq .no (.cond .no .no)) (.seq (.seq .no (.cond (.seq .no .no) .no)) (.seq .no .no)))))
theorem F25_eq (x0 x1 : Value) (R : Value → World → Prop) (w0 : World) : F25 x0 x1 R w0 = vc Try.prog (bodyOf Try.f25) a25 (retQ Try.prog Try.f25 R) (envOf 0 [x0, x1]) w0 := by kernel_rfl
theorem F25_calls (x0 x1 : Value) (R : Value → World → Prop) (w0 : World) (h : F25 x0 x1 R w0) : CallK Try.prog 25 #[x0, x1] R w0 :=
  calls_vc (c := bodyOf Try.f25) Try.func25 (by kernel_rfl) (by kernel_rfl) a25 (by kernel_rfl) (by kernel_rfl) [x0, x1] (by rw [Try.ntmps25]; exact Nat.le_of_ble_eq_true rfl) w0 R ((F25_eq x0 x1 R w0).mp h)

/-- (*canton/cantonref7.Dec).Many, its body as a formula. -/
def F26 (x0 x1 : Value) (R : Value → World → Prop) (w0 : World) : Prop :=
  CallV Try.prog (.func (.func 23) #[] #[]) #[x0] (@hid _ ⟨fun t7_1 w2 =>
  CutK0 (@hid _ ⟨fun R3 =>
   NilK Try.prog x0 (@hid _ ⟨fun t9_5 w6 =>
   FieldAtK Try.prog 56 t9_5 2 (@hid _ ⟨fun t10_7 w8 =>
   LoadK Try.prog 3 t10_7 (@hid _ ⟨fun t11_9 w10 =>
   BinK Try.prog Go.BinOp.eql 3 t11_9 (Go.Value.int Go.IntKind.i64 0) (@hid _ ⟨fun t12_11 w12 =>
   GuardK t12_11 true (fun k w => k t7_1 w) (@hid _ ⟨fun t14_13 w14 =>
   GuardK t12_11 true (fun k w => BinK Try.prog Go.BinOp.lss 2 t14_13 (Go.Value.int Go.IntKind.i64 0) k w) (@hid _ ⟨fun t15_15 w16 =>
   GuardK t12_11 true (fun k w => k t15_15 w) (@hid _ ⟨fun t16_17 w18 =>
   GuardK t16_17 false (fun k w => k t7_1 w) (@hid _ ⟨fun t17_19 w20 =>
   GuardK t16_17 false (fun k w => k x1 w) (@hid _ ⟨fun t18_21 w22 =>
   GuardK t16_17 false (fun k w => BinK Try.prog Go.BinOp.gtr 2 t17_19 t18_21 k w) (@hid _ ⟨fun t19_23 w24 =>
   GuardK t12_11 true (fun k w => PickK Try.prog t16_17 (Go.Value.bool true) t19_23 k w) (@hid _ ⟨fun t20_25 w26 =>
   PickK Try.prog t12_11 t20_25 (Go.Value.bool false) (@hid _ ⟨fun t21_27 w28 =>
   BrK t21_27 (@hid _ ⟨
    NilK Try.prog x0 (@hid _ ⟨fun t23_29 w30 =>
    FieldAtK Try.prog 56 t23_29 2 (@hid _ ⟨fun t24_31 w32 =>
    StoreK Try.prog 3 t24_31 (Go.Value.int Go.IntKind.i64 2) (@hid _ ⟨fun tu_33 w34 =>
    R3 w34⟩) w32⟩) w30⟩) w28⟩) (@hid _ ⟨
    R3 w28⟩)⟩) w26⟩) w24⟩) w22⟩) w20⟩) w18⟩) w16⟩) w14⟩) w12⟩) w10⟩) w8⟩) w6⟩) w2⟩)
  (@hid _ ⟨fun _ w4 =>
   NilK Try.prog x0 (@hid _ ⟨fun t26_35 w36 =>
   FieldAtK Try.prog 56 t26_35 2 (@hid _ ⟨fun t27_37 w38 =>
   LoadK Try.prog 3 t27_37 (@hid _ ⟨fun t28_39 w40 =>
   BinK Try.prog Go.BinOp.neq 3 t28_39 (Go.Value.int Go.IntKind.i64 0) (@hid _ ⟨fun t29_41 w42 =>
   BrK t29_41 (@hid _ ⟨
    R (Go.Value.int Go.IntKind.i64 0) w42⟩) (@hid _ ⟨
    R t7_1 w42⟩)⟩) w40⟩) w38⟩) w36⟩) w4⟩)⟩) w0
def a26 : Ann := (.seq .no (.seq .no (.cut [] [(8, 24)] (.seq .no (.cond .no .no)) (.seq (.seq .no (.cond (.seq .no .no) .no)) (.seq .no .no)))))
theorem F26_eq (x0 x1 : Value) (R : Value → World → Prop) (w0 : World) : F26 x0 x1 R w0 = vc Try.prog (bodyOf Try.f26) a26 (retQ Try.prog Try.f26 R) (envOf 0 [x0, x1]) w0 := by kernel_rfl
theorem F26_calls (x0 x1 : Value) (R : Value → World → Prop) (w0 : World) (h : F26 x0 x1 R w0) : CallK Try.prog 26 #[x0, x1] R w0 :=
  calls_vc (c := bodyOf Try.f26) Try.func26 (by kernel_rfl) (by kernel_rfl) a26 (by kernel_rfl) (by kernel_rfl) [x0, x1] (by rw [Try.ntmps26]; exact Nat.le_of_ble_eq_true rfl) w0 R ((F26_eq x0 x1 R w0).mp h)

/-- (*canton/cantonref7.Dec).Left, its body as a formula. -/
def F27 (x0 : Value) (R : Value → World → Prop) (w0 : World) : Prop :=
  NilK Try.prog x0 (@hid _ ⟨fun t4_1 w2 =>
  FieldAtK Try.prog 56 t4_1 2 (@hid _ ⟨fun t5_3 w4 =>
  LoadK Try.prog 3 t5_3 (@hid _ ⟨fun t6_5 w6 =>
  BinK Try.prog Go.BinOp.neq 3 t6_5 (Go.Value.int Go.IntKind.i64 0) (@hid _ ⟨fun t7_7 w8 =>
  BrK t7_7 (@hid _ ⟨
   R (Go.Value.int Go.IntKind.i64 0) w8⟩) (@hid _ ⟨
   DrawK (@hid _ ⟨fun S9 w10 =>
   TakeO Try.prog S9 (nilSem x0) (@hid _ ⟨fun t9_11 =>
   TakeS Try.prog S9 (Instr.fieldAt 56 t9_11 0) (@hid _ ⟨fun t10_12 =>
   TakeS Try.prog S9 (Instr.loadAt 25 t10_12) (@hid _ ⟨fun t11_13 =>
   TakeO Try.prog S9 (builtin Go.Builtin.len #[25] 3 #[false] #[t11_13]) (@hid _ ⟨fun t12_14 =>
   TakeO Try.prog S9 (nilSem x0) (@hid _ ⟨fun t14_15 =>
   TakeS Try.prog S9 (Instr.fieldAt 56 t14_15 1) (@hid _ ⟨fun t15_16 =>
   TakeS Try.prog S9 (Instr.loadAt 3 t15_16) (@hid _ ⟨fun t16_17 =>
   BinT Try.prog S9 Go.BinOp.sub 3 t12_14 t16_17 (@hid _ ⟨fun t17_18 =>
   R t17_18 w10⟩)⟩)⟩)⟩)⟩)⟩)⟩)⟩)⟩) w8⟩)⟩) w6⟩) w4⟩) w2⟩) w0
def a27 : Ann := (.seq .no (.seq (.seq .no (.cond (.seq .no .no) .no)) (.seq (.plan (.take 0 (.take 1 (.take 2 (.take 3 (.take 4 (.take 5 (.take 6 (.take 7 (.take 8 (.take 9 (.take 10 .done)))))))))))) .no)))
theorem F27_eq (x0 : Value) (R : Value → World → Prop) (w0 : World) : F27 x0 R w0 = vc Try.prog (bodyOf Try.f27) a27 (retQ Try.prog Try.f27 R) (envOf 0 [x0]) w0 := by kernel_rfl
theorem F27_calls (x0 : Value) (R : Value → World → Prop) (w0 : World) (h : F27 x0 R w0) : CallK Try.prog 27 #[x0] R w0 :=
  calls_vc (c := bodyOf Try.f27) Try.func27 (by kernel_rfl) (by kernel_rfl) a27 (by kernel_rfl) (by kernel_rfl) [x0] (by rw [Try.ntmps27]; exact Nat.le_of_ble_eq_true rfl) w0 R ((F27_eq x0 R w0).mp h)

/-- slices.Clip[[]byte,byte], its body as a formula. -/
def F28 (x0 : Value) (R : Value → World → Prop) (w0 : World) : Prop :=
  BuiltinK Try.prog Go.Builtin.len #[25] 3 #[false] #[x0] (@hid _ ⟨fun t5_1 w2 =>
  BuiltinK Try.prog Go.Builtin.len #[25] 3 #[false] #[x0] (@hid _ ⟨fun t7_3 w4 =>
  SliceK Try.prog 25 x0 none (some t5_1) (some t7_3) (@hid _ ⟨fun t8_5 w6 =>
  R t8_5 w6⟩) w4⟩) w2⟩) w0
def a28 : Ann := (.seq .no (.seq .no .no))
theorem F28_eq (x0 : Value) (R : Value → World → Prop) (w0 : World) : F28 x0 R w0 = vc Try.prog (bodyOf Try.f28) a28 (retQ Try.prog Try.f28 R) (envOf 0 [x0]) w0 := by kernel_rfl
theorem F28_calls (x0 : Value) (R : Value → World → Prop) (w0 : World) (h : F28 x0 R w0) : CallK Try.prog 28 #[x0] R w0 :=
  calls_vc (c := bodyOf Try.f28) Try.func28 (by kernel_rfl) (by kernel_rfl) a28 (by kernel_rfl) (by kernel_rfl) [x0] (by rw [Try.ntmps28]; exact Nat.le_of_ble_eq_true rfl) w0 R ((F28_eq x0 R w0).mp h)

/-- slices.Clone[[]byte,byte], its body as a formula. -/
def F29 (x0 : Value) (R : Value → World → Prop) (w0 : World) : Prop :=
  BinK Try.prog Go.BinOp.eql 25 x0 (Go.Value.slice none 0 0) (@hid _ ⟨fun t4_1 w2 =>
  BrK t4_1 (@hid _ ⟨
   R (Go.Value.slice none 0 0) w2⟩) (@hid _ ⟨
   BuildSliceK Try.prog 25 0 #[] (@hid _ ⟨fun t5_3 w4 =>
   BuiltinK Try.prog Go.Builtin.append #[25, 25] 25 #[false, false] #[t5_3, x0] (@hid _ ⟨fun t7_5 w6 =>
   R t7_5 w6⟩) w4⟩) w2⟩)⟩) w0
def a29 : Ann := (.seq .no (.seq (.seq .no (.cond (.seq .no .no) .no)) (.seq .no .no)))
theorem F29_eq (x0 : Value) (R : Value → World → Prop) (w0 : World) : F29 x0 R w0 = vc Try.prog (bodyOf Try.f29) a29 (retQ Try.prog Try.f29 R) (envOf 0 [x0]) w0 := by kernel_rfl
theorem F29_calls (x0 : Value) (R : Value → World → Prop) (w0 : World) (h : F29 x0 R w0) : CallK Try.prog 29 #[x0] R w0 :=
  calls_vc (c := bodyOf Try.f29) Try.func29 (by kernel_rfl) (by kernel_rfl) a29 (by kernel_rfl) (by kernel_rfl) [x0] (by rw [Try.ntmps29]; exact Nat.le_of_ble_eq_true rfl) w0 R ((F29_eq x0 R w0).mp h)

/-- (*canton/codec.Dec).number, its body as a formula. -/
def F30 (x0 : Value) (R : Value → World → Prop) (w0 : World) : Prop :=
  NilK Try.prog x0 (@hid _ ⟨fun t8_1 w2 =>
  FieldAtK Try.prog 63 t8_1 0 (@hid _ ⟨fun t9_3 w4 =>
  LoadK Try.prog 25 t9_3 (@hid _ ⟨fun t10_5 w6 =>
  BuiltinK Try.prog Go.Builtin.len #[25] 3 #[false] #[t10_5] (@hid _ ⟨fun t11_7 w8 =>
  LoopK2 (Go.Value.int Go.IntKind.u64 0) (Go.Value.int Go.IntKind.i64 0) w8 (@hid _ ⟨fun _ x4_9 x12_10 w11 B12 =>
   BinK Try.prog Go.BinOp.lss 3 x12_10 t11_7 (@hid _ ⟨fun t13_13 w14 =>
   BrK t13_13 (@hid _ ⟨
    IndexAtK Try.prog 25 t10_5 x12_10 (@hid _ ⟨fun t15_15 w16 =>
    LoadK Try.prog 5 t15_15 (@hid _ ⟨fun t16_17 w18 =>
    BinK Try.prog Go.BinOp.eql 3 x12_10 (Go.Value.int Go.IntKind.i64 9) (@hid _ ⟨fun t18_19 w20 =>
    GuardK t18_19 true (fun k w => k t16_17 w) (@hid _ ⟨fun t20_21 w22 =>
    GuardK t18_19 true (fun k w => BinK Try.prog Go.BinOp.gtr 5 t20_21 (Go.Value.int Go.IntKind.u8 1) k w) (@hid _ ⟨fun t21_23 w24 =>
    PickK Try.prog t18_19 t21_23 (Go.Value.bool false) (@hid _ ⟨fun t22_25 w26 =>
    GuardK t22_25 false (fun k w => k x12_10 w) (@hid _ ⟨fun t24_27 w28 =>
    GuardK t22_25 false (fun k w => BinK Try.prog Go.BinOp.gtr 3 t24_27 (Go.Value.int Go.IntKind.i64 0) k w) (@hid _ ⟨fun t25_29 w30 =>
    GuardK t22_25 false (fun k w => k t25_29 w) (@hid _ ⟨fun t26_31 w32 =>
    GuardK t26_31 true (fun k w => k t16_17 w) (@hid _ ⟨fun t27_33 w34 =>
    GuardK t26_31 true (fun k w => BinK Try.prog Go.BinOp.eql 5 t27_33 (Go.Value.int Go.IntKind.u8 0) k w) (@hid _ ⟨fun t28_35 w36 =>
    GuardK t22_25 false (fun k w => PickK Try.prog t26_31 t28_35 (Go.Value.bool false) k w) (@hid _ ⟨fun t29_37 w38 =>
    PickK Try.prog t22_25 (Go.Value.bool true) t29_37 (@hid _ ⟨fun t30_39 w40 =>
    BrK t30_39 (@hid _ ⟨
     R (.tuple #[(Go.Value.int Go.IntKind.u64 0), (Go.Value.int Go.IntKind.i64 2)]) w40⟩) (@hid _ ⟨
     BinK Try.prog Go.BinOp.andNot 5 t16_17 (Go.Value.int Go.IntKind.u8 128) (@hid _ ⟨fun t33_41 w42 =>
     ConvK Try.prog 5 61 t33_41 (@hid _ ⟨fun t34_43 w44 =>
     BinK Try.prog Go.BinOp.mul 3 (Go.Value.int Go.IntKind.i64 7) x12_10 (@hid _ ⟨fun t36_45 w46 =>
     BinK Try.prog Go.BinOp.shl 61 t34_43 t36_45 (@hid _ ⟨fun t37_47 w48 =>
     BinK Try.prog Go.BinOp.or 61 x4_9 t37_47 (@hid _ ⟨fun t38_49 w50 =>
     BinK Try.prog Go.BinOp.lss 5 t16_17 (Go.Value.int Go.IntKind.u8 128) (@hid _ ⟨fun t40_51 w52 =>
     BrK t40_51 (@hid _ ⟨
      NilK Try.prog x0 (@hid _ ⟨fun t43_53 w54 =>
      FieldAtK Try.prog 63 t43_53 0 (@hid _ ⟨fun t44_55 w56 =>
      LoadK Try.prog 25 t44_55 (@hid _ ⟨fun t45_57 w58 =>
      BinK Try.prog Go.BinOp.add 3 x12_10 (Go.Value.int Go.IntKind.i64 1) (@hid _ ⟨fun t47_59 w60 =>
      SliceK Try.prog 25 t45_57 (some t47_59) none none (@hid _ ⟨fun t48_61 w62 =>
      NilK Try.prog x0 (@hid _ ⟨fun t49_63 w64 =>
      FieldAtK Try.prog 63 t49_63 0 (@hid _ ⟨fun t50_65 w66 =>
      StoreK Try.prog 25 t50_65 t48_61 (@hid _ ⟨fun tu_67 w68 =>
      R (.tuple #[t38_49, (Go.Value.int Go.IntKind.i64 0)]) w68⟩) w66⟩) w64⟩) w62⟩) w60⟩) w58⟩) w56⟩) w54⟩) w52⟩) (@hid _ ⟨
      BinK Try.prog Go.BinOp.add 3 x12_10 (Go.Value.int Go.IntKind.i64 1) (@hid _ ⟨fun t52_69 w70 =>
      B12 t38_49 t52_69 w70⟩) w52⟩)⟩) w50⟩) w48⟩) w46⟩) w44⟩) w42⟩) w40⟩)⟩) w38⟩) w36⟩) w34⟩) w32⟩) w30⟩) w28⟩) w26⟩) w24⟩) w22⟩) w20⟩) w18⟩) w16⟩) w14⟩) (@hid _ ⟨
    R (.tuple #[(Go.Value.int Go.IntKind.u64 0), (Go.Value.int Go.IntKind.i64 3)]) w14⟩)⟩) w11⟩)⟩) w6⟩) w4⟩) w2⟩) w0
def a30 : Ann := (.seq .no (.seq .no (.seq (.seq .no (.block (.loop [4, 12] [(2, 3), (5, 6), (13, 52)] (.seq .no (.seq (.cond .no .no) (.seq (.block (.seq .no (.seq (.seq .no (.cond (.seq .no .no) .no)) (.seq .no (.seq .no (.cond (.seq .no (.seq .no .no)) .no)))))) .no)))))) (.seq .no .no))))
theorem F30_eq (x0 : Value) (R : Value → World → Prop) (w0 : World) : F30 x0 R w0 = vc Try.prog (bodyOf Try.f30) a30 (retQ Try.prog Try.f30 R) (envOf 0 [x0]) w0 := by kernel_rfl
theorem F30_calls (x0 : Value) (R : Value → World → Prop) (w0 : World) (h : F30 x0 R w0) : CallK Try.prog 30 #[x0] R w0 :=
  calls_vc (c := bodyOf Try.f30) Try.func30 (by kernel_rfl) (by kernel_rfl) a30 (by kernel_rfl) (by kernel_rfl) [x0] (by rw [Try.ntmps30]; exact Nat.le_of_ble_eq_true rfl) w0 R ((F30_eq x0 R w0).mp h)

/-- canton/codec.sum, its body as a formula. -/
def F31 (x0 : Value) (R : Value → World → Prop) (w0 : World) : Prop :=
  BuiltinK Try.prog Go.Builtin.len #[25] 3 #[false] #[x0] (@hid _ ⟨fun t8_1 w2 =>
  LoopK2 (Go.Value.int Go.IntKind.u32 4294967295) (Go.Value.int Go.IntKind.i64 0) w2 (@hid _ ⟨fun _ x3_3 x9_4 w5 B6 =>
   BinK Try.prog Go.BinOp.lss 3 x9_4 t8_1 (@hid _ ⟨fun t10_7 w8 =>
   BrK t10_7 (@hid _ ⟨
    IndexAtK Try.prog 25 x0 x9_4 (@hid _ ⟨fun t11_9 w10 =>
    LoadK Try.prog 5 t11_9 (@hid _ ⟨fun t12_11 w12 =>
    ConvK Try.prog 5 50 t12_11 (@hid _ ⟨fun t15_13 w14 =>
    BinK Try.prog Go.BinOp.xor 50 x3_3 t15_13 (@hid _ ⟨fun t16_15 w16 =>
    LoopK2 t16_15 (Go.Value.int Go.IntKind.i64 0) w16 (@hid _ ⟨fun _ x3_17 x17_18 w19 B20 =>
     BinK Try.prog Go.BinOp.lss 3 x17_18 (Go.Value.int Go.IntKind.i64 8) (@hid _ ⟨fun t18_21 w22 =>
     BrK t18_21 (@hid _ ⟨
      BinK Try.prog Go.BinOp.and 50 x3_17 (Go.Value.int Go.IntKind.u32 1) (@hid _ ⟨fun t20_23 w24 =>
      BinK Try.prog Go.BinOp.shr 50 x3_17 (Go.Value.int Go.IntKind.u64 1) (@hid _ ⟨fun t22_25 w26 =>
      BinK Try.prog Go.BinOp.eql 50 t20_23 (Go.Value.int Go.IntKind.u32 1) (@hid _ ⟨fun t24_27 w28 =>
      BrK t24_27 (@hid _ ⟨
       BinK Try.prog Go.BinOp.xor 50 t22_25 (Go.Value.int Go.IntKind.u32 3988292384) (@hid _ ⟨fun t26_29 w30 =>
       BinK Try.prog Go.BinOp.add 3 x17_18 (Go.Value.int Go.IntKind.i64 1) (@hid _ ⟨fun t27_31 w32 =>
       B20 t26_29 t27_31 w32⟩) w30⟩) w28⟩) (@hid _ ⟨
       BinK Try.prog Go.BinOp.add 3 x17_18 (Go.Value.int Go.IntKind.i64 1) (@hid _ ⟨fun t27_33 w34 =>
       B20 t22_25 t27_33 w34⟩) w28⟩)⟩) w26⟩) w24⟩) w22⟩) (@hid _ ⟨
      BinK Try.prog Go.BinOp.add 3 x9_4 (Go.Value.int Go.IntKind.i64 1) (@hid _ ⟨fun t28_35 w36 =>
      B6 x3_17 t28_35 w36⟩) w22⟩)⟩) w19⟩)⟩) w14⟩) w12⟩) w10⟩) w8⟩) (@hid _ ⟨
    UnK Try.prog Go.UnOp.xor x3_3 (@hid _ ⟨fun t30_37 w38 =>
    R t30_37 w38⟩) w8⟩)⟩) w5⟩)⟩) w0
def a31 : Ann := (.seq .no (.seq .no (.seq (.seq .no (.block (.loop [3, 9] [(5, 6), (10, 28)] (.seq .no (.seq (.cond .no .no) (.seq (.block (.seq .no (.seq .no (.seq .no (.block (.loop [3, 17] [(6, 6), (18, 27)] (.seq .no (.seq (.cond .no .no) (.seq (.block (.seq .no (.seq .no (.seq .no (.cond .no .no))))) .no))))))))) .no)))))) (.seq .no .no))))
theorem F31_eq (x0 : Value) (R : Value → World → Prop) (w0 : World) : F31 x0 R w0 = vc Try.prog (bodyOf Try.f31) a31 (retQ Try.prog Try.f31 R) (envOf 0 [x0]) w0 := by kernel_rfl
theorem F31_calls (x0 : Value) (R : Value → World → Prop) (w0 : World) (h : F31 x0 R w0) : CallK Try.prog 31 #[x0] R w0 :=
  calls_vc (c := bodyOf Try.f31) Try.func31 (by kernel_rfl) (by kernel_rfl) a31 (by kernel_rfl) (by kernel_rfl) [x0] (by rw [Try.ntmps31]; exact Nat.le_of_ble_eq_true rfl) w0 R ((F31_eq x0 R w0).mp h)

/-- canton/cantonref7.Sum, its body as a formula. -/
def F32 (x0 : Value) (R : Value → World → Prop) (w0 : World) : Prop :=
  LoopK2 (Go.Value.int Go.IntKind.u32 4294967295) (Go.Value.int Go.IntKind.i64 0) w0 (@hid _ ⟨fun _ x3_1 x4_2 w3 B4 =>
   BuiltinK Try.prog Go.Builtin.len #[25] 3 #[false] #[x0] (@hid _ ⟨fun t9_5 w6 =>
   BinK Try.prog Go.BinOp.lss 3 x4_2 t9_5 (@hid _ ⟨fun t10_7 w8 =>
   BrK t10_7 (@hid _ ⟨
    IndexAtK Try.prog 25 x0 x4_2 (@hid _ ⟨fun t16_9 w10 =>
    LoadK Try.prog 5 t16_9 (@hid _ ⟨fun t17_11 w12 =>
    ConvK Try.prog 5 50 t17_11 (@hid _ ⟨fun t18_13 w14 =>
    BinK Try.prog Go.BinOp.xor 50 x3_1 t18_13 (@hid _ ⟨fun t19_15 w16 =>
    LoopK2 t19_15 (Go.Value.int Go.IntKind.i64 0) w16 (@hid _ ⟨fun _ x3_17 x5_18 w19 B20 =>
     BinK Try.prog Go.BinOp.lss 3 x5_18 (Go.Value.int Go.IntKind.i64 8) (@hid _ ⟨fun t21_21 w22 =>
     BrK t21_21 (@hid _ ⟨
      BinK Try.prog Go.BinOp.and 50 x3_17 (Go.Value.int Go.IntKind.u32 1) (@hid _ ⟨fun t25_23 w24 =>
      BinK Try.prog Go.BinOp.shr 50 x3_17 (Go.Value.int Go.IntKind.u64 1) (@hid _ ⟨fun t27_25 w26 =>
      BinK Try.prog Go.BinOp.eql 50 t25_23 (Go.Value.int Go.IntKind.u32 1) (@hid _ ⟨fun t29_27 w28 =>
      BrK t29_27 (@hid _ ⟨
       BinK Try.prog Go.BinOp.xor 50 t27_25 (Go.Value.int Go.IntKind.u32 3988292384) (@hid _ ⟨fun t31_29 w30 =>
       BinK Try.prog Go.BinOp.add 3 x5_18 (Go.Value.int Go.IntKind.i64 1) (@hid _ ⟨fun t23_31 w32 =>
       B20 t31_29 t23_31 w32⟩) w30⟩) w28⟩) (@hid _ ⟨
       BinK Try.prog Go.BinOp.add 3 x5_18 (Go.Value.int Go.IntKind.i64 1) (@hid _ ⟨fun t23_33 w34 =>
       B20 t27_25 t23_33 w34⟩) w28⟩)⟩) w26⟩) w24⟩) w22⟩) (@hid _ ⟨
      BinK Try.prog Go.BinOp.add 3 x4_2 (Go.Value.int Go.IntKind.i64 1) (@hid _ ⟨fun t12_35 w36 =>
      B4 x3_17 t12_35 w36⟩) w22⟩)⟩) w19⟩)⟩) w14⟩) w12⟩) w10⟩) w8⟩) (@hid _ ⟨
    UnK Try.prog Go.UnOp.xor x3_1 (@hid _ ⟨fun t33_37 w38 =>
    R t33_37 w38⟩) w8⟩)⟩) w6⟩) w3⟩)
def a32 : Ann := (.seq .no (.seq .no (.seq (.seq .no (.block (.loop [3, 4] [(5, 31)] (.seq (.seq .no (.cond .no .no)) (.seq (.block (.seq .no (.seq .no (.block (.loop [3, 5] [(6, 6), (20, 31)] (.seq (.seq .no (.cond .no .no)) (.seq (.block (.seq .no (.seq .no (.seq .no (.cond .no .no))))) .no))))))) .no))))) (.seq .no .no))))
theorem F32_eq (x0 : Value) (R : Value → World → Prop) (w0 : World) : F32 x0 R w0 = vc Try.prog (bodyOf Try.f32) a32 (retQ Try.prog Try.f32 R) (envOf 0 [x0]) w0 := by kernel_rfl
theorem F32_calls (x0 : Value) (R : Value → World → Prop) (w0 : World) (h : F32 x0 R w0) : CallK Try.prog 32 #[x0] R w0 :=
  calls_vc (c := bodyOf Try.f32) Try.func32 (by kernel_rfl) (by kernel_rfl) a32 (by kernel_rfl) (by kernel_rfl) [x0] (by rw [Try.ntmps32]; exact Nat.le_of_ble_eq_true rfl) w0 R ((F32_eq x0 R w0).mp h)

end Go.Proofs.Ytmmcjpkmjdmoeaa