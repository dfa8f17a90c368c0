import Derived.Test.YtmmcmbdooefndaaRows
import Derived.Test.YtmmcmbdooefndaaV3
set_option linter.unusedVariables false
set_option linter.unusedSimpArgs false
set_option maxRecDepth 100000
namespace Go.Proofs.Ytmmcmbdooefndaa
open Go.RowKit Go.Cn
theorem klen22 (A : Option Addr) (n c : Nat) (K : Value → World → Prop) (w : World) : BuiltinK Try.prog .len #[22] 3 #[false] #[(.slice A n c)] K w = K (.int .i64 (n : Int)) w := by
  unfold BuiltinK; (first | (go_simp; rfl) | (go_simp; done))

theorem hlen22 (A : Option Addr) (n c : Nat) {K : Value → Prop} {w1 : World} : TakeO Try.prog (fun w' => w' = w1) (builtin .len #[22] 3 #[false] #[(.slice A n c)]) K = K (.int .i64 (n : Int)) := by
  exact here_o (fun w => by (first | (go_simp; rfl) | (go_simp; done)))

theorem kbgtr3 (x y : Int) (K : Value → World → Prop) (w : World) : BinK Try.prog .gtr 3 (.int .i64 x) (.int .i64 y) K w = K (.bool (decide (y < x))) w := by
  unfold BinK; (first | (go_simp; rfl) | (go_simp; done))

theorem kblss3 (x y : Int) (K : Value → World → Prop) (w : World) : BinK Try.prog .lss 3 (.int .i64 x) (.int .i64 y) K w = K (.bool (decide (x < y))) w := by
  unfold BinK; (first | (go_simp; rfl) | (go_simp; done))

theorem kia22 (g o n c : Nat) (i : Int) (h : 0 ≤ i ∧ i < (n : Int)) (K : Value → World → Prop) (w : World) : IndexAtK Try.prog 22 (.slice (some ⟨g, o, none⟩) n c) (.int .i64 i) K w = K (.pointer (some ⟨g, o + i.toNat * 3, none⟩)) w := by
  obtain ⟨h0, h1⟩ := h
  unfold IndexAtK; (first | (go_simp; rfl) | (go_simp; done))

theorem kld29 (g o : Nat) (K : Value → World → Prop) (w : World) : LoadK Try.prog 29 (.pointer (some ⟨g, o, none⟩)) K w = OptK (w.cell? ⟨g, o, none⟩) (@hid _ ⟨fun v0 => OptK (w.cell? ⟨g, o + 1, none⟩) (@hid _ ⟨fun v1 => OptK (w.cell? ⟨g, o + 2, none⟩) (@hid _ ⟨fun v2 => K (.agg #[v0, v1, v2]) w⟩) (LoadRaw Try.prog 29 ⟨g, o, none⟩ K w)⟩) (LoadRaw Try.prog 29 ⟨g, o, none⟩ K w)⟩) (LoadRaw Try.prog 29 ⟨g, o, none⟩ K w) := by
  cases h0 : w.cell? ⟨g, o, none⟩ with
  | none => rfl
  | some v0 =>
  cases h1 : w.cell? ⟨g, o + 1, none⟩ with
  | none => rfl
  | some v1 =>
  cases h2 : w.cell? ⟨g, o + 2, none⟩ with
  | none => rfl
  | some v2 =>
  simp only [optK_some]
  unfold LoadK; (first | (go_simp; rfl) | (go_simp; done))

theorem kal29 (K : Value → World → Prop) (w : World) : AllocK Try.prog 29 K w = K (.pointer (some ⟨w.heap.size, 0, none⟩)) (w.alloc (.cells #[.int .i64 0, .string ByteArray.empty, .int .i64 0] 29)) := by
  unfold AllocK; (first | (go_simp; rfl) | (go_simp; done))

theorem kst29f (v_0 : Int) (v_1 : ByteArray) (v_2 : Int) (z0 z1 z2 : Value) (K : Value → World → Prop) (w : World) : StoreK Try.prog 29 (.pointer (some ⟨w.heap.size, 0, none⟩)) (.agg #[(.int .i64 v_0), (.string v_1), (.int .i64 v_2)]) K (w.alloc (.cells #[z0, z1, z2] 29)) = K undef (w.alloc (.cells #[(.int .i64 v_0), (.string v_1), (.int .i64 v_2)] 29)) := by
  unfold StoreK; (first | (go_simp; rfl) | (go_simp; done))

theorem kfa29_1 (g o : Nat) (K : Value → World → Prop) (w : World) : FieldAtK Try.prog 29 (.pointer (some ⟨g, o, none⟩)) 1 K w = K (.pointer (some ⟨g, o + 1, none⟩)) w := by
  unfold FieldAtK; (first | (go_simp; rfl) | (go_simp; done))

theorem kld9 (a : Addr) (K : Value → World → Prop) (w : World) : LoadK Try.prog 9 (.pointer (some a)) K w = OptK (w.cell? a) (@hid _ ⟨fun v => K v w⟩) (LoadRaw Try.prog 9 a K w) := by
  exact loadK_eq Try.underlying9 rfl a K w

theorem klen9 (s : ByteArray) (K : Value → World → Prop) (w : World) : BuiltinK Try.prog .len #[9] 3 #[false] #[(.string s)] K w = K (.int .i64 (s.size : Int)) w := by
  unfold BuiltinK; (first | (go_simp; rfl) | (go_simp; done))

theorem hlen9 (s : ByteArray) {K : Value → Prop} {w1 : World} : TakeO Try.prog (fun w' => w' = w1) (builtin .len #[9] 3 #[false] #[(.string s)]) K = K (.int .i64 (s.size : Int)) := by
  exact here_o (fun w => by (first | (go_simp; rfl) | (go_simp; done)))

theorem kfa29_0 (g o : Nat) (K : Value → World → Prop) (w : World) : FieldAtK Try.prog 29 (.pointer (some ⟨g, o, none⟩)) 0 K w = K (.pointer (some ⟨g, o, none⟩)) w := by
  unfold FieldAtK; (first | (go_simp; rfl) | (go_simp; done))

theorem kld3 (a : Addr) (K : Value → World → Prop) (w : World) : LoadK Try.prog 3 (.pointer (some a)) K w = OptK (w.cell? a) (@hid _ ⟨fun v => K v w⟩) (LoadRaw Try.prog 3 a K w) := by
  exact loadK_eq Try.underlying3 rfl a K w

theorem kbeql3 (x y : Int) (K : Value → World → Prop) (w : World) : BinK Try.prog .eql 3 (.int .i64 x) (.int .i64 y) K w = K (.bool (x == y)) w := by
  unfold BinK; (first | (go_simp; rfl) | (go_simp; done))

theorem kfa29_2 (g o : Nat) (K : Value → World → Prop) (w : World) : FieldAtK Try.prog 29 (.pointer (some ⟨g, o, none⟩)) 2 K w = K (.pointer (some ⟨g, o + 2, none⟩)) w := by
  unfold FieldAtK; (first | (go_simp; rfl) | (go_simp; done))

theorem kbneq4 (x y : Bool) (K : Value → World → Prop) (w : World) : BinK Try.prog .neq 4 (.bool x) (.bool y) K w = K (.bool (x != y)) w := by
  cases x <;> cases y <;> (unfold BinK; (first | (go_simp; rfl) | (go_simp; done)))

theorem kbs27_0  (K : Value → World → Prop) (w : World) : BuildSliceK Try.prog 27 0 #[] K w = K (.slice (some ⟨w.heap.size, 0, none⟩) 0 0) (w.alloc (.cells #[] 3)) := by
  unfold BuildSliceK; (first | (go_simp; rfl) | (go_simp; done))

theorem kia27 (g o n c : Nat) (i : Int) (h : 0 ≤ i ∧ i < (n : Int)) (K : Value → World → Prop) (w : World) : IndexAtK Try.prog 27 (.slice (some ⟨g, o, none⟩) n c) (.int .i64 i) K w = K (.pointer (some ⟨g, o + i.toNat, none⟩)) w := by
  obtain ⟨h0, h1⟩ := h
  unfold IndexAtK; (first | (go_simp; rfl) | (go_simp; done))

theorem kst3 (g o : Nat) (v : Int) (K : Value → World → Prop) (w : World) : StoreK Try.prog 3 (.pointer (some ⟨g, o, none⟩)) (.int .i64 v) K w = OptK (w.cell? ⟨g, o, none⟩) (@hid _ ⟨fun _ => FzK (w.frozen? ⟨g, o, none⟩) (@hid _ ⟨K undef (w.setCell ⟨g, o, none⟩ (.int .i64 v))⟩) (StoreRaw Try.prog 3 ⟨g, o, none⟩ (.int .i64 v) K w)⟩) (StoreRaw Try.prog 3 ⟨g, o, none⟩ (.int .i64 v) K w) := by
  cases h0 : w.cell? ⟨g, o, none⟩ with
  | none => rfl
  | some x =>
  cases f0 : w.frozen? ⟨g, o, none⟩ with
  | true => rfl
  | false =>
  simp only [optK_some, fzK_false]
  unfold StoreK; (first | (go_simp; rfl) | (go_simp; done))

theorem kbs26_0  (K : Value → World → Prop) (w : World) : BuildSliceK Try.prog 26 0 #[] K w = K (.slice (some ⟨w.heap.size, 0, none⟩) 0 0) (w.alloc (.cells #[] 9)) := by
  unfold BuildSliceK; (first | (go_simp; rfl) | (go_simp; done))

theorem ksl26_010z (K : Value → World → Prop) (w : World) : SliceK Try.prog 26 (.slice none 0 0) none (some (.int .i64 0)) none K w = K (.slice none 0 0) w := by
  unfold SliceK; (first | (go_simp; rfl) | (go_simp; done) | (go_simp; split <;> simp_all))

theorem ksl26_010 (g o n c : Nat) (h : Int) (hb : 0 ≤ h ∧ h ≤ (c : Int)) (K : Value → World → Prop) (w : World) : SliceK Try.prog 26 (.slice (some ⟨g, o, none⟩) n c) none (some (.int .i64 h)) none K w = K (.slice (some ⟨g, o, none⟩) h.toNat c) w := by
  obtain ⟨q0, q1⟩ := hb
  unfold SliceK; (first | (go_simp; rfl) | (go_simp; done) | (go_simp; split <;> simp_all))

theorem kbs26_1_0 (v0 : ByteArray) (K : Value → World → Prop) (w : World) : BuildSliceK Try.prog 26 1 #[(0, (.string v0))] K w = K (.slice (some ⟨w.heap.size, 0, none⟩) 1 1) (w.alloc (.cells #[(.string v0)] 9)) := by
  unfold BuildSliceK; (first | (go_simp; rfl) | (go_simp; done))

theorem ksl26_100z (K : Value → World → Prop) (w : World) : SliceK Try.prog 26 (.slice none 0 0) (some (.int .i64 0)) none none K w = K (.slice none 0 0) w := by
  unfold SliceK; (first | (go_simp; rfl) | (go_simp; done) | (go_simp; split <;> simp_all))

theorem ksl26_100 (g o n c : Nat) (l : Int) (hb : 0 ≤ l ∧ l ≤ (n : Int)) (K : Value → World → Prop) (w : World) : SliceK Try.prog 26 (.slice (some ⟨g, o, none⟩) n c) (some (.int .i64 l)) none none K w = K (.slice (if c = l.toNat then some ⟨g, o, none⟩ else some ⟨g, o + l.toNat, none⟩) (n - l.toNat) (c - l.toNat)) w := by
  obtain ⟨q0, q1⟩ := hb
  unfold SliceK; (first | (go_simp; rfl) | (go_simp; done) | (go_simp; split <;> simp_all))

theorem ksl27_010z (K : Value → World → Prop) (w : World) : SliceK Try.prog 27 (.slice none 0 0) none (some (.int .i64 0)) none K w = K (.slice none 0 0) w := by
  unfold SliceK; (first | (go_simp; rfl) | (go_simp; done) | (go_simp; split <;> simp_all))

theorem ksl27_010 (g o n c : Nat) (h : Int) (hb : 0 ≤ h ∧ h ≤ (c : Int)) (K : Value → World → Prop) (w : World) : SliceK Try.prog 27 (.slice (some ⟨g, o, none⟩) n c) none (some (.int .i64 h)) none K w = K (.slice (some ⟨g, o, none⟩) h.toNat c) w := by
  obtain ⟨q0, q1⟩ := hb
  unfold SliceK; (first | (go_simp; rfl) | (go_simp; done) | (go_simp; split <;> simp_all))

theorem kbs27_1_0 (v0 : Int) (K : Value → World → Prop) (w : World) : BuildSliceK Try.prog 27 1 #[(0, (.int .i64 v0))] K w = K (.slice (some ⟨w.heap.size, 0, none⟩) 1 1) (w.alloc (.cells #[(.int .i64 v0)] 3)) := by
  unfold BuildSliceK; (first | (go_simp; rfl) | (go_simp; done))

theorem ksl27_100z (K : Value → World → Prop) (w : World) : SliceK Try.prog 27 (.slice none 0 0) (some (.int .i64 0)) none none K w = K (.slice none 0 0) w := by
  unfold SliceK; (first | (go_simp; rfl) | (go_simp; done) | (go_simp; split <;> simp_all))

theorem ksl27_100 (g o n c : Nat) (l : Int) (hb : 0 ≤ l ∧ l ≤ (n : Int)) (K : Value → World → Prop) (w : World) : SliceK Try.prog 27 (.slice (some ⟨g, o, none⟩) n c) (some (.int .i64 l)) none none K w = K (.slice (if c = l.toNat then some ⟨g, o, none⟩ else some ⟨g, o + l.toNat, none⟩) (n - l.toNat) (c - l.toNat)) w := by
  obtain ⟨q0, q1⟩ := hb
  unfold SliceK; (first | (go_simp; rfl) | (go_simp; done) | (go_simp; split <;> simp_all))

theorem kbadd3 (x y : Int) (K : Value → World → Prop) (w : World) : BinK Try.prog .add 3 (.int .i64 x) (.int .i64 y) K w = K (.int .i64 (IntKind.i64.wrap (x + y))) w := by
  unfold BinK; (first | (go_simp; rfl) | (go_simp; done))

theorem kbeql24n (a : Addr) (K : Value → World → Prop) (w : World) : BinK Try.prog .eql 24 (.pointer (some a)) (.pointer none) K w = K (.bool false) w := by
  unfold BinK; (first | (go_simp; rfl) | (go_simp; done))

theorem klen26 (A : Option Addr) (n c : Nat) (K : Value → World → Prop) (w : World) : BuiltinK Try.prog .len #[26] 3 #[false] #[(.slice A n c)] K w = K (.int .i64 (n : Int)) w := by
  unfold BuiltinK; (first | (go_simp; rfl) | (go_simp; done))

theorem hlen26 (A : Option Addr) (n c : Nat) {K : Value → Prop} {w1 : World} : TakeO Try.prog (fun w' => w' = w1) (builtin .len #[26] 3 #[false] #[(.slice A n c)]) K = K (.int .i64 (n : Int)) := by
  exact here_o (fun w => by (first | (go_simp; rfl) | (go_simp; done)))

theorem kbneq3 (x y : Int) (K : Value → World → Prop) (w : World) : BinK Try.prog .neq 3 (.int .i64 x) (.int .i64 y) K w = K (.bool (x != y)) w := by
  unfold BinK; (first | (go_simp; rfl) | (go_simp; done))

theorem kia26 (g o n c : Nat) (i : Int) (h : 0 ≤ i ∧ i < (n : Int)) (K : Value → World → Prop) (w : World) : IndexAtK Try.prog 26 (.slice (some ⟨g, o, none⟩) n c) (.int .i64 i) K w = K (.pointer (some ⟨g, o + i.toNat, none⟩)) w := by
  obtain ⟨h0, h1⟩ := h
  unfold IndexAtK; (first | (go_simp; rfl) | (go_simp; done))

theorem kbneq9 (x y : ByteArray) (K : Value → World → Prop) (w : World) : BinK Try.prog .neq 9 (.string x) (.string y) K w = K (.bool (!(x.toList == y.toList))) w := by
  unfold BinK; (first | (go_simp; rfl) | (go_simp; done))

theorem kbgeq3 (x y : Int) (K : Value → World → Prop) (w : World) : BinK Try.prog .geq 3 (.int .i64 x) (.int .i64 y) K w = K (.bool (decide (y ≤ x))) w := by
  unfold BinK; (first | (go_simp; rfl) | (go_simp; done))

theorem kbsub3 (x y : Int) (K : Value → World → Prop) (w : World) : BinK Try.prog .sub 3 (.int .i64 x) (.int .i64 y) K w = K (.int .i64 (IntKind.i64.wrap (x - y))) w := by
  unfold BinK; (first | (go_simp; rfl) | (go_simp; done))

theorem kbeql4 (x y : Bool) (K : Value → World → Prop) (w : World) : BinK Try.prog .eql 4 (.bool x) (.bool y) K w = K (.bool (x == y)) w := by
  cases x <;> cases y <;> (unfold BinK; (first | (go_simp; rfl) | (go_simp; done)))

theorem klen42 (A : Option Addr) (n c : Nat) (K : Value → World → Prop) (w : World) : BuiltinK Try.prog .len #[42] 3 #[false] #[(.slice A n c)] K w = K (.int .i64 (n : Int)) w := by
  unfold BuiltinK; (first | (go_simp; rfl) | (go_simp; done))

theorem hlen42 (A : Option Addr) (n c : Nat) {K : Value → Prop} {w1 : World} : TakeO Try.prog (fun w' => w' = w1) (builtin .len #[42] 3 #[false] #[(.slice A n c)]) K = K (.int .i64 (n : Int)) := by
  exact here_o (fun w => by (first | (go_simp; rfl) | (go_simp; done)))

theorem kia42 (g o n c : Nat) (i : Int) (h : 0 ≤ i ∧ i < (n : Int)) (K : Value → World → Prop) (w : World) : IndexAtK Try.prog 42 (.slice (some ⟨g, o, none⟩) n c) (.int .i64 i) K w = K (.pointer (some ⟨g, o + i.toNat, none⟩)) w := by
  obtain ⟨h0, h1⟩ := h
  unfold IndexAtK; (first | (go_simp; rfl) | (go_simp; done))

theorem kld2 (a : Addr) (K : Value → World → Prop) (w : World) : LoadK Try.prog 2 (.pointer (some a)) K w = OptK (w.cell? a) (@hid _ ⟨fun v => K v w⟩) (LoadRaw Try.prog 2 a K w) := by
  exact loadK_eq Try.underlying2 rfl a K w

theorem kcv5_3 (x : Int) (K : Value → World → Prop) (w : World) : ConvK Try.prog 5 3 (.int .u8 x) K w = K (.int .i64 (IntKind.i64.wrap x)) w := by
  unfold ConvK; (first | (go_simp; rfl) | (go_simp; done))

theorem kbrem3 (x y : Int) (h : 0 ≤ x ∧ 1 ≤ y ∧ x ≤ 9223372036854775807) (K : Value → World → Prop) (w : World) : BinK Try.prog .rem 3 (.int .i64 x) (.int .i64 y) K w = K (.int .i64 (x % y)) w := by
  obtain ⟨h0, h1, h2⟩ := h
  have h3 : ¬ y = 0 := by omega
  have h4 : x.tmod y = x % y := Int.tmod_eq_emod_of_nonneg h0
  have h5 : x.tdiv y = x / y := Int.tdiv_eq_ediv_of_nonneg h0
  unfold BinK; (first | (go_simp; rfl) | (go_simp; done))

theorem kbneq2 (x y : Int) (K : Value → World → Prop) (w : World) : BinK Try.prog .neq 2 (.int .i64 x) (.int .i64 y) K w = K (.bool (x != y)) w := by
  unfold BinK; (first | (go_simp; rfl) | (go_simp; done))

theorem kbgeq2 (x y : Int) (K : Value → World → Prop) (w : World) : BinK Try.prog .geq 2 (.int .i64 x) (.int .i64 y) K w = K (.bool (decide (y ≤ x))) w := by
  unfold BinK; (first | (go_simp; rfl) | (go_simp; done))

theorem kbeql9 (x y : ByteArray) (K : Value → World → Prop) (w : World) : BinK Try.prog .eql 9 (.string x) (.string y) K w = K (.bool (x.toList == y.toList)) w := by
  unfold BinK; (first | (go_simp; rfl) | (go_simp; done))

theorem kbneq24n (a : Addr) (K : Value → World → Prop) (w : World) : BinK Try.prog .neq 24 (.pointer (some a)) (.pointer none) K w = K (.bool true) w := by
  unfold BinK; (first | (go_simp; rfl) | (go_simp; done))

theorem kbd59_  (K : Value → World → Prop) (w : World) : BuildK Try.prog 59 #[] K w = K (.agg #[.slice none 0 0]) w := by
  unfold BuildK; (first | (go_simp; rfl) | (go_simp; done))

theorem kbx59 (v_0A : Option Addr) (v_0n v_0c : Nat) (K : Value → World → Prop) (w : World) : BoxK Try.prog 59 (.agg #[(.slice v_0A v_0n v_0c)]) K w = K (.pointer (some ⟨w.heap.size, 0, none⟩)) (w.alloc (.cells #[(.slice v_0A v_0n v_0c)] 59)) := by
  unfold BoxK; (first | (go_simp; rfl) | (go_simp; done))

theorem kblss9 (x y : ByteArray) (K : Value → World → Prop) (w : World) : BinK Try.prog .lss 9 (.string x) (.string y) K w = K (.bool (Op.bytesLess x.toList y.toList)) w := by
  unfold BinK; (first | (go_simp; rfl) | (go_simp; done))

theorem kfa59_0 (g o : Nat) (K : Value → World → Prop) (w : World) : FieldAtK Try.prog 59 (.pointer (some ⟨g, o, none⟩)) 0 K w = K (.pointer (some ⟨g, o, none⟩)) w := by
  unfold FieldAtK; (first | (go_simp; rfl) | (go_simp; done))

theorem kld57 (a : Addr) (K : Value → World → Prop) (w : World) : LoadK Try.prog 57 (.pointer (some a)) K w = OptK (w.cell? a) (@hid _ ⟨fun v => K v w⟩) (LoadRaw Try.prog 57 a K w) := by
  exact loadK_eq Try.underlying57 rfl a K w

theorem kia57 (g o n c : Nat) (i : Int) (h : 0 ≤ i ∧ i < (n : Int)) (K : Value → World → Prop) (w : World) : IndexAtK Try.prog 57 (.slice (some ⟨g, o, none⟩) n c) (.int .i64 i) K w = K (.pointer (some ⟨g, o + i.toNat * 2, none⟩)) w := by
  obtain ⟨h0, h1⟩ := h
  unfold IndexAtK; (first | (go_simp; rfl) | (go_simp; done))

theorem kfa61_1 (g o : Nat) (K : Value → World → Prop) (w : World) : FieldAtK Try.prog 61 (.pointer (some ⟨g, o, none⟩)) 1 K w = K (.pointer (some ⟨g, o + 1, none⟩)) w := by
  unfold FieldAtK; (first | (go_simp; rfl) | (go_simp; done))

theorem kbd61_0_1 (v0 : ByteArray) (v1 : Int) (K : Value → World → Prop) (w : World) : BuildK Try.prog 61 #[(0, (.string v0)), (1, (.int .i64 v1))] K w = K (.agg #[(.string v0), (.int .i64 v1)]) w := by
  unfold BuildK; (first | (go_simp; rfl) | (go_simp; done))

theorem kbs57_1_0 (v0_0 : ByteArray) (v0_1 : Int) (K : Value → World → Prop) (w : World) : BuildSliceK Try.prog 57 1 #[(0, .agg #[(.string v0_0), (.int .i64 v0_1)])] K w = K (.slice (some ⟨w.heap.size, 0, none⟩) 1 1) (w.alloc (.cells #[(.string v0_0), (.int .i64 v0_1)] 61)) := by
  unfold BuildSliceK; (first | (go_simp; rfl) | (go_simp; done))

theorem kst57 (g o : Nat) (vA : Option Addr) (vn vc : Nat) (K : Value → World → Prop) (w : World) : StoreK Try.prog 57 (.pointer (some ⟨g, o, none⟩)) (.slice vA vn vc) K w = OptK (w.cell? ⟨g, o, none⟩) (@hid _ ⟨fun _ => FzK (w.frozen? ⟨g, o, none⟩) (@hid _ ⟨K undef (w.setCell ⟨g, o, none⟩ (.slice vA vn vc))⟩) (StoreRaw Try.prog 57 ⟨g, o, none⟩ (.slice vA vn vc) K w)⟩) (StoreRaw Try.prog 57 ⟨g, o, none⟩ (.slice vA vn vc) K w) := by
  cases h0 : w.cell? ⟨g, o, none⟩ with
  | none => rfl
  | some x =>
  cases f0 : w.frozen? ⟨g, o, none⟩ with
  | true => rfl
  | false =>
  simp only [optK_some, fzK_false]
  unfold StoreK; (first | (go_simp; rfl) | (go_simp; done))

theorem kbd59_0 (v0A : Option Addr) (v0n v0c : Nat) (K : Value → World → Prop) (w : World) : BuildK Try.prog 59 #[(0, (.slice v0A v0n v0c))] K w = K (.agg #[(.slice v0A v0n v0c)]) w := by
  unfold BuildK; (first | (go_simp; rfl) | (go_simp; done))

theorem klen57 (A : Option Addr) (n c : Nat) (K : Value → World → Prop) (w : World) : BuiltinK Try.prog .len #[57] 3 #[false] #[(.slice A n c)] K w = K (.int .i64 (n : Int)) w := by
  unfold BuiltinK; (first | (go_simp; rfl) | (go_simp; done))

theorem hlen57 (A : Option Addr) (n c : Nat) {K : Value → Prop} {w1 : World} : TakeO Try.prog (fun w' => w' = w1) (builtin .len #[57] 3 #[false] #[(.slice A n c)]) K = K (.int .i64 (n : Int)) := by
  exact here_o (fun w => by (first | (go_simp; rfl) | (go_simp; done)))

theorem kld61 (g o : Nat) (K : Value → World → Prop) (w : World) : LoadK Try.prog 61 (.pointer (some ⟨g, o, none⟩)) K w = OptK (w.cell? ⟨g, o, none⟩) (@hid _ ⟨fun v0 => OptK (w.cell? ⟨g, o + 1, none⟩) (@hid _ ⟨fun v1 => K (.agg #[v0, v1]) w⟩) (LoadRaw Try.prog 61 ⟨g, o, none⟩ K w)⟩) (LoadRaw Try.prog 61 ⟨g, o, none⟩ K w) := by
  cases h0 : w.cell? ⟨g, o, none⟩ with
  | none => rfl
  | some v0 =>
  cases h1 : w.cell? ⟨g, o + 1, none⟩ with
  | none => rfl
  | some v1 =>
  simp only [optK_some]
  unfold LoadK; (first | (go_simp; rfl) | (go_simp; done))

theorem kal61 (K : Value → World → Prop) (w : World) : AllocK Try.prog 61 K w = K (.pointer (some ⟨w.heap.size, 0, none⟩)) (w.alloc (.cells #[.string ByteArray.empty, .int .i64 0] 61)) := by
  unfold AllocK; (first | (go_simp; rfl) | (go_simp; done))

theorem kst61f (v_0 : ByteArray) (v_1 : Int) (z0 z1 : Value) (K : Value → World → Prop) (w : World) : StoreK Try.prog 61 (.pointer (some ⟨w.heap.size, 0, none⟩)) (.agg #[(.string v_0), (.int .i64 v_1)]) K (w.alloc (.cells #[z0, z1] 61)) = K undef (w.alloc (.cells #[(.string v_0), (.int .i64 v_1)] 61)) := by
  unfold StoreK; (first | (go_simp; rfl) | (go_simp; done))

theorem kfa61_0 (g o : Nat) (K : Value → World → Prop) (w : World) : FieldAtK Try.prog 61 (.pointer (some ⟨g, o, none⟩)) 0 K w = K (.pointer (some ⟨g, o, none⟩)) w := by
  unfold FieldAtK; (first | (go_simp; rfl) | (go_simp; done))

theorem kbd68_  (K : Value → World → Prop) (w : World) : BuildK Try.prog 68 #[] K w = K (.agg #[.slice none 0 0]) w := by
  unfold BuildK; (first | (go_simp; rfl) | (go_simp; done))

theorem kbx68 (v_0A : Option Addr) (v_0n v_0c : Nat) (K : Value → World → Prop) (w : World) : BoxK Try.prog 68 (.agg #[(.slice v_0A v_0n v_0c)]) K w = K (.pointer (some ⟨w.heap.size, 0, none⟩)) (w.alloc (.cells #[(.slice v_0A v_0n v_0c)] 68)) := by
  unfold BoxK; (first | (go_simp; rfl) | (go_simp; done))

theorem kfa68_0 (g o : Nat) (K : Value → World → Prop) (w : World) : FieldAtK Try.prog 68 (.pointer (some ⟨g, o, none⟩)) 0 K w = K (.pointer (some ⟨g, o, none⟩)) w := by
  unfold FieldAtK; (first | (go_simp; rfl) | (go_simp; done))

theorem kld66 (a : Addr) (K : Value → World → Prop) (w : World) : LoadK Try.prog 66 (.pointer (some a)) K w = OptK (w.cell? a) (@hid _ ⟨fun v => K v w⟩) (LoadRaw Try.prog 66 a K w) := by
  exact loadK_eq Try.underlying66 rfl a K w

theorem kia66 (g o n c : Nat) (i : Int) (h : 0 ≤ i ∧ i < (n : Int)) (K : Value → World → Prop) (w : World) : IndexAtK Try.prog 66 (.slice (some ⟨g, o, none⟩) n c) (.int .i64 i) K w = K (.pointer (some ⟨g, o + i.toNat * 2, none⟩)) w := by
  obtain ⟨h0, h1⟩ := h
  unfold IndexAtK; (first | (go_simp; rfl) | (go_simp; done))

theorem kfa71_1 (g o : Nat) (K : Value → World → Prop) (w : World) : FieldAtK Try.prog 71 (.pointer (some ⟨g, o, none⟩)) 1 K w = K (.pointer (some ⟨g, o + 1, none⟩)) w := by
  unfold FieldAtK; (first | (go_simp; rfl) | (go_simp; done))

theorem kst9 (g o : Nat) (v : ByteArray) (K : Value → World → Prop) (w : World) : StoreK Try.prog 9 (.pointer (some ⟨g, o, none⟩)) (.string v) K w = OptK (w.cell? ⟨g, o, none⟩) (@hid _ ⟨fun _ => FzK (w.frozen? ⟨g, o, none⟩) (@hid _ ⟨K undef (w.setCell ⟨g, o, none⟩ (.string v))⟩) (StoreRaw Try.prog 9 ⟨g, o, none⟩ (.string v) K w)⟩) (StoreRaw Try.prog 9 ⟨g, o, none⟩ (.string v) K w) := by
  cases h0 : w.cell? ⟨g, o, none⟩ with
  | none => rfl
  | some x =>
  cases f0 : w.frozen? ⟨g, o, none⟩ with
  | true => rfl
  | false =>
  simp only [optK_some, fzK_false]
  unfold StoreK; (first | (go_simp; rfl) | (go_simp; done))

theorem kbd71_0_1 (v0 : Int) (v1 : ByteArray) (K : Value → World → Prop) (w : World) : BuildK Try.prog 71 #[(0, (.int .i64 v0)), (1, (.string v1))] K w = K (.agg #[(.int .i64 v0), (.string v1)]) w := by
  unfold BuildK; (first | (go_simp; rfl) | (go_simp; done))

theorem kbs66_1_0 (v0_0 : Int) (v0_1 : ByteArray) (K : Value → World → Prop) (w : World) : BuildSliceK Try.prog 66 1 #[(0, .agg #[(.int .i64 v0_0), (.string v0_1)])] K w = K (.slice (some ⟨w.heap.size, 0, none⟩) 1 1) (w.alloc (.cells #[(.int .i64 v0_0), (.string v0_1)] 71)) := by
  unfold BuildSliceK; (first | (go_simp; rfl) | (go_simp; done))

theorem kst66 (g o : Nat) (vA : Option Addr) (vn vc : Nat) (K : Value → World → Prop) (w : World) : StoreK Try.prog 66 (.pointer (some ⟨g, o, none⟩)) (.slice vA vn vc) K w = OptK (w.cell? ⟨g, o, none⟩) (@hid _ ⟨fun _ => FzK (w.frozen? ⟨g, o, none⟩) (@hid _ ⟨K undef (w.setCell ⟨g, o, none⟩ (.slice vA vn vc))⟩) (StoreRaw Try.prog 66 ⟨g, o, none⟩ (.slice vA vn vc) K w)⟩) (StoreRaw Try.prog 66 ⟨g, o, none⟩ (.slice vA vn vc) K w) := by
  cases h0 : w.cell? ⟨g, o, none⟩ with
  | none => rfl
  | some x =>
  cases f0 : w.frozen? ⟨g, o, none⟩ with
  | true => rfl
  | false =>
  simp only [optK_some, fzK_false]
  unfold StoreK; (first | (go_simp; rfl) | (go_simp; done))

theorem kband2 (x y : Int) (K : Value → World → Prop) (w : World) : BinK Try.prog .and 2 (.int .i64 x) (.int .i64 y) K w = K (.int .i64 (bits .and .i64 x y)) w := by
  unfold BinK; (first | (go_simp; rfl) | (go_simp; done))

theorem kbadd2 (x y : Int) (K : Value → World → Prop) (w : World) : BinK Try.prog .add 2 (.int .i64 x) (.int .i64 y) K w = K (.int .i64 (IntKind.i64.wrap (x + y))) w := by
  unfold BinK; (first | (go_simp; rfl) | (go_simp; done))

theorem kcv2_5 (x : Int) (K : Value → World → Prop) (w : World) : ConvK Try.prog 2 5 (.int .i64 x) K w = K (.int .u8 (IntKind.u8.wrap x)) w := by
  unfold ConvK; (first | (go_simp; rfl) | (go_simp; done))

theorem kbs73_1_0 (v0 : Int) (K : Value → World → Prop) (w : World) : BuildSliceK Try.prog 73 1 #[(0, (.int .u8 v0))] K w = K (.slice (some ⟨w.heap.size, 0, none⟩) 1 1) (w.alloc (.cells #[(.int .u8 v0)] 5)) := by
  unfold BuildSliceK; (first | (go_simp; rfl) | (go_simp; done))

theorem klen66 (A : Option Addr) (n c : Nat) (K : Value → World → Prop) (w : World) : BuiltinK Try.prog .len #[66] 3 #[false] #[(.slice A n c)] K w = K (.int .i64 (n : Int)) w := by
  unfold BuiltinK; (first | (go_simp; rfl) | (go_simp; done))

theorem hlen66 (A : Option Addr) (n c : Nat) {K : Value → Prop} {w1 : World} : TakeO Try.prog (fun w' => w' = w1) (builtin .len #[66] 3 #[false] #[(.slice A n c)]) K = K (.int .i64 (n : Int)) := by
  exact here_o (fun w => by (first | (go_simp; rfl) | (go_simp; done)))

theorem kld71 (g o : Nat) (K : Value → World → Prop) (w : World) : LoadK Try.prog 71 (.pointer (some ⟨g, o, none⟩)) K w = OptK (w.cell? ⟨g, o, none⟩) (@hid _ ⟨fun v0 => OptK (w.cell? ⟨g, o + 1, none⟩) (@hid _ ⟨fun v1 => K (.agg #[v0, v1]) w⟩) (LoadRaw Try.prog 71 ⟨g, o, none⟩ K w)⟩) (LoadRaw Try.prog 71 ⟨g, o, none⟩ K w) := by
  cases h0 : w.cell? ⟨g, o, none⟩ with
  | none => rfl
  | some v0 =>
  cases h1 : w.cell? ⟨g, o + 1, none⟩ with
  | none => rfl
  | some v1 =>
  simp only [optK_some]
  unfold LoadK; (first | (go_simp; rfl) | (go_simp; done))

theorem kal71 (K : Value → World → Prop) (w : World) : AllocK Try.prog 71 K w = K (.pointer (some ⟨w.heap.size, 0, none⟩)) (w.alloc (.cells #[.int .i64 0, .string ByteArray.empty] 71)) := by
  unfold AllocK; (first | (go_simp; rfl) | (go_simp; done))

theorem kst71f (v_0 : Int) (v_1 : ByteArray) (z0 z1 : Value) (K : Value → World → Prop) (w : World) : StoreK Try.prog 71 (.pointer (some ⟨w.heap.size, 0, none⟩)) (.agg #[(.int .i64 v_0), (.string v_1)]) K (w.alloc (.cells #[z0, z1] 71)) = K undef (w.alloc (.cells #[(.int .i64 v_0), (.string v_1)] 71)) := by
  unfold StoreK; (first | (go_simp; rfl) | (go_simp; done))

theorem kfa71_0 (g o : Nat) (K : Value → World → Prop) (w : World) : FieldAtK Try.prog 71 (.pointer (some ⟨g, o, none⟩)) 0 K w = K (.pointer (some ⟨g, o, none⟩)) w := by
  unfold FieldAtK; (first | (go_simp; rfl) | (go_simp; done))

theorem kbs42_1_0 (v0 : Int) (K : Value → World → Prop) (w : World) : BuildSliceK Try.prog 42 1 #[(0, (.int .i64 v0))] K w = K (.slice (some ⟨w.heap.size, 0, none⟩) 1 1) (w.alloc (.cells #[(.int .i64 v0)] 2)) := by
  unfold BuildSliceK; (first | (go_simp; rfl) | (go_simp; done))

theorem kbd76_  (K : Value → World → Prop) (w : World) : BuildK Try.prog 76 #[] K w = K (.agg #[.slice none 0 0]) w := by
  unfold BuildK; (first | (go_simp; rfl) | (go_simp; done))

theorem kbx76 (v_0A : Option Addr) (v_0n v_0c : Nat) (K : Value → World → Prop) (w : World) : BoxK Try.prog 76 (.agg #[(.slice v_0A v_0n v_0c)]) K w = K (.pointer (some ⟨w.heap.size, 0, none⟩)) (w.alloc (.cells #[(.slice v_0A v_0n v_0c)] 76)) := by
  unfold BoxK; (first | (go_simp; rfl) | (go_simp; done))

theorem kfa76_0 (g o : Nat) (K : Value → World → Prop) (w : World) : FieldAtK Try.prog 76 (.pointer (some ⟨g, o, none⟩)) 0 K w = K (.pointer (some ⟨g, o, none⟩)) w := by
  unfold FieldAtK; (first | (go_simp; rfl) | (go_simp; done))

theorem kld74 (a : Addr) (K : Value → World → Prop) (w : World) : LoadK Try.prog 74 (.pointer (some a)) K w = OptK (w.cell? a) (@hid _ ⟨fun v => K v w⟩) (LoadRaw Try.prog 74 a K w) := by
  exact loadK_eq Try.underlying74 rfl a K w

theorem kia74 (g o n c : Nat) (i : Int) (h : 0 ≤ i ∧ i < (n : Int)) (K : Value → World → Prop) (w : World) : IndexAtK Try.prog 74 (.slice (some ⟨g, o, none⟩) n c) (.int .i64 i) K w = K (.pointer (some ⟨g, o + i.toNat * 2, none⟩)) w := by
  obtain ⟨h0, h1⟩ := h
  unfold IndexAtK; (first | (go_simp; rfl) | (go_simp; done))

theorem kfa78_1 (g o : Nat) (K : Value → World → Prop) (w : World) : FieldAtK Try.prog 78 (.pointer (some ⟨g, o, none⟩)) 1 K w = K (.pointer (some ⟨g, o + 1, none⟩)) w := by
  unfold FieldAtK; (first | (go_simp; rfl) | (go_simp; done))

theorem kst4 (g o : Nat) (v : Bool) (K : Value → World → Prop) (w : World) : StoreK Try.prog 4 (.pointer (some ⟨g, o, none⟩)) (.bool v) K w = OptK (w.cell? ⟨g, o, none⟩) (@hid _ ⟨fun _ => FzK (w.frozen? ⟨g, o, none⟩) (@hid _ ⟨K undef (w.setCell ⟨g, o, none⟩ (.bool v))⟩) (StoreRaw Try.prog 4 ⟨g, o, none⟩ (.bool v) K w)⟩) (StoreRaw Try.prog 4 ⟨g, o, none⟩ (.bool v) K w) := by
  cases h0 : w.cell? ⟨g, o, none⟩ with
  | none => rfl
  | some x =>
  cases f0 : w.frozen? ⟨g, o, none⟩ with
  | true => rfl
  | false =>
  simp only [optK_some, fzK_false]
  unfold StoreK; (first | (go_simp; rfl) | (go_simp; done))

theorem kbd78_0_1 (v0 : ByteArray) (v1 : Bool) (K : Value → World → Prop) (w : World) : BuildK Try.prog 78 #[(0, (.string v0)), (1, (.bool v1))] K w = K (.agg #[(.string v0), (.bool v1)]) w := by
  unfold BuildK; (first | (go_simp; rfl) | (go_simp; done))

theorem kbs74_1_0 (v0_0 : ByteArray) (v0_1 : Bool) (K : Value → World → Prop) (w : World) : BuildSliceK Try.prog 74 1 #[(0, .agg #[(.string v0_0), (.bool v0_1)])] K w = K (.slice (some ⟨w.heap.size, 0, none⟩) 1 1) (w.alloc (.cells #[(.string v0_0), (.bool v0_1)] 78)) := by
  unfold BuildSliceK; (first | (go_simp; rfl) | (go_simp; done))

theorem kst74 (g o : Nat) (vA : Option Addr) (vn vc : Nat) (K : Value → World → Prop) (w : World) : StoreK Try.prog 74 (.pointer (some ⟨g, o, none⟩)) (.slice vA vn vc) K w = OptK (w.cell? ⟨g, o, none⟩) (@hid _ ⟨fun _ => FzK (w.frozen? ⟨g, o, none⟩) (@hid _ ⟨K undef (w.setCell ⟨g, o, none⟩ (.slice vA vn vc))⟩) (StoreRaw Try.prog 74 ⟨g, o, none⟩ (.slice vA vn vc) K w)⟩) (StoreRaw Try.prog 74 ⟨g, o, none⟩ (.slice vA vn vc) K w) := by
  cases h0 : w.cell? ⟨g, o, none⟩ with
  | none => rfl
  | some x =>
  cases f0 : w.frozen? ⟨g, o, none⟩ with
  | true => rfl
  | false =>
  simp only [optK_some, fzK_false]
  unfold StoreK; (first | (go_simp; rfl) | (go_simp; done))

theorem klen74 (A : Option Addr) (n c : Nat) (K : Value → World → Prop) (w : World) : BuiltinK Try.prog .len #[74] 3 #[false] #[(.slice A n c)] K w = K (.int .i64 (n : Int)) w := by
  unfold BuiltinK; (first | (go_simp; rfl) | (go_simp; done))

theorem hlen74 (A : Option Addr) (n c : Nat) {K : Value → Prop} {w1 : World} : TakeO Try.prog (fun w' => w' = w1) (builtin .len #[74] 3 #[false] #[(.slice A n c)]) K = K (.int .i64 (n : Int)) := by
  exact here_o (fun w => by (first | (go_simp; rfl) | (go_simp; done)))

theorem kld78 (g o : Nat) (K : Value → World → Prop) (w : World) : LoadK Try.prog 78 (.pointer (some ⟨g, o, none⟩)) K w = OptK (w.cell? ⟨g, o, none⟩) (@hid _ ⟨fun v0 => OptK (w.cell? ⟨g, o + 1, none⟩) (@hid _ ⟨fun v1 => K (.agg #[v0, v1]) w⟩) (LoadRaw Try.prog 78 ⟨g, o, none⟩ K w)⟩) (LoadRaw Try.prog 78 ⟨g, o, none⟩ K w) := by
  cases h0 : w.cell? ⟨g, o, none⟩ with
  | none => rfl
  | some v0 =>
  cases h1 : w.cell? ⟨g, o + 1, none⟩ with
  | none => rfl
  | some v1 =>
  simp only [optK_some]
  unfold LoadK; (first | (go_simp; rfl) | (go_simp; done))

theorem kal78 (K : Value → World → Prop) (w : World) : AllocK Try.prog 78 K w = K (.pointer (some ⟨w.heap.size, 0, none⟩)) (w.alloc (.cells #[.string ByteArray.empty, .bool false] 78)) := by
  unfold AllocK; (first | (go_simp; rfl) | (go_simp; done))

theorem kst78f (v_0 : ByteArray) (v_1 : Bool) (z0 z1 : Value) (K : Value → World → Prop) (w : World) : StoreK Try.prog 78 (.pointer (some ⟨w.heap.size, 0, none⟩)) (.agg #[(.string v_0), (.bool v_1)]) K (w.alloc (.cells #[z0, z1] 78)) = K undef (w.alloc (.cells #[(.string v_0), (.bool v_1)] 78)) := by
  unfold StoreK; (first | (go_simp; rfl) | (go_simp; done))

theorem kfa78_0 (g o : Nat) (K : Value → World → Prop) (w : World) : FieldAtK Try.prog 78 (.pointer (some ⟨g, o, none⟩)) 0 K w = K (.pointer (some ⟨g, o, none⟩)) w := by
  unfold FieldAtK; (first | (go_simp; rfl) | (go_simp; done))

theorem kld4 (a : Addr) (K : Value → World → Prop) (w : World) : LoadK Try.prog 4 (.pointer (some a)) K w = OptK (w.cell? a) (@hid _ ⟨fun v => K v w⟩) (LoadRaw Try.prog 4 a K w) := by
  exact loadK_eq Try.underlying4 rfl a K w

theorem ksl57_100z (K : Value → World → Prop) (w : World) : SliceK Try.prog 57 (.slice none 0 0) (some (.int .i64 0)) none none K w = K (.slice none 0 0) w := by
  unfold SliceK; (first | (go_simp; rfl) | (go_simp; done) | (go_simp; split <;> simp_all))

theorem ksl57_100 (g o n c : Nat) (l : Int) (hb : 0 ≤ l ∧ l ≤ (n : Int)) (K : Value → World → Prop) (w : World) : SliceK Try.prog 57 (.slice (some ⟨g, o, none⟩) n c) (some (.int .i64 l)) none none K w = K (.slice (if c = l.toNat then some ⟨g, o, none⟩ else some ⟨g, o + l.toNat * 2, none⟩) (n - l.toNat) (c - l.toNat)) w := by
  obtain ⟨q0, q1⟩ := hb
  unfold SliceK; (first | (go_simp; rfl) | (go_simp; done) | (go_simp; split <;> simp_all))

theorem kcap57 (A : Option Addr) (n c : Nat) (K : Value → World → Prop) (w : World) : BuiltinK Try.prog .cap #[57] 3 #[false] #[(.slice A n c)] K w = K (.int .i64 (c : Int)) w := by
  unfold BuiltinK; (first | (go_simp; rfl) | (go_simp; done))

theorem ksl57_010z (K : Value → World → Prop) (w : World) : SliceK Try.prog 57 (.slice none 0 0) none (some (.int .i64 0)) none K w = K (.slice none 0 0) w := by
  unfold SliceK; (first | (go_simp; rfl) | (go_simp; done) | (go_simp; split <;> simp_all))

theorem ksl57_010 (g o n c : Nat) (h : Int) (hb : 0 ≤ h ∧ h ≤ (c : Int)) (K : Value → World → Prop) (w : World) : SliceK Try.prog 57 (.slice (some ⟨g, o, none⟩) n c) none (some (.int .i64 h)) none K w = K (.slice (some ⟨g, o, none⟩) h.toNat c) w := by
  obtain ⟨q0, q1⟩ := hb
  unfold SliceK; (first | (go_simp; rfl) | (go_simp; done) | (go_simp; split <;> simp_all))

theorem ksl57_111 (g o n c : Nat) (l h m : Int) (hb : 0 ≤ l ∧ l ≤ h ∧ h ≤ m ∧ m ≤ (c : Int)) (K : Value → World → Prop) (w : World) : SliceK Try.prog 57 (.slice (some ⟨g, o, none⟩) n c) (some (.int .i64 l)) (some (.int .i64 h)) (some (.int .i64 m)) K w = K (.slice (if m.toNat = l.toNat then some ⟨g, o, none⟩ else some ⟨g, o + l.toNat * 2, none⟩) (h.toNat - l.toNat) (m.toNat - l.toNat)) w := by
  obtain ⟨q0, q1, q2, q3⟩ := hb
  unfold SliceK; (first | (go_simp; rfl) | (go_simp; done) | (go_simp; split <;> simp_all))

theorem ksl57_110 (g o n c : Nat) (l : Int) (h : Int) (hb : 0 ≤ l ∧ l ≤ h ∧ h ≤ (c : Int)) (K : Value → World → Prop) (w : World) : SliceK Try.prog 57 (.slice (some ⟨g, o, none⟩) n c) (some (.int .i64 l)) (some (.int .i64 h)) none K w = K (.slice (if c = l.toNat then some ⟨g, o, none⟩ else some ⟨g, o + l.toNat * 2, none⟩) (h.toNat - l.toNat) (c - l.toNat)) w := by
  obtain ⟨q0, q1, q2⟩ := hb
  unfold SliceK; (first | (go_simp; rfl) | (go_simp; done) | (go_simp; split <;> simp_all))

theorem kbeql57n (a : Addr) (n c : Nat) (K : Value → World → Prop) (w : World) : BinK Try.prog .eql 57 (.slice (some a) n c) (.slice none 0 0) K w = K (.bool false) w := by
  unfold BinK; (first | (go_simp; rfl) | (go_simp; done))

theorem kbeql57z (n c : Nat) (K : Value → World → Prop) (w : World) : BinK Try.prog .eql 57 (.slice none n c) (.slice none 0 0) K w = K (.bool true) w := by
  unfold BinK; (first | (go_simp; rfl) | (go_simp; done))

theorem kbs57_0  (K : Value → World → Prop) (w : World) : BuildSliceK Try.prog 57 0 #[] K w = K (.slice (some ⟨w.heap.size, 0, none⟩) 0 0) (w.alloc (.cells #[] 61)) := by
  unfold BuildSliceK; (first | (go_simp; rfl) | (go_simp; done))

theorem ksl66_100z (K : Value → World → Prop) (w : World) : SliceK Try.prog 66 (.slice none 0 0) (some (.int .i64 0)) none none K w = K (.slice none 0 0) w := by
  unfold SliceK; (first | (go_simp; rfl) | (go_simp; done) | (go_simp; split <;> simp_all))

theorem ksl66_100 (g o n c : Nat) (l : Int) (hb : 0 ≤ l ∧ l ≤ (n : Int)) (K : Value → World → Prop) (w : World) : SliceK Try.prog 66 (.slice (some ⟨g, o, none⟩) n c) (some (.int .i64 l)) none none K w = K (.slice (if c = l.toNat then some ⟨g, o, none⟩ else some ⟨g, o + l.toNat * 2, none⟩) (n - l.toNat) (c - l.toNat)) w := by
  obtain ⟨q0, q1⟩ := hb
  unfold SliceK; (first | (go_simp; rfl) | (go_simp; done) | (go_simp; split <;> simp_all))

theorem kcap66 (A : Option Addr) (n c : Nat) (K : Value → World → Prop) (w : World) : BuiltinK Try.prog .cap #[66] 3 #[false] #[(.slice A n c)] K w = K (.int .i64 (c : Int)) w := by
  unfold BuiltinK; (first | (go_simp; rfl) | (go_simp; done))

theorem ksl66_010z (K : Value → World → Prop) (w : World) : SliceK Try.prog 66 (.slice none 0 0) none (some (.int .i64 0)) none K w = K (.slice none 0 0) w := by
  unfold SliceK; (first | (go_simp; rfl) | (go_simp; done) | (go_simp; split <;> simp_all))

theorem ksl66_010 (g o n c : Nat) (h : Int) (hb : 0 ≤ h ∧ h ≤ (c : Int)) (K : Value → World → Prop) (w : World) : SliceK Try.prog 66 (.slice (some ⟨g, o, none⟩) n c) none (some (.int .i64 h)) none K w = K (.slice (some ⟨g, o, none⟩) h.toNat c) w := by
  obtain ⟨q0, q1⟩ := hb
  unfold SliceK; (first | (go_simp; rfl) | (go_simp; done) | (go_simp; split <;> simp_all))

theorem ksl74_100z (K : Value → World → Prop) (w : World) : SliceK Try.prog 74 (.slice none 0 0) (some (.int .i64 0)) none none K w = K (.slice none 0 0) w := by
  unfold SliceK; (first | (go_simp; rfl) | (go_simp; done) | (go_simp; split <;> simp_all))

theorem ksl74_100 (g o n c : Nat) (l : Int) (hb : 0 ≤ l ∧ l ≤ (n : Int)) (K : Value → World → Prop) (w : World) : SliceK Try.prog 74 (.slice (some ⟨g, o, none⟩) n c) (some (.int .i64 l)) none none K w = K (.slice (if c = l.toNat then some ⟨g, o, none⟩ else some ⟨g, o + l.toNat * 2, none⟩) (n - l.toNat) (c - l.toNat)) w := by
  obtain ⟨q0, q1⟩ := hb
  unfold SliceK; (first | (go_simp; rfl) | (go_simp; done) | (go_simp; split <;> simp_all))

theorem kcap74 (A : Option Addr) (n c : Nat) (K : Value → World → Prop) (w : World) : BuiltinK Try.prog .cap #[74] 3 #[false] #[(.slice A n c)] K w = K (.int .i64 (c : Int)) w := by
  unfold BuiltinK; (first | (go_simp; rfl) | (go_simp; done))

theorem ksl74_010z (K : Value → World → Prop) (w : World) : SliceK Try.prog 74 (.slice none 0 0) none (some (.int .i64 0)) none K w = K (.slice none 0 0) w := by
  unfold SliceK; (first | (go_simp; rfl) | (go_simp; done) | (go_simp; split <;> simp_all))

theorem ksl74_010 (g o n c : Nat) (h : Int) (hb : 0 ≤ h ∧ h ≤ (c : Int)) (K : Value → World → Prop) (w : World) : SliceK Try.prog 74 (.slice (some ⟨g, o, none⟩) n c) none (some (.int .i64 h)) none K w = K (.slice (some ⟨g, o, none⟩) h.toNat c) w := by
  obtain ⟨q0, q1⟩ := hb
  unfold SliceK; (first | (go_simp; rfl) | (go_simp; done) | (go_simp; split <;> simp_all))

theorem kcv3_94 (x : Int) (K : Value → World → Prop) (w : World) : ConvK Try.prog 3 94 (.int .i64 x) K w = K (.int .u64 (IntKind.u64.wrap x)) w := by
  unfold ConvK; (first | (go_simp; rfl) | (go_simp; done))

theorem kbshr94_i32 (x y : Int) (h : 0 ≤ y) (K : Value → World → Prop) (w : World) : BinK Try.prog .shr 94 (.int .u64 x) (.int .i32 y) K w = K (.int .u64 (x / 2 ^ min y.toNat 64)) w := by
  unfold BinK; (first | (go_simp; rfl) | (go_simp; done))

theorem kbshr94_i64 (x y : Int) (h : 0 ≤ y) (K : Value → World → Prop) (w : World) : BinK Try.prog .shr 94 (.int .u64 x) (.int .i64 y) K w = K (.int .u64 (x / 2 ^ min y.toNat 64)) w := by
  unfold BinK; (first | (go_simp; rfl) | (go_simp; done))

theorem kbshr94_u32 (x y : Int) (h : 0 ≤ y) (K : Value → World → Prop) (w : World) : BinK Try.prog .shr 94 (.int .u64 x) (.int .u32 y) K w = K (.int .u64 (x / 2 ^ min y.toNat 64)) w := by
  unfold BinK; (first | (go_simp; rfl) | (go_simp; done))

theorem kbshr94_u64 (x y : Int) (h : 0 ≤ y) (K : Value → World → Prop) (w : World) : BinK Try.prog .shr 94 (.int .u64 x) (.int .u64 y) K w = K (.int .u64 (x / 2 ^ min y.toNat 64)) w := by
  unfold BinK; (first | (go_simp; rfl) | (go_simp; done))

theorem kbshr94_u8 (x y : Int) (h : 0 ≤ y) (K : Value → World → Prop) (w : World) : BinK Try.prog .shr 94 (.int .u64 x) (.int .u8 y) K w = K (.int .u64 (x / 2 ^ min y.toNat 64)) w := by
  unfold BinK; (first | (go_simp; rfl) | (go_simp; done))

theorem kcv94_3 (x : Int) (K : Value → World → Prop) (w : World) : ConvK Try.prog 94 3 (.int .u64 x) K w = K (.int .i64 (IntKind.i64.wrap x)) w := by
  unfold ConvK; (first | (go_simp; rfl) | (go_simp; done))

theorem kbx61 (v_0 : ByteArray) (v_1 : Int) (K : Value → World → Prop) (w : World) : BoxK Try.prog 61 (.agg #[(.string v_0), (.int .i64 v_1)]) K w = K (.pointer (some ⟨w.heap.size, 0, none⟩)) (w.alloc (.cells #[(.string v_0), (.int .i64 v_1)] 61)) := by
  unfold BoxK; (first | (go_simp; rfl) | (go_simp; done))

theorem kbx71 (v_0 : Int) (v_1 : ByteArray) (K : Value → World → Prop) (w : World) : BoxK Try.prog 71 (.agg #[(.int .i64 v_0), (.string v_1)]) K w = K (.pointer (some ⟨w.heap.size, 0, none⟩)) (w.alloc (.cells #[(.int .i64 v_0), (.string v_1)] 71)) := by
  unfold BoxK; (first | (go_simp; rfl) | (go_simp; done))

theorem kblss2 (x y : Int) (K : Value → World → Prop) (w : World) : BinK Try.prog .lss 2 (.int .i64 x) (.int .i64 y) K w = K (.bool (decide (x < y))) w := by
  unfold BinK; (first | (go_simp; rfl) | (go_simp; done))

theorem kbgtr2 (x y : Int) (K : Value → World → Prop) (w : World) : BinK Try.prog .gtr 2 (.int .i64 x) (.int .i64 y) K w = K (.bool (decide (y < x))) w := by
  unfold BinK; (first | (go_simp; rfl) | (go_simp; done))

theorem kbx78 (v_0 : ByteArray) (v_1 : Bool) (K : Value → World → Prop) (w : World) : BoxK Try.prog 78 (.agg #[(.string v_0), (.bool v_1)]) K w = K (.pointer (some ⟨w.heap.size, 0, none⟩)) (w.alloc (.cells #[(.string v_0), (.bool v_1)] 78)) := by
  unfold BoxK; (first | (go_simp; rfl) | (go_simp; done))

theorem ck3 {args : Array Value} {K : Value → World → Prop} {w : World} (h : CallK Try.prog 3 args K w) : CallV Try.prog (.func (.func 3) #[] #[]) args K w := callV_func Try.func3 (by kernel_rfl) (by kernel_rfl) h
theorem ck4 {args : Array Value} {K : Value → World → Prop} {w : World} (h : CallK Try.prog 4 args K w) : CallV Try.prog (.func (.func 4) #[] #[]) args K w := callV_func Try.func4 (by kernel_rfl) (by kernel_rfl) h
theorem ck5 {args : Array Value} {K : Value → World → Prop} {w : World} (h : CallK Try.prog 5 args K w) : CallV Try.prog (.func (.func 5) #[] #[]) args K w := callV_func Try.func5 (by kernel_rfl) (by kernel_rfl) h
theorem ck6 {args : Array Value} {K : Value → World → Prop} {w : World} (h : CallK Try.prog 6 args K w) : CallV Try.prog (.func (.func 6) #[] #[]) args K w := callV_func Try.func6 (by kernel_rfl) (by kernel_rfl) h
theorem ck7 {args : Array Value} {K : Value → World → Prop} {w : World} (h : CallK Try.prog 7 args K w) : CallV Try.prog (.func (.func 7) #[] #[]) args K w := callV_func Try.func7 (by kernel_rfl) (by kernel_rfl) h
theorem ck8 {args : Array Value} {K : Value → World → Prop} {w : World} (h : CallK Try.prog 8 args K w) : CallV Try.prog (.func (.func 8) #[] #[]) args K w := callV_func Try.func8 (by kernel_rfl) (by kernel_rfl) h
theorem ck9 {args : Array Value} {K : Value → World → Prop} {w : World} (h : CallK Try.prog 9 args K w) : CallV Try.prog (.func (.func 9) #[] #[]) args K w := callV_func Try.func9 (by kernel_rfl) (by kernel_rfl) h
theorem ck10 {args : Array Value} {K : Value → World → Prop} {w : World} (h : CallK Try.prog 10 args K w) : CallV Try.prog (.func (.func 10) #[] #[]) args K w := callV_func Try.func10 (by kernel_rfl) (by kernel_rfl) h
theorem ck11 {args : Array Value} {K : Value → World → Prop} {w : World} (h : CallK Try.prog 11 args K w) : CallV Try.prog (.func (.func 11) #[] #[]) args K w := callV_func Try.func11 (by kernel_rfl) (by kernel_rfl) h
theorem ck12 {args : Array Value} {K : Value → World → Prop} {w : World} (h : CallK Try.prog 12 args K w) : CallV Try.prog (.func (.func 12) #[] #[]) args K w := callV_func Try.func12 (by kernel_rfl) (by kernel_rfl) h
theorem ck13 {args : Array Value} {K : Value → World → Prop} {w : World} (h : CallK Try.prog 13 args K w) : CallV Try.prog (.func (.func 13) #[] #[]) args K w := callV_func Try.func13 (by kernel_rfl) (by kernel_rfl) h
theorem ck14 {args : Array Value} {K : Value → World → Prop} {w : World} (h : CallK Try.prog 14 args K w) : CallV Try.prog (.func (.func 14) #[] #[]) args K w := callV_func Try.func14 (by kernel_rfl) (by kernel_rfl) h
theorem ck15 {args : Array Value} {K : Value → World → Prop} {w : World} (h : CallK Try.prog 15 args K w) : CallV Try.prog (.func (.func 15) #[] #[]) args K w := callV_func Try.func15 (by kernel_rfl) (by kernel_rfl) h
theorem ck16 {args : Array Value} {K : Value → World → Prop} {w : World} (h : CallK Try.prog 16 args K w) : CallV Try.prog (.func (.func 16) #[] #[]) args K w := callV_func Try.func16 (by kernel_rfl) (by kernel_rfl) h
theorem ck17 {args : Array Value} {K : Value → World → Prop} {w : World} (h : CallK Try.prog 17 args K w) : CallV Try.prog (.func (.func 17) #[] #[]) args K w := callV_func Try.func17 (by kernel_rfl) (by kernel_rfl) h
theorem ck18 {args : Array Value} {K : Value → World → Prop} {w : World} (h : CallK Try.prog 18 args K w) : CallV Try.prog (.func (.func 18) #[] #[]) args K w := callV_func Try.func18 (by kernel_rfl) (by kernel_rfl) h
theorem ck19 {args : Array Value} {K : Value → World → Prop} {w : World} (h : CallK Try.prog 19 args K w) : CallV Try.prog (.func (.func 19) #[] #[]) args K w := callV_func Try.func19 (by kernel_rfl) (by kernel_rfl) h
theorem ck20 {args : Array Value} {K : Value → World → Prop} {w : World} (h : CallK Try.prog 20 args K w) : CallV Try.prog (.func (.func 20) #[] #[]) args K w := callV_func Try.func20 (by kernel_rfl) (by kernel_rfl) h
theorem ck21 {args : Array Value} {K : Value → World → Prop} {w : World} (h : CallK Try.prog 21 args K w) : CallV Try.prog (.func (.func 21) #[] #[]) args K w := callV_func Try.func21 (by kernel_rfl) (by kernel_rfl) h
theorem ck22 {args : Array Value} {K : Value → World → Prop} {w : World} (h : CallK Try.prog 22 args K w) : CallV Try.prog (.func (.func 22) #[] #[]) args K w := callV_func Try.func22 (by kernel_rfl) (by kernel_rfl) h
theorem ck23 {args : Array Value} {K : Value → World → Prop} {w : World} (h : CallK Try.prog 23 args K w) : CallV Try.prog (.func (.func 23) #[] #[]) args K w := callV_func Try.func23 (by kernel_rfl) (by kernel_rfl) h
theorem ck24 {args : Array Value} {K : Value → World → Prop} {w : World} (h : CallK Try.prog 24 args K w) : CallV Try.prog (.func (.func 24) #[] #[]) args K w := callV_func Try.func24 (by kernel_rfl) (by kernel_rfl) h
theorem ck25 {args : Array Value} {K : Value → World → Prop} {w : World} (h : CallK Try.prog 25 args K w) : CallV Try.prog (.func (.func 25) #[] #[]) args K w := callV_func Try.func25 (by kernel_rfl) (by kernel_rfl) h
theorem ck26 {args : Array Value} {K : Value → World → Prop} {w : World} (h : CallK Try.prog 26 args K w) : CallV Try.prog (.func (.func 26) #[] #[]) args K w := callV_func Try.func26 (by kernel_rfl) (by kernel_rfl) h
theorem ck27 {args : Array Value} {K : Value → World → Prop} {w : World} (h : CallK Try.prog 27 args K w) : CallV Try.prog (.func (.func 27) #[] #[]) args K w := callV_func Try.func27 (by kernel_rfl) (by kernel_rfl) h
theorem ck28 {args : Array Value} {K : Value → World → Prop} {w : World} (h : CallK Try.prog 28 args K w) : CallV Try.prog (.func (.func 28) #[] #[]) args K w := callV_func Try.func28 (by kernel_rfl) (by kernel_rfl) h
theorem ck29 {args : Array Value} {K : Value → World → Prop} {w : World} (h : CallK Try.prog 29 args K w) : CallV Try.prog (.func (.func 29) #[] #[]) args K w := callV_func Try.func29 (by kernel_rfl) (by kernel_rfl) h
theorem ck30 {args : Array Value} {K : Value → World → Prop} {w : World} (h : CallK Try.prog 30 args K w) : CallV Try.prog (.func (.func 30) #[] #[]) args K w := callV_func Try.func30 (by kernel_rfl) (by kernel_rfl) h
theorem ck31 {args : Array Value} {K : Value → World → Prop} {w : World} (h : CallK Try.prog 31 args K w) : CallV Try.prog (.func (.func 31) #[] #[]) args K w := callV_func Try.func31 (by kernel_rfl) (by kernel_rfl) h
theorem ck32 {args : Array Value} {K : Value → World → Prop} {w : World} (h : CallK Try.prog 32 args K w) : CallV Try.prog (.func (.func 32) #[] #[]) args K w := callV_func Try.func32 (by kernel_rfl) (by kernel_rfl) h
theorem ck33 {args : Array Value} {K : Value → World → Prop} {w : World} (h : CallK Try.prog 33 args K w) : CallV Try.prog (.func (.func 33) #[] #[]) args K w := callV_func Try.func33 (by kernel_rfl) (by kernel_rfl) h
theorem ck34 {args : Array Value} {K : Value → World → Prop} {w : World} (h : CallK Try.prog 34 args K w) : CallV Try.prog (.func (.func 34) #[] #[]) args K w := callV_func Try.func34 (by kernel_rfl) (by kernel_rfl) h
theorem ck35 {args : Array Value} {K : Value → World → Prop} {w : World} (h : CallK Try.prog 35 args K w) : CallV Try.prog (.func (.func 35) #[] #[]) args K w := callV_func Try.func35 (by kernel_rfl) (by kernel_rfl) h
theorem ck36 {args : Array Value} {K : Value → World → Prop} {w : World} (h : CallK Try.prog 36 args K w) : CallV Try.prog (.func (.func 36) #[] #[]) args K w := callV_func Try.func36 (by kernel_rfl) (by kernel_rfl) h
theorem ck37 {args : Array Value} {K : Value → World → Prop} {w : World} (h : CallK Try.prog 37 args K w) : CallV Try.prog (.func (.func 37) #[] #[]) args K w := callV_func Try.func37 (by kernel_rfl) (by kernel_rfl) h
theorem ck38 {args : Array Value} {K : Value → World → Prop} {w : World} (h : CallK Try.prog 38 args K w) : CallV Try.prog (.func (.func 38) #[] #[]) args K w := callV_func Try.func38 (by kernel_rfl) (by kernel_rfl) h
theorem ck39 {args : Array Value} {K : Value → World → Prop} {w : World} (h : CallK Try.prog 39 args K w) : CallV Try.prog (.func (.func 39) #[] #[]) args K w := callV_func Try.func39 (by kernel_rfl) (by kernel_rfl) h
theorem ck40 {args : Array Value} {K : Value → World → Prop} {w : World} (h : CallK Try.prog 40 args K w) : CallV Try.prog (.func (.func 40) #[] #[]) args K w := callV_func Try.func40 (by kernel_rfl) (by kernel_rfl) h
theorem ck41 {args : Array Value} {K : Value → World → Prop} {w : World} (h : CallK Try.prog 41 args K w) : CallV Try.prog (.func (.func 41) #[] #[]) args K w := callV_func Try.func41 (by kernel_rfl) (by kernel_rfl) h
theorem ck42 {args : Array Value} {K : Value → World → Prop} {w : World} (h : CallK Try.prog 42 args K w) : CallV Try.prog (.func (.func 42) #[] #[]) args K w := callV_func Try.func42 (by kernel_rfl) (by kernel_rfl) h
theorem ck45 {args : Array Value} {K : Value → World → Prop} {w : World} (h : CallK Try.prog 45 args K w) : CallV Try.prog (.func (.func 45) #[] #[]) args K w := callV_func Try.func45 (by kernel_rfl) (by kernel_rfl) h
theorem ck46 {args : Array Value} {K : Value → World → Prop} {w : World} (h : CallK Try.prog 46 args K w) : CallV Try.prog (.func (.func 46) #[] #[]) args K w := callV_func Try.func46 (by kernel_rfl) (by kernel_rfl) h
theorem ck47 {args : Array Value} {K : Value → World → Prop} {w : World} (h : CallK Try.prog 47 args K w) : CallV Try.prog (.func (.func 47) #[] #[]) args K w := callV_func Try.func47 (by kernel_rfl) (by kernel_rfl) h
theorem ck50 {args : Array Value} {K : Value → World → Prop} {w : World} (h : CallK Try.prog 50 args K w) : CallV Try.prog (.func (.func 50) #[] #[]) args K w := callV_func Try.func50 (by kernel_rfl) (by kernel_rfl) h
theorem ck51 {args : Array Value} {K : Value → World → Prop} {w : World} (h : CallK Try.prog 51 args K w) : CallV Try.prog (.func (.func 51) #[] #[]) args K w := callV_func Try.func51 (by kernel_rfl) (by kernel_rfl) h
theorem ck54 {args : Array Value} {K : Value → World → Prop} {w : World} (h : CallK Try.prog 54 args K w) : CallV Try.prog (.func (.func 54) #[] #[]) args K w := callV_func Try.func54 (by kernel_rfl) (by kernel_rfl) h
theorem ck56 {args : Array Value} {K : Value → World → Prop} {w : World} (h : CallK Try.prog 56 args K w) : CallV Try.prog (.func (.func 56) #[] #[]) args K w := callV_func Try.func56 (by kernel_rfl) (by kernel_rfl) h
theorem cv3 {args : Array Value} {K : Value → World → Prop} {w : World} {v : Value} {R : World → Prop} (h : Calls Try.prog 3 args w fun e w' => e = .returned v ∧ R w') (hk : ∀ w', R w' → K v w') : CallV Try.prog (.func (.func 3) #[] #[]) args K w := callV_of Try.func3 (by kernel_rfl) (by kernel_rfl) h hk
theorem cv4 {args : Array Value} {K : Value → World → Prop} {w : World} {v : Value} {R : World → Prop} (h : Calls Try.prog 4 args w fun e w' => e = .returned v ∧ R w') (hk : ∀ w', R w' → K v w') : CallV Try.prog (.func (.func 4) #[] #[]) args K w := callV_of Try.func4 (by kernel_rfl) (by kernel_rfl) h hk
theorem cv5 {args : Array Value} {K : Value → World → Prop} {w : World} {v : Value} {R : World → Prop} (h : Calls Try.prog 5 args w fun e w' => e = .returned v ∧ R w') (hk : ∀ w', R w' → K v w') : CallV Try.prog (.func (.func 5) #[] #[]) args K w := callV_of Try.func5 (by kernel_rfl) (by kernel_rfl) h hk
theorem cv6 {args : Array Value} {K : Value → World → Prop} {w : World} {v : Value} {R : World → Prop} (h : Calls Try.prog 6 args w fun e w' => e = .returned v ∧ R w') (hk : ∀ w', R w' → K v w') : CallV Try.prog (.func (.func 6) #[] #[]) args K w := callV_of Try.func6 (by kernel_rfl) (by kernel_rfl) h hk
theorem cv7 {args : Array Value} {K : Value → World → Prop} {w : World} {v : Value} {R : World → Prop} (h : Calls Try.prog 7 args w fun e w' => e = .returned v ∧ R w') (hk : ∀ w', R w' → K v w') : CallV Try.prog (.func (.func 7) #[] #[]) args K w := callV_of Try.func7 (by kernel_rfl) (by kernel_rfl) h hk
theorem cv8 {args : Array Value} {K : Value → World → Prop} {w : World} {v : Value} {R : World → Prop} (h : Calls Try.prog 8 args w fun e w' => e = .returned v ∧ R w') (hk : ∀ w', R w' → K v w') : CallV Try.prog (.func (.func 8) #[] #[]) args K w := callV_of Try.func8 (by kernel_rfl) (by kernel_rfl) h hk
theorem cv9 {args : Array Value} {K : Value → World → Prop} {w : World} {v : Value} {R : World → Prop} (h : Calls Try.prog 9 args w fun e w' => e = .returned v ∧ R w') (hk : ∀ w', R w' → K v w') : CallV Try.prog (.func (.func 9) #[] #[]) args K w := callV_of Try.func9 (by kernel_rfl) (by kernel_rfl) h hk
theorem cv10 {args : Array Value} {K : Value → World → Prop} {w : World} {v : Value} {R : World → Prop} (h : Calls Try.prog 10 args w fun e w' => e = .returned v ∧ R w') (hk : ∀ w', R w' → K v w') : CallV Try.prog (.func (.func 10) #[] #[]) args K w := callV_of Try.func10 (by kernel_rfl) (by kernel_rfl) h hk
theorem cv11 {args : Array Value} {K : Value → World → Prop} {w : World} {v : Value} {R : World → Prop} (h : Calls Try.prog 11 args w fun e w' => e = .returned v ∧ R w') (hk : ∀ w', R w' → K v w') : CallV Try.prog (.func (.func 11) #[] #[]) args K w := callV_of Try.func11 (by kernel_rfl) (by kernel_rfl) h hk
theorem cv12 {args : Array Value} {K : Value → World → Prop} {w : World} {v : Value} {R : World → Prop} (h : Calls Try.prog 12 args w fun e w' => e = .returned v ∧ R w') (hk : ∀ w', R w' → K v w') : CallV Try.prog (.func (.func 12) #[] #[]) args K w := callV_of Try.func12 (by kernel_rfl) (by kernel_rfl) h hk
theorem cv13 {args : Array Value} {K : Value → World → Prop} {w : World} {v : Value} {R : World → Prop} (h : Calls Try.prog 13 args w fun e w' => e = .returned v ∧ R w') (hk : ∀ w', R w' → K v w') : CallV Try.prog (.func (.func 13) #[] #[]) args K w := callV_of Try.func13 (by kernel_rfl) (by kernel_rfl) h hk
theorem cv14 {args : Array Value} {K : Value → World → Prop} {w : World} {v : Value} {R : World → Prop} (h : Calls Try.prog 14 args w fun e w' => e = .returned v ∧ R w') (hk : ∀ w', R w' → K v w') : CallV Try.prog (.func (.func 14) #[] #[]) args K w := callV_of Try.func14 (by kernel_rfl) (by kernel_rfl) h hk
theorem cv15 {args : Array Value} {K : Value → World → Prop} {w : World} {v : Value} {R : World → Prop} (h : Calls Try.prog 15 args w fun e w' => e = .returned v ∧ R w') (hk : ∀ w', R w' → K v w') : CallV Try.prog (.func (.func 15) #[] #[]) args K w := callV_of Try.func15 (by kernel_rfl) (by kernel_rfl) h hk
theorem cv16 {args : Array Value} {K : Value → World → Prop} {w : World} {v : Value} {R : World → Prop} (h : Calls Try.prog 16 args w fun e w' => e = .returned v ∧ R w') (hk : ∀ w', R w' → K v w') : CallV Try.prog (.func (.func 16) #[] #[]) args K w := callV_of Try.func16 (by kernel_rfl) (by kernel_rfl) h hk
theorem cv17 {args : Array Value} {K : Value → World → Prop} {w : World} {v : Value} {R : World → Prop} (h : Calls Try.prog 17 args w fun e w' => e = .returned v ∧ R w') (hk : ∀ w', R w' → K v w') : CallV Try.prog (.func (.func 17) #[] #[]) args K w := callV_of Try.func17 (by kernel_rfl) (by kernel_rfl) h hk
theorem cv18 {args : Array Value} {K : Value → World → Prop} {w : World} {v : Value} {R : World → Prop} (h : Calls Try.prog 18 args w fun e w' => e = .returned v ∧ R w') (hk : ∀ w', R w' → K v w') : CallV Try.prog (.func (.func 18) #[] #[]) args K w := callV_of Try.func18 (by kernel_rfl) (by kernel_rfl) h hk
theorem cv19 {args : Array Value} {K : Value → World → Prop} {w : World} {v : Value} {R : World → Prop} (h : Calls Try.prog 19 args w fun e w' => e = .returned v ∧ R w') (hk : ∀ w', R w' → K v w') : CallV Try.prog (.func (.func 19) #[] #[]) args K w := callV_of Try.func19 (by kernel_rfl) (by kernel_rfl) h hk
theorem cv20 {args : Array Value} {K : Value → World → Prop} {w : World} {v : Value} {R : World → Prop} (h : Calls Try.prog 20 args w fun e w' => e = .returned v ∧ R w') (hk : ∀ w', R w' → K v w') : CallV Try.prog (.func (.func 20) #[] #[]) args K w := callV_of Try.func20 (by kernel_rfl) (by kernel_rfl) h hk
theorem cv21 {args : Array Value} {K : Value → World → Prop} {w : World} {v : Value} {R : World → Prop} (h : Calls Try.prog 21 args w fun e w' => e = .returned v ∧ R w') (hk : ∀ w', R w' → K v w') : CallV Try.prog (.func (.func 21) #[] #[]) args K w := callV_of Try.func21 (by kernel_rfl) (by kernel_rfl) h hk
theorem cv22 {args : Array Value} {K : Value → World → Prop} {w : World} {v : Value} {R : World → Prop} (h : Calls Try.prog 22 args w fun e w' => e = .returned v ∧ R w') (hk : ∀ w', R w' → K v w') : CallV Try.prog (.func (.func 22) #[] #[]) args K w := callV_of Try.func22 (by kernel_rfl) (by kernel_rfl) h hk
theorem cv23 {args : Array Value} {K : Value → World → Prop} {w : World} {v : Value} {R : World → Prop} (h : Calls Try.prog 23 args w fun e w' => e = .returned v ∧ R w') (hk : ∀ w', R w' → K v w') : CallV Try.prog (.func (.func 23) #[] #[]) args K w := callV_of Try.func23 (by kernel_rfl) (by kernel_rfl) h hk
theorem cv24 {args : Array Value} {K : Value → World → Prop} {w : World} {v : Value} {R : World → Prop} (h : Calls Try.prog 24 args w fun e w' => e = .returned v ∧ R w') (hk : ∀ w', R w' → K v w') : CallV Try.prog (.func (.func 24) #[] #[]) args K w := callV_of Try.func24 (by kernel_rfl) (by kernel_rfl) h hk
theorem cv25 {args : Array Value} {K : Value → World → Prop} {w : World} {v : Value} {R : World → Prop} (h : Calls Try.prog 25 args w fun e w' => e = .returned v ∧ R w') (hk : ∀ w', R w' → K v w') : CallV Try.prog (.func (.func 25) #[] #[]) args K w := callV_of Try.func25 (by kernel_rfl) (by kernel_rfl) h hk
theorem cv26 {args : Array Value} {K : Value → World → Prop} {w : World} {v : Value} {R : World → Prop} (h : Calls Try.prog 26 args w fun e w' => e = .returned v ∧ R w') (hk : ∀ w', R w' → K v w') : CallV Try.prog (.func (.func 26) #[] #[]) args K w := callV_of Try.func26 (by kernel_rfl) (by kernel_rfl) h hk
theorem cv27 {args : Array Value} {K : Value → World → Prop} {w : World} {v : Value} {R : World → Prop} (h : Calls Try.prog 27 args w fun e w' => e = .returned v ∧ R w') (hk : ∀ w', R w' → K v w') : CallV Try.prog (.func (.func 27) #[] #[]) args K w := callV_of Try.func27 (by kernel_rfl) (by kernel_rfl) h hk
theorem cv28 {args : Array Value} {K : Value → World → Prop} {w : World} {v : Value} {R : World → Prop} (h : Calls Try.prog 28 args w fun e w' => e = .returned v ∧ R w') (hk : ∀ w', R w' → K v w') : CallV Try.prog (.func (.func 28) #[] #[]) args K w := callV_of Try.func28 (by kernel_rfl) (by kernel_rfl) h hk
theorem cv29 {args : Array Value} {K : Value → World → Prop} {w : World} {v : Value} {R : World → Prop} (h : Calls Try.prog 29 args w fun e w' => e = .returned v ∧ R w') (hk : ∀ w', R w' → K v w') : CallV Try.prog (.func (.func 29) #[] #[]) args K w := callV_of Try.func29 (by kernel_rfl) (by kernel_rfl) h hk
theorem cv30 {args : Array Value} {K : Value → World → Prop} {w : World} {v : Value} {R : World → Prop} (h : Calls Try.prog 30 args w fun e w' => e = .returned v ∧ R w') (hk : ∀ w', R w' → K v w') : CallV Try.prog (.func (.func 30) #[] #[]) args K w := callV_of Try.func30 (by kernel_rfl) (by kernel_rfl) h hk
theorem cv31 {args : Array Value} {K : Value → World → Prop} {w : World} {v : Value} {R : World → Prop} (h : Calls Try.prog 31 args w fun e w' => e = .returned v ∧ R w') (hk : ∀ w', R w' → K v w') : CallV Try.prog (.func (.func 31) #[] #[]) args K w := callV_of Try.func31 (by kernel_rfl) (by kernel_rfl) h hk
theorem cv32 {args : Array Value} {K : Value → World → Prop} {w : World} {v : Value} {R : World → Prop} (h : Calls Try.prog 32 args w fun e w' => e = .returned v ∧ R w') (hk : ∀ w', R w' → K v w') : CallV Try.prog (.func (.func 32) #[] #[]) args K w := callV_of Try.func32 (by kernel_rfl) (by kernel_rfl) h hk
theorem cv33 {args : Array Value} {K : Value → World → Prop} {w : World} {v : Value} {R : World → Prop} (h : Calls Try.prog 33 args w fun e w' => e = .returned v ∧ R w') (hk : ∀ w', R w' → K v w') : CallV Try.prog (.func (.func 33) #[] #[]) args K w := callV_of Try.func33 (by kernel_rfl) (by kernel_rfl) h hk
theorem cv34 {args : Array Value} {K : Value → World → Prop} {w : World} {v : Value} {R : World → Prop} (h : Calls Try.prog 34 args w fun e w' => e = .returned v ∧ R w') (hk : ∀ w', R w' → K v w') : CallV Try.prog (.func (.func 34) #[] #[]) args K w := callV_of Try.func34 (by kernel_rfl) (by kernel_rfl) h hk
theorem cv35 {args : Array Value} {K : Value → World → Prop} {w : World} {v : Value} {R : World → Prop} (h : Calls Try.prog 35 args w fun e w' => e = .returned v ∧ R w') (hk : ∀ w', R w' → K v w') : CallV Try.prog (.func (.func 35) #[] #[]) args K w := callV_of Try.func35 (by kernel_rfl) (by kernel_rfl) h hk
theorem cv36 {args : Array Value} {K : Value → World → Prop} {w : World} {v : Value} {R : World → Prop} (h : Calls Try.prog 36 args w fun e w' => e = .returned v ∧ R w') (hk : ∀ w', R w' → K v w') : CallV Try.prog (.func (.func 36) #[] #[]) args K w := callV_of Try.func36 (by kernel_rfl) (by kernel_rfl) h hk
theorem cv37 {args : Array Value} {K : Value → World → Prop} {w : World} {v : Value} {R : World → Prop} (h : Calls Try.prog 37 args w fun e w' => e = .returned v ∧ R w') (hk : ∀ w', R w' → K v w') : CallV Try.prog (.func (.func 37) #[] #[]) args K w := callV_of Try.func37 (by kernel_rfl) (by kernel_rfl) h hk
theorem cv38 {args : Array Value} {K : Value → World → Prop} {w : World} {v : Value} {R : World → Prop} (h : Calls Try.prog 38 args w fun e w' => e = .returned v ∧ R w') (hk : ∀ w', R w' → K v w') : CallV Try.prog (.func (.func 38) #[] #[]) args K w := callV_of Try.func38 (by kernel_rfl) (by kernel_rfl) h hk
theorem cv39 {args : Array Value} {K : Value → World → Prop} {w : World} {v : Value} {R : World → Prop} (h : Calls Try.prog 39 args w fun e w' => e = .returned v ∧ R w') (hk : ∀ w', R w' → K v w') : CallV Try.prog (.func (.func 39) #[] #[]) args K w := callV_of Try.func39 (by kernel_rfl) (by kernel_rfl) h hk
theorem cv40 {args : Array Value} {K : Value → World → Prop} {w : World} {v : Value} {R : World → Prop} (h : Calls Try.prog 40 args w fun e w' => e = .returned v ∧ R w') (hk : ∀ w', R w' → K v w') : CallV Try.prog (.func (.func 40) #[] #[]) args K w := callV_of Try.func40 (by kernel_rfl) (by kernel_rfl) h hk
theorem cv41 {args : Array Value} {K : Value → World → Prop} {w : World} {v : Value} {R : World → Prop} (h : Calls Try.prog 41 args w fun e w' => e = .returned v ∧ R w') (hk : ∀ w', R w' → K v w') : CallV Try.prog (.func (.func 41) #[] #[]) args K w := callV_of Try.func41 (by kernel_rfl) (by kernel_rfl) h hk
theorem cv42 {args : Array Value} {K : Value → World → Prop} {w : World} {v : Value} {R : World → Prop} (h : Calls Try.prog 42 args w fun e w' => e = .returned v ∧ R w') (hk : ∀ w', R w' → K v w') : CallV Try.prog (.func (.func 42) #[] #[]) args K w := callV_of Try.func42 (by kernel_rfl) (by kernel_rfl) h hk
theorem cv45 {args : Array Value} {K : Value → World → Prop} {w : World} {v : Value} {R : World → Prop} (h : Calls Try.prog 45 args w fun e w' => e = .returned v ∧ R w') (hk : ∀ w', R w' → K v w') : CallV Try.prog (.func (.func 45) #[] #[]) args K w := callV_of Try.func45 (by kernel_rfl) (by kernel_rfl) h hk
theorem cv46 {args : Array Value} {K : Value → World → Prop} {w : World} {v : Value} {R : World → Prop} (h : Calls Try.prog 46 args w fun e w' => e = .returned v ∧ R w') (hk : ∀ w', R w' → K v w') : CallV Try.prog (.func (.func 46) #[] #[]) args K w := callV_of Try.func46 (by kernel_rfl) (by kernel_rfl) h hk
theorem cv47 {args : Array Value} {K : Value → World → Prop} {w : World} {v : Value} {R : World → Prop} (h : Calls Try.prog 47 args w fun e w' => e = .returned v ∧ R w') (hk : ∀ w', R w' → K v w') : CallV Try.prog (.func (.func 47) #[] #[]) args K w := callV_of Try.func47 (by kernel_rfl) (by kernel_rfl) h hk
theorem cv50 {args : Array Value} {K : Value → World → Prop} {w : World} {v : Value} {R : World → Prop} (h : Calls Try.prog 50 args w fun e w' => e = .returned v ∧ R w') (hk : ∀ w', R w' → K v w') : CallV Try.prog (.func (.func 50) #[] #[]) args K w := callV_of Try.func50 (by kernel_rfl) (by kernel_rfl) h hk
theorem cv51 {args : Array Value} {K : Value → World → Prop} {w : World} {v : Value} {R : World → Prop} (h : Calls Try.prog 51 args w fun e w' => e = .returned v ∧ R w') (hk : ∀ w', R w' → K v w') : CallV Try.prog (.func (.func 51) #[] #[]) args K w := callV_of Try.func51 (by kernel_rfl) (by kernel_rfl) h hk
theorem cv54 {args : Array Value} {K : Value → World → Prop} {w : World} {v : Value} {R : World → Prop} (h : Calls Try.prog 54 args w fun e w' => e = .returned v ∧ R w') (hk : ∀ w', R w' → K v w') : CallV Try.prog (.func (.func 54) #[] #[]) args K w := callV_of Try.func54 (by kernel_rfl) (by kernel_rfl) h hk
theorem cv56 {args : Array Value} {K : Value → World → Prop} {w : World} {v : Value} {R : World → Prop} (h : Calls Try.prog 56 args w fun e w' => e = .returned v ∧ R w') (hk : ∀ w', R w' → K v w') : CallV Try.prog (.func (.func 56) #[] #[]) args K w := callV_of Try.func56 (by kernel_rfl) (by kernel_rfl) h hk

/-- canton/cantonlaw1.MapTexts, its body as a formula. -/
def F3 (x0 x1 x2 : Value) (R : Value → World → Prop) (w0 : World) : Prop :=
  CallV Try.prog (.func (.func 7) #[] #[]) #[] (@hid _ ⟨fun t32_1 w2 =>
  UnK Try.prog Go.UnOp.not t32_1 (@hid _ ⟨fun t33_3 w4 =>
  BrK t33_3 (@hid _ ⟨
   R (Go.Value.bool false) w4⟩) (@hid _ ⟨
   BuiltinK Try.prog Go.Builtin.len #[22] 3 #[false] #[x0] (@hid _ ⟨fun t35_5 w6 =>
   BinK Try.prog Go.BinOp.gtr 3 t35_5 (Go.Value.int Go.IntKind.i64 100) (@hid _ ⟨fun t36_7 w8 =>
   BrK t36_7 (@hid _ ⟨
    R (Go.Value.bool true) w8⟩) (@hid _ ⟨
    CallV Try.prog (.func (.func 8) #[] #[]) #[] (@hid _ ⟨fun t37_9 w10 =>
    LoopK4 t37_9 (Go.Value.slice none 0 0) (Go.Value.slice none 0 0) (Go.Value.int Go.IntKind.i64 0) w10 (@hid _ ⟨fun _ x7_11 x8_12 x9_13 x10_14 w15 B16 =>
     BuiltinK Try.prog Go.Builtin.len #[22] 3 #[false] #[x0] (@hid _ ⟨fun t40_17 w18 =>
     BinK Try.prog Go.BinOp.lss 3 x10_14 t40_17 (@hid _ ⟨fun t41_19 w20 =>
     BrK t41_19 (@hid _ ⟨
      IndexAtK Try.prog 22 x0 x10_14 (@hid _ ⟨fun t46_21 w22 =>
      LoadK Try.prog 29 t46_21 (@hid _ ⟨fun t47_23 w24 =>
      AllocK Try.prog 29 (@hid _ ⟨fun t11_25 w26 =>
      StoreK Try.prog 29 t11_25 t47_23 (@hid _ ⟨fun tu_27 w28 =>
      FieldAtK Try.prog 29 t11_25 1 (@hid _ ⟨fun t48_29 w30 =>
      LoadK Try.prog 9 t48_29 (@hid _ ⟨fun t49_31 w32 =>
      BuiltinK Try.prog Go.Builtin.len #[9] 3 #[false] #[t49_31] (@hid _ ⟨fun t50_33 w34 =>
      BinK Try.prog Go.BinOp.gtr 3 t50_33 (Go.Value.int Go.IntKind.i64 100) (@hid _ ⟨fun t51_35 w36 =>
      BrK t51_35 (@hid _ ⟨
       R (Go.Value.bool true) w36⟩) (@hid _ ⟨
       FieldAtK Try.prog 29 t11_25 1 (@hid _ ⟨fun t54_37 w38 =>
       LoadK Try.prog 9 t54_37 (@hid _ ⟨fun t55_39 w40 =>
       CallV Try.prog (.func (.func 9) #[] #[]) #[x8_12, t55_39] (@hid _ ⟨fun t56_41 w42 =>
       ExtractK Try.prog t56_41 0 (@hid _ ⟨fun t57_43 w44 =>
       ExtractK Try.prog t56_41 1 (@hid _ ⟨fun t58_45 w46 =>
       CutK3 (@hid _ ⟨fun R47 =>
        FieldAtK Try.prog 29 t11_25 0 (@hid _ ⟨fun t59_52 w53 =>
        LoadK Try.prog 3 t59_52 (@hid _ ⟨fun t60_54 w55 =>
        BinK Try.prog Go.BinOp.eql 3 t60_54 (Go.Value.int Go.IntKind.i64 1) (@hid _ ⟨fun t62_56 w57 =>
        BrK t62_56 (@hid _ ⟨
         FieldAtK Try.prog 29 t11_25 1 (@hid _ ⟨fun t64_58 w59 =>
         LoadK Try.prog 9 t64_58 (@hid _ ⟨fun t65_60 w61 =>
         FieldAtK Try.prog 29 t11_25 2 (@hid _ ⟨fun t66_62 w63 =>
         LoadK Try.prog 3 t66_62 (@hid _ ⟨fun t67_64 w65 =>
         CallV Try.prog (.func (.func 10) #[] #[]) #[x7_11, t65_60, t67_64] (@hid _ ⟨fun t68_66 w67 =>
         UnK Try.prog Go.UnOp.not t58_45 (@hid _ ⟨fun t70_68 w69 =>
         BinK Try.prog Go.BinOp.neq 4 t68_66 t70_68 (@hid _ ⟨fun t71_70 w71 =>
         BrK t71_70 (@hid _ ⟨
          R (Go.Value.bool false) w71⟩) (@hid _ ⟨
          BrK t58_45 (@hid _ ⟨
           BuildSliceK Try.prog 27 0 #[] (@hid _ ⟨fun t73_72 w73 =>
           BuiltinK Try.prog Go.Builtin.append #[27, 27] 27 #[false, false] #[t73_72, x9_13] (@hid _ ⟨fun t75_74 w75 =>
           FieldAtK Try.prog 29 t11_25 2 (@hid _ ⟨fun t78_76 w77 =>
           LoadK Try.prog 3 t78_76 (@hid _ ⟨fun t79_78 w79 =>
           IndexAtK Try.prog 27 t75_74 t57_43 (@hid _ ⟨fun t80_80 w81 =>
           StoreK Try.prog 3 t80_80 t79_78 (@hid _ ⟨fun tu_82 w83 =>
           R47 x7_11 x8_12 t75_74 w83⟩) w81⟩) w79⟩) w77⟩) w75⟩) w73⟩) w71⟩) (@hid _ ⟨
           CutK1 (@hid _ ⟨fun R84 =>
            DrawK (@hid _ ⟨fun S87 w88 =>
            TakeS Try.prog S87 (Instr.sliceAt 26 x8_12 none (some t57_43) none) (@hid _ ⟨fun t84_89 =>
            TakeS Try.prog S87 (Instr.fieldAt 29 t11_25 1) (@hid _ ⟨fun t86_90 =>
            TakeS Try.prog S87 (Instr.loadAt 9 t86_90) (@hid _ ⟨fun t87_91 =>
            TakeS Try.prog S87 (Instr.sliceAt 26 x8_12 (some t57_43) none none) (@hid _ ⟨fun t92_92 =>
            (BuildSliceK Try.prog 26 0 #[] (@hid _ ⟨fun t81_93 w94 =>
            S87 w94 ∧
            (BuiltinK Try.prog Go.Builtin.append #[26, 26] 26 #[false, false] #[t81_93, t84_89] (@hid _ ⟨fun t85_95 w96 =>
            S87 w96 ∧
            (BuildSliceK Try.prog 26 1 #[(0, t87_91)] (@hid _ ⟨fun t88_97 w98 =>
            S87 w98 ∧
            (BuiltinK Try.prog Go.Builtin.append #[26, 26] 26 #[false, false] #[t85_95, t88_97] (@hid _ ⟨fun t89_99 w100 =>
            S87 w100 ∧
            (BuiltinK Try.prog Go.Builtin.append #[26, 26] 26 #[false, false] #[t89_99, t92_92] (@hid _ ⟨fun t93_101 w102 =>
            S87 w102 ∧
            R84 t93_101 w102⟩) w100) ∧
            True⟩) w98) ∧
            True⟩) w96) ∧
            True⟩) w94) ∧
            (BuildSliceK Try.prog 26 1 #[(0, t87_91)] (@hid _ ⟨fun t88_103 w104 =>
            S87 w104 ∧
            (BuiltinK Try.prog Go.Builtin.append #[26, 26] 26 #[false, false] #[t81_93, t84_89] (@hid _ ⟨fun t85_105 w106 =>
            S87 w106 ∧
            (BuiltinK Try.prog Go.Builtin.append #[26, 26] 26 #[false, false] #[t85_105, t88_103] (@hid _ ⟨fun t89_107 w108 =>
            S87 w108 ∧
            (BuiltinK Try.prog Go.Builtin.append #[26, 26] 26 #[false, false] #[t89_107, t92_92] (@hid _ ⟨fun t93_109 w110 =>
            S87 w110 ∧
            R84 t93_109 w110⟩) w108) ∧
            True⟩) w106) ∧
            True⟩) w104) ∧
            True⟩) w94) ∧
            True⟩) w88) ∧
            (BuildSliceK Try.prog 26 1 #[(0, t87_91)] (@hid _ ⟨fun t88_111 w112 =>
            S87 w112 ∧
            (BuildSliceK Try.prog 26 0 #[] (@hid _ ⟨fun t81_113 w114 =>
            S87 w114 ∧
            (BuiltinK Try.prog Go.Builtin.append #[26, 26] 26 #[false, false] #[t81_113, t84_89] (@hid _ ⟨fun t85_115 w116 =>
            S87 w116 ∧
            (BuiltinK Try.prog Go.Builtin.append #[26, 26] 26 #[false, false] #[t85_115, t88_111] (@hid _ ⟨fun t89_117 w118 =>
            S87 w118 ∧
            (BuiltinK Try.prog Go.Builtin.append #[26, 26] 26 #[false, false] #[t89_117, t92_92] (@hid _ ⟨fun t93_119 w120 =>
            S87 w120 ∧
            R84 t93_119 w120⟩) w118) ∧
            True⟩) w116) ∧
            True⟩) w114) ∧
            True⟩) w112) ∧
            True⟩) w88) ∧
            True⟩)⟩)⟩)⟩)⟩) w71⟩)
           (@hid _ ⟨fun _ x8_85 w86 =>
            DrawK (@hid _ ⟨fun S121 w122 =>
            TakeS Try.prog S121 (Instr.sliceAt 27 x9_13 none (some t57_43) none) (@hid _ ⟨fun t97_123 =>
            TakeS Try.prog S121 (Instr.fieldAt 29 t11_25 2) (@hid _ ⟨fun t99_124 =>
            TakeS Try.prog S121 (Instr.loadAt 3 t99_124) (@hid _ ⟨fun t100_125 =>
            TakeS Try.prog S121 (Instr.sliceAt 27 x9_13 (some t57_43) none none) (@hid _ ⟨fun t105_126 =>
            (BuildSliceK Try.prog 27 0 #[] (@hid _ ⟨fun t94_127 w128 =>
            S121 w128 ∧
            (BuiltinK Try.prog Go.Builtin.append #[27, 27] 27 #[false, false] #[t94_127, t97_123] (@hid _ ⟨fun t98_129 w130 =>
            S121 w130 ∧
            (BuildSliceK Try.prog 27 1 #[(0, t100_125)] (@hid _ ⟨fun t101_131 w132 =>
            S121 w132 ∧
            (BuiltinK Try.prog Go.Builtin.append #[27, 27] 27 #[false, false] #[t98_129, t101_131] (@hid _ ⟨fun t102_133 w134 =>
            S121 w134 ∧
            (BuiltinK Try.prog Go.Builtin.append #[27, 27] 27 #[false, false] #[t102_133, t105_126] (@hid _ ⟨fun t106_135 w136 =>
            S121 w136 ∧
            R47 x7_11 x8_85 t106_135 w136⟩) w134) ∧
            True⟩) w132) ∧
            True⟩) w130) ∧
            True⟩) w128) ∧
            (BuildSliceK Try.prog 27 1 #[(0, t100_125)] (@hid _ ⟨fun t101_137 w138 =>
            S121 w138 ∧
            (BuiltinK Try.prog Go.Builtin.append #[27, 27] 27 #[false, false] #[t94_127, t97_123] (@hid _ ⟨fun t98_139 w140 =>
            S121 w140 ∧
            (BuiltinK Try.prog Go.Builtin.append #[27, 27] 27 #[false, false] #[t98_139, t101_137] (@hid _ ⟨fun t102_141 w142 =>
            S121 w142 ∧
            (BuiltinK Try.prog Go.Builtin.append #[27, 27] 27 #[false, false] #[t102_141, t105_126] (@hid _ ⟨fun t106_143 w144 =>
            S121 w144 ∧
            R47 x7_11 x8_85 t106_143 w144⟩) w142) ∧
            True⟩) w140) ∧
            True⟩) w138) ∧
            True⟩) w128) ∧
            True⟩) w122) ∧
            (BuildSliceK Try.prog 27 1 #[(0, t100_125)] (@hid _ ⟨fun t101_145 w146 =>
            S121 w146 ∧
            (BuildSliceK Try.prog 27 0 #[] (@hid _ ⟨fun t94_147 w148 =>
            S121 w148 ∧
            (BuiltinK Try.prog Go.Builtin.append #[27, 27] 27 #[false, false] #[t94_147, t97_123] (@hid _ ⟨fun t98_149 w150 =>
            S121 w150 ∧
            (BuiltinK Try.prog Go.Builtin.append #[27, 27] 27 #[false, false] #[t98_149, t101_145] (@hid _ ⟨fun t102_151 w152 =>
            S121 w152 ∧
            (BuiltinK Try.prog Go.Builtin.append #[27, 27] 27 #[false, false] #[t102_151, t105_126] (@hid _ ⟨fun t106_153 w154 =>
            S121 w154 ∧
            R47 x7_11 x8_85 t106_153 w154⟩) w152) ∧
            True⟩) w150) ∧
            True⟩) w148) ∧
            True⟩) w146) ∧
            True⟩) w122) ∧
            True⟩)⟩)⟩)⟩)⟩) w86⟩)⟩)⟩)⟩) w69⟩) w67⟩) w65⟩) w63⟩) w61⟩) w59⟩) w57⟩) (@hid _ ⟨
         BinK Try.prog Go.BinOp.eql 3 t60_54 (Go.Value.int Go.IntKind.i64 2) (@hid _ ⟨fun t108_155 w156 =>
         BrK t108_155 (@hid _ ⟨
          FieldAtK Try.prog 29 t11_25 1 (@hid _ ⟨fun t110_157 w158 =>
          LoadK Try.prog 9 t110_157 (@hid _ ⟨fun t111_159 w160 =>
          CallV Try.prog (.func (.func 11) #[] #[]) #[x7_11, t111_159] (@hid _ ⟨fun t112_161 w162 =>
          BinK Try.prog Go.BinOp.neq 4 t112_161 t58_45 (@hid _ ⟨fun t114_163 w164 =>
          BrK t114_163 (@hid _ ⟨
           R (Go.Value.bool false) w164⟩) (@hid _ ⟨
           BrK t58_45 (@hid _ ⟨
            DrawK (@hid _ ⟨fun S165 w166 =>
            TakeS Try.prog S165 (Instr.sliceAt 26 x8_12 none (some t57_43) none) (@hid _ ⟨fun t119_167 =>
            BinT Try.prog S165 Go.BinOp.add 3 t57_43 (Go.Value.int Go.IntKind.i64 1) (@hid _ ⟨fun t123_168 =>
            TakeS Try.prog S165 (Instr.sliceAt 26 x8_12 (some t123_168) none none) (@hid _ ⟨fun t124_169 =>
            (BuildSliceK Try.prog 26 0 #[] (@hid _ ⟨fun t116_170 w171 =>
            S165 w171 ∧
            (BuiltinK Try.prog Go.Builtin.append #[26, 26] 26 #[false, false] #[t116_170, t119_167] (@hid _ ⟨fun t120_172 w173 =>
            S165 w173 ∧
            (BuiltinK Try.prog Go.Builtin.append #[26, 26] 26 #[false, false] #[t120_172, t124_169] (@hid _ ⟨fun t125_174 w175 =>
            S165 w175 ∧
            DrawK (@hid _ ⟨fun S176 w177 =>
            TakeS Try.prog S176 (Instr.sliceAt 27 x9_13 none (some t57_43) none) (@hid _ ⟨fun t129_178 =>
            BinT Try.prog S176 Go.BinOp.add 3 t57_43 (Go.Value.int Go.IntKind.i64 1) (@hid _ ⟨fun t133_179 =>
            TakeS Try.prog S176 (Instr.sliceAt 27 x9_13 (some t133_179) none none) (@hid _ ⟨fun t134_180 =>
            (BuildSliceK Try.prog 27 0 #[] (@hid _ ⟨fun t126_181 w182 =>
            S176 w182 ∧
            (BuiltinK Try.prog Go.Builtin.append #[27, 27] 27 #[false, false] #[t126_181, t129_178] (@hid _ ⟨fun t130_183 w184 =>
            S176 w184 ∧
            (BuiltinK Try.prog Go.Builtin.append #[27, 27] 27 #[false, false] #[t130_183, t134_180] (@hid _ ⟨fun t135_185 w186 =>
            S176 w186 ∧
            R47 x7_11 t125_174 t135_185 w186⟩) w184) ∧
            True⟩) w182) ∧
            True⟩) w177) ∧
            True⟩)⟩)⟩)⟩) w175⟩) w173) ∧
            True⟩) w171) ∧
            True⟩) w166) ∧
            True⟩)⟩)⟩)⟩) w164⟩) (@hid _ ⟨
            R47 x7_11 x8_12 x9_13 w164⟩)⟩)⟩) w162⟩) w160⟩) w158⟩) w156⟩) (@hid _ ⟨
          BinK Try.prog Go.BinOp.eql 3 t60_54 (Go.Value.int Go.IntKind.i64 3) (@hid _ ⟨fun t137_187 w188 =>
          BrK t137_187 (@hid _ ⟨
           CallV Try.prog (.func (.func 12) #[] #[]) #[x7_11] (@hid _ ⟨fun t139_189 w190 =>
           BinK Try.prog Go.BinOp.eql 24 t139_189 (Go.Value.pointer none) (@hid _ ⟨fun t141_191 w192 =>
           BrK t141_191 (@hid _ ⟨
            R (Go.Value.bool false) w192⟩) (@hid _ ⟨
            CallV Try.prog (.func (.func 10) #[] #[]) #[x7_11, (Go.Value.string { data := #[122, 122] }), (Go.Value.int Go.IntKind.i64 1)] (@hid _ ⟨fun t143_193 w194 =>
            FieldAtK Try.prog 29 t11_25 1 (@hid _ ⟨fun t145_195 w196 =>
            LoadK Try.prog 9 t145_195 (@hid _ ⟨fun t146_197 w198 =>
            FieldAtK Try.prog 29 t11_25 2 (@hid _ ⟨fun t147_199 w200 =>
            LoadK Try.prog 3 t147_199 (@hid _ ⟨fun t148_201 w202 =>
            BinK Try.prog Go.BinOp.add 3 t148_201 (Go.Value.int Go.IntKind.i64 1) (@hid _ ⟨fun t149_203 w204 =>
            CallV Try.prog (.func (.func 10) #[] #[]) #[x7_11, t146_197, t149_203] (@hid _ ⟨fun t150_205 w206 =>
            R47 t139_189 x8_12 x9_13 w206⟩) w204⟩) w202⟩) w200⟩) w198⟩) w196⟩) w194⟩) w192⟩)⟩) w190⟩) w188⟩) (@hid _ ⟨
           R47 x7_11 x8_12 x9_13 w188⟩)⟩) w156⟩)⟩) w57⟩)⟩) w55⟩) w53⟩) w46⟩)
       (@hid _ ⟨fun _ x7_48 x8_49 x9_50 w51 =>
        CallV Try.prog (.func (.func 13) #[] #[]) #[x7_48] (@hid _ ⟨fun t153_207 w208 =>
        BuiltinK Try.prog Go.Builtin.len #[26] 3 #[false] #[t153_207] (@hid _ ⟨fun t155_209 w210 =>
        BuiltinK Try.prog Go.Builtin.len #[26] 3 #[false] #[x8_49] (@hid _ ⟨fun t157_211 w212 =>
        BinK Try.prog Go.BinOp.neq 3 t155_209 t157_211 (@hid _ ⟨fun t158_213 w214 =>
        GuardK t158_213 false (fun k w => k x7_48 w) (@hid _ ⟨fun t160_215 w216 =>
        GuardK t158_213 false (fun k w => CallV Try.prog (.func (.func 14) #[] #[]) #[t160_215] k w) (@hid _ ⟨fun t161_217 w218 =>
        GuardK t158_213 false (fun k w => k x8_49 w) (@hid _ ⟨fun t162_219 w220 =>
        GuardK t158_213 false (fun k w => BuiltinK Try.prog Go.Builtin.len #[26] 3 #[false] #[t162_219] k w) (@hid _ ⟨fun t163_221 w222 =>
        GuardK t158_213 false (fun k w => BinK Try.prog Go.BinOp.neq 3 t161_217 t163_221 k w) (@hid _ ⟨fun t164_223 w224 =>
        PickK Try.prog t158_213 (Go.Value.bool true) t164_223 (@hid _ ⟨fun t165_225 w226 =>
        BrK t165_225 (@hid _ ⟨
         R (Go.Value.bool false) w226⟩) (@hid _ ⟨
         LoopK1 (Go.Value.int Go.IntKind.i64 0) w226 (@hid _ ⟨fun _ x16_227 w228 B229 =>
          BuiltinK Try.prog Go.Builtin.len #[26] 3 #[false] #[t153_207] (@hid _ ⟨fun t168_230 w231 =>
          BinK Try.prog Go.BinOp.lss 3 x16_227 t168_230 (@hid _ ⟨fun t169_232 w233 =>
          BrK t169_232 (@hid _ ⟨
           IndexAtK Try.prog 26 t153_207 x16_227 (@hid _ ⟨fun t176_234 w235 =>
           LoadK Try.prog 9 t176_234 (@hid _ ⟨fun t177_236 w237 =>
           CallV Try.prog (.func (.func 15) #[] #[]) #[x7_48, t177_236] (@hid _ ⟨fun t178_238 w239 =>
           ExtractK Try.prog t178_238 0 (@hid _ ⟨fun t179_240 w241 =>
           ExtractK Try.prog t178_238 1 (@hid _ ⟨fun t180_242 w243 =>
           DrawK (@hid _ ⟨fun S244 w245 =>
           TakeS Try.prog S244 (Instr.indexAt 26 t153_207 x16_227) (@hid _ ⟨fun t183_246 =>
           TakeS Try.prog S244 (Instr.loadAt 9 t183_246) (@hid _ ⟨fun t184_247 =>
           TakeS Try.prog S244 (Instr.indexAt 26 x8_49 x16_227) (@hid _ ⟨fun t187_248 =>
           TakeS Try.prog S244 (Instr.loadAt 9 t187_248) (@hid _ ⟨fun t188_249 =>
           BinT Try.prog S244 Go.BinOp.neq 9 t184_247 t188_249 (@hid _ ⟨fun t189_250 =>
           TakeG t189_250 false (fun k => k t180_242) (@hid _ ⟨fun t191_251 =>
           TakeG t189_250 false (fun k => TakeS Try.prog S244 (Op.unary Go.UnOp.not t191_251) k) (@hid _ ⟨fun t192_252 =>
           PickT t189_250 (Go.Value.bool true) t192_252 (@hid _ ⟨fun t193_253 =>
           TakeG t193_253 false (fun k => k t179_240) (@hid _ ⟨fun t195_254 =>
           TakeG t193_253 false (fun k => k x9_50) (@hid _ ⟨fun t196_255 =>
           TakeG t193_253 false (fun k => k x16_227) (@hid _ ⟨fun t197_256 =>
           TakeG t193_253 false (fun k => TakeS Try.prog S244 (Instr.indexAt 27 t196_255 t197_256) k) (@hid _ ⟨fun t198_257 =>
           TakeG t193_253 false (fun k => TakeS Try.prog S244 (Instr.loadAt 3 t198_257) k) (@hid _ ⟨fun t199_258 =>
           TakeG t193_253 false (fun k => BinT Try.prog S244 Go.BinOp.neq 3 t195_254 t199_258 k) (@hid _ ⟨fun t200_259 =>
           PickT t193_253 (Go.Value.bool true) t200_259 (@hid _ ⟨fun t201_260 =>
           BrK t201_260 (@hid _ ⟨
            R (Go.Value.bool false) w245⟩) (@hid _ ⟨
            BinK Try.prog Go.BinOp.add 3 x16_227 (Go.Value.int Go.IntKind.i64 1) (@hid _ ⟨fun t171_261 w262 =>
            B229 t171_261 w262⟩) w245⟩)⟩)⟩)⟩)⟩)⟩)⟩)⟩)⟩)⟩)⟩)⟩)⟩)⟩)⟩)⟩)⟩) w243⟩) w241⟩) w239⟩) w237⟩) w235⟩) w233⟩) (@hid _ ⟨
           BinK Try.prog Go.BinOp.add 3 x10_14 (Go.Value.int Go.IntKind.i64 1) (@hid _ ⟨fun t43_263 w264 =>
           B16 x7_48 x8_49 x9_50 t43_263 w264⟩) w233⟩)⟩) w231⟩) w228⟩)⟩)⟩) w224⟩) w222⟩) w220⟩) w218⟩) w216⟩) w214⟩) w212⟩) w210⟩) w208⟩) w51⟩)⟩) w44⟩) w42⟩) w40⟩) w38⟩) w36⟩)⟩) w34⟩) w32⟩) w30⟩) w28⟩) w26⟩) w24⟩) w22⟩) w20⟩) (@hid _ ⟨
      CallV Try.prog (.func (.func 16) #[] #[]) #[x7_11, x2] (@hid _ ⟨fun t205_265 w266 =>
      ExtractK Try.prog t205_265 0 (@hid _ ⟨fun t206_267 w268 =>
      ExtractK Try.prog t205_265 1 (@hid _ ⟨fun t207_269 w270 =>
      ExtractK Try.prog t205_265 2 (@hid _ ⟨fun t208_271 w272 =>
      BinK Try.prog Go.BinOp.geq 3 x2 (Go.Value.int Go.IntKind.i64 0) (@hid _ ⟨fun t210_273 w274 =>
      GuardK t210_273 true (fun k w => k x2 w) (@hid _ ⟨fun t212_275 w276 =>
      GuardK t210_273 true (fun k w => k x8_12 w) (@hid _ ⟨fun t213_277 w278 =>
      GuardK t210_273 true (fun k w => BuiltinK Try.prog Go.Builtin.len #[26] 3 #[false] #[t213_277] k w) (@hid _ ⟨fun t214_279 w280 =>
      GuardK t210_273 true (fun k w => BinK Try.prog Go.BinOp.lss 3 t212_275 t214_279 k w) (@hid _ ⟨fun t215_281 w282 =>
      PickK Try.prog t210_273 t215_281 (Go.Value.bool false) (@hid _ ⟨fun t216_283 w284 =>
      BinK Try.prog Go.BinOp.neq 4 t208_271 t216_283 (@hid _ ⟨fun t219_285 w286 =>
      GuardK t219_285 false (fun k w => k t216_283 w) (@hid _ ⟨fun t221_287 w288 =>
      GuardK t219_285 false (fun k w => k t221_287 w) (@hid _ ⟨fun t222_289 w290 =>
      GuardK t222_289 true (fun k w => k t206_267 w) (@hid _ ⟨fun t223_291 w292 =>
      GuardK t222_289 true (fun k w => k x8_12 w) (@hid _ ⟨fun t224_293 w294 =>
      GuardK t222_289 true (fun k w => k x2 w) (@hid _ ⟨fun t225_295 w296 =>
      GuardK t222_289 true (fun k w => IndexAtK Try.prog 26 t224_293 t225_295 k w) (@hid _ ⟨fun t226_297 w298 =>
      GuardK t222_289 true (fun k w => LoadK Try.prog 9 t226_297 k w) (@hid _ ⟨fun t227_299 w300 =>
      GuardK t222_289 true (fun k w => BinK Try.prog Go.BinOp.neq 9 t223_291 t227_299 k w) (@hid _ ⟨fun t228_301 w302 =>
      GuardK t222_289 true (fun k w => k t228_301 w) (@hid _ ⟨fun t229_303 w304 =>
      GuardK t229_303 false (fun k w => k t207_269 w) (@hid _ ⟨fun t230_305 w306 =>
      GuardK t229_303 false (fun k w => k x9_13 w) (@hid _ ⟨fun t231_307 w308 =>
      GuardK t229_303 false (fun k w => k x2 w) (@hid _ ⟨fun t232_309 w310 =>
      GuardK t229_303 false (fun k w => IndexAtK Try.prog 27 t231_307 t232_309 k w) (@hid _ ⟨fun t233_311 w312 =>
      GuardK t229_303 false (fun k w => LoadK Try.prog 3 t233_311 k w) (@hid _ ⟨fun t234_313 w314 =>
      GuardK t229_303 false (fun k w => BinK Try.prog Go.BinOp.neq 3 t230_305 t234_313 k w) (@hid _ ⟨fun t235_315 w316 =>
      GuardK t222_289 true (fun k w => PickK Try.prog t229_303 (Go.Value.bool true) t235_315 k w) (@hid _ ⟨fun t236_317 w318 =>
      GuardK t219_285 false (fun k w => PickK Try.prog t222_289 t236_317 (Go.Value.bool false) k w) (@hid _ ⟨fun t237_319 w320 =>
      PickK Try.prog t219_285 (Go.Value.bool true) t237_319 (@hid _ ⟨fun t238_321 w322 =>
      GuardK t238_321 false (fun k w => k t216_283 w) (@hid _ ⟨fun t240_323 w324 =>
      GuardK t238_321 false (fun k w => UnK Try.prog Go.UnOp.not t240_323 k w) (@hid _ ⟨fun t241_325 w326 =>
      GuardK t238_321 false (fun k w => k t241_325 w) (@hid _ ⟨fun t242_327 w328 =>
      GuardK t242_327 true (fun k w => k t206_267 w) (@hid _ ⟨fun t243_329 w330 =>
      GuardK t242_327 true (fun k w => BinK Try.prog Go.BinOp.neq 9 t243_329 (Go.Value.string { data := #[] }) k w) (@hid _ ⟨fun t244_331 w332 =>
      GuardK t242_327 true (fun k w => k t244_331 w) (@hid _ ⟨fun t245_333 w334 =>
      GuardK t245_333 false (fun k w => k t207_269 w) (@hid _ ⟨fun t246_335 w336 =>
      GuardK t245_333 false (fun k w => BinK Try.prog Go.BinOp.neq 3 t246_335 (Go.Value.int Go.IntKind.i64 0) k w) (@hid _ ⟨fun t247_337 w338 =>
      GuardK t242_327 true (fun k w => PickK Try.prog t245_333 (Go.Value.bool true) t247_337 k w) (@hid _ ⟨fun t248_339 w340 =>
      GuardK t238_321 false (fun k w => PickK Try.prog t242_327 t248_339 (Go.Value.bool false) k w) (@hid _ ⟨fun t249_341 w342 =>
      PickK Try.prog t238_321 (Go.Value.bool true) t249_341 (@hid _ ⟨fun t250_343 w344 =>
      BrK t250_343 (@hid _ ⟨
       R (Go.Value.bool false) w344⟩) (@hid _ ⟨
       CallV Try.prog (.func (.func 9) #[] #[]) #[x8_12, x1] (@hid _ ⟨fun t254_345 w346 =>
       ExtractK Try.prog t254_345 0 (@hid _ ⟨fun t255_347 w348 =>
       ExtractK Try.prog t254_345 1 (@hid _ ⟨fun t256_349 w350 =>
       CallV Try.prog (.func (.func 17) #[] #[]) #[x7_11, x1] (@hid _ ⟨fun t260_351 w352 =>
       ExtractK Try.prog t260_351 0 (@hid _ ⟨fun t261_353 w354 =>
       ExtractK Try.prog t260_351 1 (@hid _ ⟨fun t262_355 w356 =>
       CallV Try.prog (.func (.func 18) #[] #[]) #[x7_11, x1] (@hid _ ⟨fun t266_357 w358 =>
       ExtractK Try.prog t266_357 0 (@hid _ ⟨fun t267_359 w360 =>
       ExtractK Try.prog t266_357 1 (@hid _ ⟨fun t268_361 w362 =>
       CutK1 (@hid _ ⟨fun R363 =>
        UnK Try.prog Go.UnOp.not t256_349 (@hid _ ⟨fun t271_366 w367 =>
        BrK t271_366 (@hid _ ⟨
         BinK Try.prog Go.BinOp.sub 3 t255_347 (Go.Value.int Go.IntKind.i64 1) (@hid _ ⟨fun t273_368 w369 =>
         R363 t273_368 w369⟩) w367⟩) (@hid _ ⟨
         R363 t255_347 w367⟩)⟩) w362⟩)
       (@hid _ ⟨fun _ x29_364 w365 =>
        BinK Try.prog Go.BinOp.geq 3 x29_364 (Go.Value.int Go.IntKind.i64 0) (@hid _ ⟨fun t276_370 w371 =>
        BinK Try.prog Go.BinOp.neq 4 t262_355 t276_370 (@hid _ ⟨fun t277_372 w373 =>
        GuardK t277_372 false (fun k w => k t262_355 w) (@hid _ ⟨fun t279_374 w375 =>
        GuardK t277_372 false (fun k w => k t279_374 w) (@hid _ ⟨fun t280_376 w377 =>
        GuardK t280_376 true (fun k w => k t261_353 w) (@hid _ ⟨fun t281_378 w379 =>
        GuardK t280_376 true (fun k w => k x8_12 w) (@hid _ ⟨fun t282_380 w381 =>
        GuardK t280_376 true (fun k w => k x29_364 w) (@hid _ ⟨fun t283_382 w383 =>
        GuardK t280_376 true (fun k w => IndexAtK Try.prog 26 t282_380 t283_382 k w) (@hid _ ⟨fun t284_384 w385 =>
        GuardK t280_376 true (fun k w => LoadK Try.prog 9 t284_384 k w) (@hid _ ⟨fun t285_386 w387 =>
        GuardK t280_376 true (fun k w => BinK Try.prog Go.BinOp.neq 9 t281_378 t285_386 k w) (@hid _ ⟨fun t286_388 w389 =>
        GuardK t277_372 false (fun k w => PickK Try.prog t280_376 t286_388 (Go.Value.bool false) k w) (@hid _ ⟨fun t287_390 w391 =>
        PickK Try.prog t277_372 (Go.Value.bool true) t287_390 (@hid _ ⟨fun t288_392 w393 =>
        GuardK t288_392 false (fun k w => k t268_361 w) (@hid _ ⟨fun t290_394 w395 =>
        GuardK t288_392 false (fun k w => k t255_347 w) (@hid _ ⟨fun t291_396 w397 =>
        GuardK t288_392 false (fun k w => k x8_12 w) (@hid _ ⟨fun t292_398 w399 =>
        GuardK t288_392 false (fun k w => BuiltinK Try.prog Go.Builtin.len #[26] 3 #[false] #[t292_398] k w) (@hid _ ⟨fun t293_400 w401 =>
        GuardK t288_392 false (fun k w => BinK Try.prog Go.BinOp.lss 3 t291_396 t293_400 k w) (@hid _ ⟨fun t294_402 w403 =>
        GuardK t288_392 false (fun k w => BinK Try.prog Go.BinOp.neq 4 t290_394 t294_402 k w) (@hid _ ⟨fun t295_404 w405 =>
        PickK Try.prog t288_392 (Go.Value.bool true) t295_404 (@hid _ ⟨fun t296_406 w407 =>
        GuardK t296_406 false (fun k w => k t268_361 w) (@hid _ ⟨fun t298_408 w409 =>
        GuardK t296_406 false (fun k w => k t298_408 w) (@hid _ ⟨fun t299_410 w411 =>
        GuardK t299_410 true (fun k w => k t267_359 w) (@hid _ ⟨fun t300_412 w413 =>
        GuardK t299_410 true (fun k w => k x8_12 w) (@hid _ ⟨fun t301_414 w415 =>
        GuardK t299_410 true (fun k w => k t255_347 w) (@hid _ ⟨fun t302_416 w417 =>
        GuardK t299_410 true (fun k w => IndexAtK Try.prog 26 t301_414 t302_416 k w) (@hid _ ⟨fun t303_418 w419 =>
        GuardK t299_410 true (fun k w => LoadK Try.prog 9 t303_418 k w) (@hid _ ⟨fun t304_420 w421 =>
        GuardK t299_410 true (fun k w => BinK Try.prog Go.BinOp.neq 9 t300_412 t304_420 k w) (@hid _ ⟨fun t305_422 w423 =>
        GuardK t296_406 false (fun k w => PickK Try.prog t299_410 t305_422 (Go.Value.bool false) k w) (@hid _ ⟨fun t306_424 w425 =>
        PickK Try.prog t296_406 (Go.Value.bool true) t306_424 (@hid _ ⟨fun t307_426 w427 =>
        BrK t307_426 (@hid _ ⟨
         R (Go.Value.bool false) w427⟩) (@hid _ ⟨
         CallV Try.prog (.func (.func 15) #[] #[]) #[x7_11, x1] (@hid _ ⟨fun t311_428 w429 =>
         ExtractK Try.prog t311_428 0 (@hid _ ⟨fun t312_430 w431 =>
         ExtractK Try.prog t311_428 1 (@hid _ ⟨fun t313_432 w433 =>
         BinK Try.prog Go.BinOp.eql 4 t313_432 t256_349 (@hid _ ⟨fun t316_434 w435 =>
         R t316_434 w435⟩) w433⟩) w431⟩) w429⟩) w427⟩)⟩) w425⟩) w423⟩) w421⟩) w419⟩) w417⟩) w415⟩) w413⟩) w411⟩) w409⟩) w407⟩) w405⟩) w403⟩) w401⟩) w399⟩) w397⟩) w395⟩) w393⟩) w391⟩) w389⟩) w387⟩) w385⟩) w383⟩) w381⟩) w379⟩) w377⟩) w375⟩) w373⟩) w371⟩) w365⟩)⟩) w360⟩) w358⟩) w356⟩) w354⟩) w352⟩) w350⟩) w348⟩) w346⟩) w344⟩)⟩) w342⟩) w340⟩) w338⟩) w336⟩) w334⟩) w332⟩) w330⟩) w328⟩) w326⟩) w324⟩) w322⟩) w320⟩) w318⟩) w316⟩) w314⟩) w312⟩) w310⟩) w308⟩) w306⟩) w304⟩) w302⟩) w300⟩) w298⟩) w296⟩) w294⟩) w292⟩) w290⟩) w288⟩) w286⟩) w284⟩) w282⟩) w280⟩) w278⟩) w276⟩) w274⟩) w272⟩) w270⟩) w268⟩) w266⟩) w20⟩)⟩) w18⟩) w15⟩)⟩) w8⟩)⟩) w6⟩) w4⟩)⟩) w2⟩) w0
def a3 : Ann := (.seq .no (.seq (.seq .no (.cond (.seq .no .no) .no)) (.seq (.seq .no (.cond (.seq .no .no) .no)) (.seq .no (.seq .no (.seq .no (.seq (.seq .no (.block (.loop [7, 8, 9, 10] [(6, 6), (11, 18), (38, 201)] (.seq (.seq .no (.cond .no .no)) (.seq (.block (.seq .no (.seq (.seq .no (.cond (.seq .no .no) .no)) (.seq .no (.cut [7, 8, 9] [(6, 6), (14, 14), (59, 151)] (.seq .no (.block (.seq .no (.cond (.seq (.seq .no (.cond (.seq .no .no) .no)) (.seq .no (.cond (.seq .no .no) (.cut [8] [(81, 93)] (.plan (.take 1 (.take 2 (.take 3 (.take 5 (.take 6 (.take 9 (.take 10 (.take 11 (.alt 0 (.alt 4 (.alt 7 (.alt 8 (.alt 12 (.take 13 .done) .nil) .nil) .nil) (.alt 7 (.alt 4 (.alt 8 (.alt 12 (.take 13 .done) .nil) .nil) .nil) .nil)) (.alt 7 (.alt 0 (.alt 4 (.alt 8 (.alt 12 (.take 13 .done) .nil) .nil) .nil) .nil) .nil))))))))))) (.plan (.take 1 (.take 2 (.take 3 (.take 5 (.take 6 (.take 9 (.take 10 (.take 11 (.alt 0 (.alt 4 (.alt 7 (.alt 8 (.alt 12 (.take 13 .done) .nil) .nil) .nil) (.alt 7 (.alt 4 (.alt 8 (.alt 12 (.take 13 .done) .nil) .nil) .nil) .nil)) (.alt 7 (.alt 0 (.alt 4 (.alt 8 (.alt 12 (.take 13 .done) .nil) .nil) .nil) .nil) .nil))))))))))))))) (.seq .no (.cond (.seq (.seq .no (.cond (.seq .no .no) .no)) (.seq .no (.cond (.seq (.plan (.take 1 (.take 2 (.take 3 (.take 5 (.take 6 (.take 7 (.take 8 (.alt 0 (.alt 4 (.alt 9 (.take 10 .done) .nil) .nil) .nil))))))))) (.plan (.take 1 (.take 2 (.take 3 (.take 5 (.take 6 (.take 7 (.take 8 (.alt 0 (.alt 4 (.alt 9 (.take 10 .done) .nil) .nil) .nil)))))))))) .no))) (.seq .no (.cond (.seq .no (.seq (.seq .no (.cond (.seq .no .no) .no)) (.seq .no (.seq .no .no)))) .no)))))))) (.seq .no (.seq (.seq .no (.cond (.seq .no .no) .no)) (.seq .no (.block (.loop [16] [(6, 6), (17, 18), (166, 201)] (.seq (.seq .no (.cond .no .no)) (.seq (.block (.seq .no (.seq (.plan (.take 0 (.take 1 (.take 2 (.take 3 (.take 4 (.take 5 (.take 6 (.take 7 (.take 8 (.take 9 (.take 10 (.take 11 (.take 12 (.take 13 (.take 14 (.take 15 (.take 16 (.take 17 (.take 18 (.take 19 (.take 20 .done)))))))))))))))))))))) (.cond (.seq .no .no) .no)))) .no)))))))))))) .no))))) (.seq .no (.seq .no (.seq (.seq .no (.cond (.seq .no .no) .no)) (.seq .no (.seq .no (.seq .no (.seq .no (.cut [29] [(270, 273)] (.seq .no (.cond .no .no)) (.seq (.seq .no (.cond (.seq .no .no) .no)) (.seq .no (.seq .no .no))))))))))))))))))
theorem F3_eq (x0 x1 x2 : Value) (R : Value → World → Prop) (w0 : World) : F3 x0 x1 x2 R w0 = vc Try.prog (bodyOf Try.f3) a3 (retQ Try.prog Try.f3 R) (envOf 0 [x0, x1, x2]) w0 := by kernel_rfl
theorem F3_calls (x0 x1 x2 : Value) (R : Value → World → Prop) (w0 : World) (h : F3 x0 x1 x2 R w0) : CallK Try.prog 3 #[x0, x1, x2] R w0 :=
  calls_vc (c := bodyOf Try.f3) Try.func3 (by kernel_rfl) (by kernel_rfl) a3 (by kernel_rfl) (by kernel_rfl) [x0, x1, x2] (by rw [Try.ntmps3]; exact Nat.le_of_ble_eq_true rfl) w0 R ((F3_eq x0 x1 x2 R w0).mp h)

/-- canton/cantonlaw1.MapInts, its body as a formula. -/
def F4 (x0 x1 : Value) (R : Value → World → Prop) (w0 : World) : Prop :=
  CallV Try.prog (.func (.func 7) #[] #[]) #[] (@hid _ ⟨fun t17_1 w2 =>
  UnK Try.prog Go.UnOp.not t17_1 (@hid _ ⟨fun t18_3 w4 =>
  BrK t18_3 (@hid _ ⟨
   R (Go.Value.bool false) w4⟩) (@hid _ ⟨
   BuiltinK Try.prog Go.Builtin.len #[42] 3 #[false] #[x0] (@hid _ ⟨fun t20_5 w6 =>
   BinK Try.prog Go.BinOp.gtr 3 t20_5 (Go.Value.int Go.IntKind.i64 100) (@hid _ ⟨fun t21_7 w8 =>
   BrK t21_7 (@hid _ ⟨
    R (Go.Value.bool true) w8⟩) (@hid _ ⟨
    CallV Try.prog (.func (.func 19) #[] #[]) #[] (@hid _ ⟨fun t22_9 w10 =>
    CallV Try.prog (.func (.func 19) #[] #[]) #[] (@hid _ ⟨fun t23_11 w12 =>
    LoopK1 (Go.Value.int Go.IntKind.i64 0) w12 (@hid _ ⟨fun _ x7_13 w14 B15 =>
     BuiltinK Try.prog Go.Builtin.len #[42] 3 #[false] #[x0] (@hid _ ⟨fun t26_16 w17 =>
     BinK Try.prog Go.BinOp.lss 3 x7_13 t26_16 (@hid _ ⟨fun t27_18 w19 =>
     BrK t27_18 (@hid _ ⟨
      DrawK (@hid _ ⟨fun S20 w21 =>
      TakeS Try.prog S20 (Instr.indexAt 42 x0 x7_13) (@hid _ ⟨fun t33_22 =>
      TakeS Try.prog S20 (Instr.loadAt 2 t33_22) (@hid _ ⟨fun t34_23 =>
      TakeS Try.prog S20 (Instr.indexAt 42 x0 x7_13) (@hid _ ⟨fun t37_24 =>
      TakeS Try.prog S20 (Instr.loadAt 2 t37_24) (@hid _ ⟨fun t38_25 =>
      (CallV Try.prog (.func (.func 21) #[] #[]) #[t38_25] (@hid _ ⟨fun t39_26 w27 =>
      S20 w27 ∧
      (CallV Try.prog (.func (.func 20) #[] #[]) #[t22_9, t34_23, t39_26] (@hid _ ⟨fun t40_28 w29 =>
      S20 w29 ∧
      ConvK Try.prog 5 3 x1 (@hid _ ⟨fun t44_30 w31 =>
      BinK Try.prog Go.BinOp.add 3 x7_13 t44_30 (@hid _ ⟨fun t45_32 w33 =>
      BuiltinK Try.prog Go.Builtin.len #[42] 3 #[false] #[x0] (@hid _ ⟨fun t47_34 w35 =>
      BinK Try.prog Go.BinOp.rem 3 t45_32 t47_34 (@hid _ ⟨fun t48_36 w37 =>
      IndexAtK Try.prog 42 x0 t48_36 (@hid _ ⟨fun t49_38 w39 =>
      LoadK Try.prog 2 t49_38 (@hid _ ⟨fun t50_40 w41 =>
      CallV Try.prog (.func (.func 21) #[] #[]) #[t50_40] (@hid _ ⟨fun t54_42 w43 =>
      CallV Try.prog (.func (.func 20) #[] #[]) #[t23_11, t50_40, t54_42] (@hid _ ⟨fun t55_44 w45 =>
      BinK Try.prog Go.BinOp.add 3 x7_13 (Go.Value.int Go.IntKind.i64 1) (@hid _ ⟨fun t29_46 w47 =>
      B15 t29_46 w47⟩) w45⟩) w43⟩) w41⟩) w39⟩) w37⟩) w35⟩) w33⟩) w31⟩) w29⟩) w27) ∧
      True⟩) w21) ∧
      True⟩)⟩)⟩)⟩)⟩) w19⟩) (@hid _ ⟨
      CallV Try.prog (.func (.func 22) #[] #[]) #[t22_9] (@hid _ ⟨fun t57_48 w49 =>
      CallV Try.prog (.func (.func 22) #[] #[]) #[t23_11] (@hid _ ⟨fun t59_50 w51 =>
      BuiltinK Try.prog Go.Builtin.len #[42] 3 #[false] #[t57_48] (@hid _ ⟨fun t61_52 w53 =>
      BuiltinK Try.prog Go.Builtin.len #[42] 3 #[false] #[t59_50] (@hid _ ⟨fun t63_54 w55 =>
      BinK Try.prog Go.BinOp.neq 3 t61_52 t63_54 (@hid _ ⟨fun t64_56 w57 =>
      GuardK t64_56 false (fun k w => k t57_48 w) (@hid _ ⟨fun t66_58 w59 =>
      GuardK t64_56 false (fun k w => BuiltinK Try.prog Go.Builtin.len #[42] 3 #[false] #[t66_58] k w) (@hid _ ⟨fun t67_60 w61 =>
      GuardK t64_56 false (fun k w => k x0 w) (@hid _ ⟨fun t68_62 w63 =>
      GuardK t64_56 false (fun k w => BuiltinK Try.prog Go.Builtin.len #[42] 3 #[false] #[t68_62] k w) (@hid _ ⟨fun t69_64 w65 =>
      GuardK t64_56 false (fun k w => BinK Try.prog Go.BinOp.gtr 3 t67_60 t69_64 k w) (@hid _ ⟨fun t70_66 w67 =>
      PickK Try.prog t64_56 (Go.Value.bool true) t70_66 (@hid _ ⟨fun t71_68 w69 =>
      BrK t71_68 (@hid _ ⟨
       R (Go.Value.bool false) w69⟩) (@hid _ ⟨
       LoopK1 (Go.Value.int Go.IntKind.i64 0) w69 (@hid _ ⟨fun _ x11_70 w71 B72 =>
        BuiltinK Try.prog Go.Builtin.len #[42] 3 #[false] #[t57_48] (@hid _ ⟨fun t74_73 w74 =>
        BinK Try.prog Go.BinOp.lss 3 x11_70 t74_73 (@hid _ ⟨fun t75_75 w76 =>
        BrK t75_75 (@hid _ ⟨
         IndexAtK Try.prog 42 t57_48 x11_70 (@hid _ ⟨fun t82_77 w78 =>
         LoadK Try.prog 2 t82_77 (@hid _ ⟨fun t83_79 w80 =>
         CallV Try.prog (.func (.func 23) #[] #[]) #[t22_9, t83_79] (@hid _ ⟨fun t84_81 w82 =>
         ExtractK Try.prog t84_81 0 (@hid _ ⟨fun t85_83 w84 =>
         ExtractK Try.prog t84_81 1 (@hid _ ⟨fun t86_85 w86 =>
         DrawK (@hid _ ⟨fun S87 w88 =>
         TakeS Try.prog S87 (Instr.indexAt 42 t57_48 x11_70) (@hid _ ⟨fun t89_89 =>
         TakeS Try.prog S87 (Instr.loadAt 2 t89_89) (@hid _ ⟨fun t90_90 =>
         TakeS Try.prog S87 (Instr.indexAt 42 t59_50 x11_70) (@hid _ ⟨fun t93_91 =>
         TakeS Try.prog S87 (Instr.loadAt 2 t93_91) (@hid _ ⟨fun t94_92 =>
         BinT Try.prog S87 Go.BinOp.neq 2 t90_90 t94_92 (@hid _ ⟨fun t95_93 =>
         TakeG t95_93 false (fun k => k x11_70) (@hid _ ⟨fun t97_94 =>
         TakeG t95_93 false (fun k => BinT Try.prog S87 Go.BinOp.gtr 3 t97_94 (Go.Value.int Go.IntKind.i64 0) k) (@hid _ ⟨fun t98_95 =>
         TakeG t95_93 false (fun k => k t98_95) (@hid _ ⟨fun t99_96 =>
         TakeG t99_96 true (fun k => k t57_48) (@hid _ ⟨fun t100_97 =>
         TakeG t99_96 true (fun k => k x11_70) (@hid _ ⟨fun t101_98 =>
         TakeG t99_96 true (fun k => BinT Try.prog S87 Go.BinOp.sub 3 t101_98 (Go.Value.int Go.IntKind.i64 1) k) (@hid _ ⟨fun t102_99 =>
         TakeG t99_96 true (fun k => TakeS Try.prog S87 (Instr.indexAt 42 t100_97 t102_99) k) (@hid _ ⟨fun t103_100 =>
         TakeG t99_96 true (fun k => TakeS Try.prog S87 (Instr.loadAt 2 t103_100) k) (@hid _ ⟨fun t104_101 =>
         TakeG t99_96 true (fun k => k t57_48) (@hid _ ⟨fun t105_102 =>
         TakeG t99_96 true (fun k => k x11_70) (@hid _ ⟨fun t106_103 =>
         TakeG t99_96 true (fun k => TakeS Try.prog S87 (Instr.indexAt 42 t105_102 t106_103) k) (@hid _ ⟨fun t107_104 =>
         TakeG t99_96 true (fun k => TakeS Try.prog S87 (Instr.loadAt 2 t107_104) k) (@hid _ ⟨fun t108_105 =>
         TakeG t99_96 true (fun k => BinT Try.prog S87 Go.BinOp.geq 2 t104_101 t108_105 k) (@hid _ ⟨fun t109_106 =>
         TakeG t95_93 false (fun k => PickT t99_96 t109_106 (Go.Value.bool false) k) (@hid _ ⟨fun t110_107 =>
         PickT t95_93 (Go.Value.bool true) t110_107 (@hid _ ⟨fun t111_108 =>
         TakeG t111_108 false (fun k => k t86_85) (@hid _ ⟨fun t113_109 =>
         TakeG t111_108 false (fun k => TakeS Try.prog S87 (Op.unary Go.UnOp.not t113_109) k) (@hid _ ⟨fun t114_110 =>
         PickT t111_108 (Go.Value.bool true) t114_110 (@hid _ ⟨fun t115_111 =>
         TakeG t115_111 false (fun k => k t85_83) (@hid _ ⟨fun t117_112 =>
         TakeG t115_111 false (fun k => k t57_48) (@hid _ ⟨fun t118_113 =>
         TakeG t115_111 false (fun k => k x11_70) (@hid _ ⟨fun t119_114 =>
         TakeG t115_111 false (fun k => TakeS Try.prog S87 (Instr.indexAt 42 t118_113 t119_114) k) (@hid _ ⟨fun t120_115 =>
         TakeG t115_111 false (fun k => TakeS Try.prog S87 (Instr.loadAt 2 t120_115) k) (@hid _ ⟨fun t121_116 =>
         (GuardK t115_111 false (fun k w => CallV Try.prog (.func (.func 21) #[] #[]) #[t121_116] k w) (@hid _ ⟨fun t122_117 w118 =>
         S87 w118 ∧
         TakeG t115_111 false (fun k => BinT Try.prog S87 Go.BinOp.neq 9 t117_112 t122_117 k) (@hid _ ⟨fun t123_119 =>
         PickT t115_111 (Go.Value.bool true) t123_119 (@hid _ ⟨fun t124_120 =>
         BrK t124_120 (@hid _ ⟨
          R (Go.Value.bool false) w118⟩) (@hid _ ⟨
          BinK Try.prog Go.BinOp.add 3 x11_70 (Go.Value.int Go.IntKind.i64 1) (@hid _ ⟨fun t77_121 w122 =>
          B72 t77_121 w122⟩) w118⟩)⟩)⟩)⟩) w88) ∧
         True⟩)⟩)⟩)⟩)⟩)⟩)⟩)⟩)⟩)⟩)⟩)⟩)⟩)⟩)⟩)⟩)⟩)⟩)⟩)⟩)⟩)⟩)⟩)⟩)⟩)⟩)⟩)⟩)⟩) w86⟩) w84⟩) w82⟩) w80⟩) w78⟩) w76⟩) (@hid _ ⟨
         LoopK1 (Go.Value.int Go.IntKind.i64 0) w76 (@hid _ ⟨fun _ x14_123 w124 B125 =>
          BuiltinK Try.prog Go.Builtin.len #[42] 3 #[false] #[x0] (@hid _ ⟨fun t127_126 w127 =>
          BinK Try.prog Go.BinOp.lss 3 x14_123 t127_126 (@hid _ ⟨fun t128_128 w129 =>
          BrK t128_128 (@hid _ ⟨
           IndexAtK Try.prog 42 x0 x14_123 (@hid _ ⟨fun t135_130 w131 =>
           LoadK Try.prog 2 t135_130 (@hid _ ⟨fun t136_132 w133 =>
           CallV Try.prog (.func (.func 23) #[] #[]) #[t22_9, t136_132] (@hid _ ⟨fun t137_134 w135 =>
           ExtractK Try.prog t137_134 0 (@hid _ ⟨fun t138_136 w137 =>
           ExtractK Try.prog t137_134 1 (@hid _ ⟨fun t139_138 w139 =>
           UnK Try.prog Go.UnOp.not t139_138 (@hid _ ⟨fun t141_140 w141 =>
           BrK t141_140 (@hid _ ⟨
            R (Go.Value.bool false) w141⟩) (@hid _ ⟨
            BinK Try.prog Go.BinOp.add 3 x14_123 (Go.Value.int Go.IntKind.i64 1) (@hid _ ⟨fun t130_142 w143 =>
            B125 t130_142 w143⟩) w141⟩)⟩) w139⟩) w137⟩) w135⟩) w133⟩) w131⟩) w129⟩) (@hid _ ⟨
           R (Go.Value.bool true) w129⟩)⟩) w127⟩) w124⟩)⟩)⟩) w74⟩) w71⟩)⟩)⟩) w67⟩) w65⟩) w63⟩) w61⟩) w59⟩) w57⟩) w55⟩) w53⟩) w51⟩) w49⟩) w19⟩)⟩) w17⟩) w14⟩)⟩) w10⟩) w8⟩)⟩) w6⟩) w4⟩)⟩) w2⟩) w0
def a4 : Ann := (.seq .no (.seq (.seq .no (.cond (.seq .no .no) .no)) (.seq (.seq .no (.cond (.seq .no .no) .no)) (.seq .no (.seq .no (.seq (.seq .no (.block (.loop [7] [(8, 8), (24, 55)] (.seq (.seq .no (.cond .no .no)) (.seq (.block (.seq (.plan (.take 0 (.take 1 (.take 2 (.take 3 (.take 4 (.take 5 (.take 6 (.take 7 (.take 8 (.alt 9 (.alt 10 .done .nil) .nil))))))))))) (.seq .no .no))) .no))))) (.seq .no (.seq .no (.seq (.seq .no (.cond (.seq .no .no) .no)) (.seq (.seq .no (.block (.loop [11] [(4, 4), (12, 13), (72, 124)] (.seq (.seq .no (.cond .no .no)) (.seq (.block (.seq .no (.seq (.plan (.take 0 (.take 1 (.take 2 (.take 3 (.take 4 (.take 5 (.take 6 (.take 7 (.take 8 (.take 9 (.take 10 (.take 11 (.take 12 (.take 13 (.take 14 (.take 15 (.take 16 (.take 17 (.take 18 (.take 19 (.take 20 (.take 21 (.take 22 (.take 23 (.take 24 (.take 25 (.take 26 (.take 27 (.take 28 (.take 29 (.take 30 (.take 31 (.take 32 (.take 33 (.take 34 (.alt 35 (.take 36 (.take 37 .done)) .nil))))))))))))))))))))))))))))))))))))) (.cond (.seq .no .no) .no)))) .no))))) (.seq (.seq .no (.block (.loop [14] [(4, 4), (15, 16), (125, 141)] (.seq (.seq .no (.cond .no .no)) (.seq (.block (.seq .no (.seq .no (.cond (.seq .no .no) .no)))) .no))))) (.seq .no .no))))))))))))
theorem F4_eq (x0 x1 : Value) (R : Value → World → Prop) (w0 : World) : F4 x0 x1 R w0 = vc Try.prog (bodyOf Try.f4) a4 (retQ Try.prog Try.f4 R) (envOf 0 [x0, x1]) w0 := by kernel_rfl
theorem F4_calls (x0 x1 : Value) (R : Value → World → Prop) (w0 : World) (h : F4 x0 x1 R w0) : CallK Try.prog 4 #[x0, x1] R w0 :=
  calls_vc (c := bodyOf Try.f4) Try.func4 (by kernel_rfl) (by kernel_rfl) a4 (by kernel_rfl) (by kernel_rfl) [x0, x1] (by rw [Try.ntmps4]; exact Nat.le_of_ble_eq_true rfl) w0 R ((F4_eq x0 x1 R w0).mp h)

/-- canton/cantonlaw1.MapPlaces, its body as a formula. -/
def F5 (x0 : Value) (R : Value → World → Prop) (w0 : World) : Prop :=
  CallV Try.prog (.func (.func 7) #[] #[]) #[] (@hid _ ⟨fun t20_1 w2 =>
  UnK Try.prog Go.UnOp.not t20_1 (@hid _ ⟨fun t21_3 w4 =>
  BrK t21_3 (@hid _ ⟨
   R (Go.Value.bool false) w4⟩) (@hid _ ⟨
   BuiltinK Try.prog Go.Builtin.len #[26] 3 #[false] #[x0] (@hid _ ⟨fun t23_5 w6 =>
   BinK Try.prog Go.BinOp.gtr 3 t23_5 (Go.Value.int Go.IntKind.i64 60) (@hid _ ⟨fun t24_7 w8 =>
   BrK t24_7 (@hid _ ⟨
    R (Go.Value.bool true) w8⟩) (@hid _ ⟨
    CallV Try.prog (.func (.func 24) #[] #[]) #[] (@hid _ ⟨fun t25_9 w10 =>
    LoopK1 (Go.Value.int Go.IntKind.i64 0) w10 (@hid _ ⟨fun _ x4_11 w12 B13 =>
     BuiltinK Try.prog Go.Builtin.len #[26] 3 #[false] #[x0] (@hid _ ⟨fun t28_14 w15 =>
     BinK Try.prog Go.BinOp.lss 3 x4_11 t28_14 (@hid _ ⟨fun t29_16 w17 =>
     BrK t29_16 (@hid _ ⟨
      IndexAtK Try.prog 26 x0 x4_11 (@hid _ ⟨fun t34_18 w19 =>
      LoadK Try.prog 9 t34_18 (@hid _ ⟨fun t35_20 w21 =>
      BuiltinK Try.prog Go.Builtin.len #[9] 3 #[false] #[t35_20] (@hid _ ⟨fun t36_22 w23 =>
      BinK Try.prog Go.BinOp.gtr 3 t36_22 (Go.Value.int Go.IntKind.i64 100) (@hid _ ⟨fun t37_24 w25 =>
      BrK t37_24 (@hid _ ⟨
       R (Go.Value.bool true) w25⟩) (@hid _ ⟨
       IndexAtK Try.prog 26 x0 x4_11 (@hid _ ⟨fun t41_26 w27 =>
       LoadK Try.prog 9 t41_26 (@hid _ ⟨fun t42_28 w29 =>
       CallV Try.prog (.func (.func 25) #[] #[]) #[t25_9, t42_28, (Go.Value.bool true)] (@hid _ ⟨fun t43_30 w31 =>
       BinK Try.prog Go.BinOp.add 3 x4_11 (Go.Value.int Go.IntKind.i64 1) (@hid _ ⟨fun t31_32 w33 =>
       B13 t31_32 w33⟩) w31⟩) w29⟩) w27⟩) w25⟩)⟩) w23⟩) w21⟩) w19⟩) w17⟩) (@hid _ ⟨
      CallV Try.prog (.func (.func 26) #[] #[]) #[t25_9] (@hid _ ⟨fun t45_34 w35 =>
      LoopK1 (Go.Value.int Go.IntKind.i64 0) w35 (@hid _ ⟨fun _ x6_36 w37 B38 =>
       BuiltinK Try.prog Go.Builtin.len #[26] 3 #[false] #[t45_34] (@hid _ ⟨fun t48_39 w40 =>
       BinK Try.prog Go.BinOp.lss 3 x6_36 t48_39 (@hid _ ⟨fun t49_41 w42 =>
       BrK t49_41 (@hid _ ⟨
        CallV Try.prog (.func (.func 27) #[] #[]) #[t25_9, x6_36] (@hid _ ⟨fun t55_43 w44 =>
        ExtractK Try.prog t55_43 0 (@hid _ ⟨fun t56_45 w46 =>
        ExtractK Try.prog t55_43 1 (@hid _ ⟨fun t57_47 w48 =>
        ExtractK Try.prog t55_43 2 (@hid _ ⟨fun t58_49 w50 =>
        IndexAtK Try.prog 26 t45_34 x6_36 (@hid _ ⟨fun t63_51 w52 =>
        LoadK Try.prog 9 t63_51 (@hid _ ⟨fun t64_53 w54 =>
        CallV Try.prog (.func (.func 28) #[] #[]) #[t25_9, t64_53] (@hid _ ⟨fun t65_55 w56 =>
        ExtractK Try.prog t65_55 0 (@hid _ ⟨fun t66_57 w58 =>
        ExtractK Try.prog t65_55 1 (@hid _ ⟨fun t67_59 w60 =>
        IndexAtK Try.prog 26 t45_34 x6_36 (@hid _ ⟨fun t72_61 w62 =>
        LoadK Try.prog 9 t72_61 (@hid _ ⟨fun t73_63 w64 =>
        CallV Try.prog (.func (.func 29) #[] #[]) #[t25_9, t73_63] (@hid _ ⟨fun t74_65 w66 =>
        ExtractK Try.prog t74_65 0 (@hid _ ⟨fun t75_67 w68 =>
        ExtractK Try.prog t74_65 1 (@hid _ ⟨fun t76_69 w70 =>
        UnK Try.prog Go.UnOp.not t58_49 (@hid _ ⟨fun t78_71 w72 =>
        GuardK t78_71 false (fun k w => k t57_47 w) (@hid _ ⟨fun t80_73 w74 =>
        GuardK t78_71 false (fun k w => UnK Try.prog Go.UnOp.not t80_73 k w) (@hid _ ⟨fun t81_75 w76 =>
        PickK Try.prog t78_71 (Go.Value.bool true) t81_75 (@hid _ ⟨fun t82_77 w78 =>
        GuardK t82_77 false (fun k w => k t56_45 w) (@hid _ ⟨fun t84_79 w80 =>
        GuardK t82_77 false (fun k w => k t45_34 w) (@hid _ ⟨fun t85_81 w82 =>
        GuardK t82_77 false (fun k w => k x6_36 w) (@hid _ ⟨fun t86_83 w84 =>
        GuardK t82_77 false (fun k w => IndexAtK Try.prog 26 t85_81 t86_83 k w) (@hid _ ⟨fun t87_85 w86 =>
        GuardK t82_77 false (fun k w => LoadK Try.prog 9 t87_85 k w) (@hid _ ⟨fun t88_87 w88 =>
        GuardK t82_77 false (fun k w => BinK Try.prog Go.BinOp.neq 9 t84_79 t88_87 k w) (@hid _ ⟨fun t89_89 w90 =>
        PickK Try.prog t82_77 (Go.Value.bool true) t89_89 (@hid _ ⟨fun t90_91 w92 =>
        GuardK t90_91 false (fun k w => k t67_59 w) (@hid _ ⟨fun t92_93 w94 =>
        GuardK t90_91 false (fun k w => UnK Try.prog Go.UnOp.not t92_93 k w) (@hid _ ⟨fun t93_95 w96 =>
        PickK Try.prog t90_91 (Go.Value.bool true) t93_95 (@hid _ ⟨fun t94_97 w98 =>
        GuardK t94_97 false (fun k w => k t66_57 w) (@hid _ ⟨fun t96_99 w100 =>
        GuardK t94_97 false (fun k w => k t56_45 w) (@hid _ ⟨fun t97_101 w102 =>
        GuardK t94_97 false (fun k w => BinK Try.prog Go.BinOp.neq 9 t96_99 t97_101 k w) (@hid _ ⟨fun t98_103 w104 =>
        PickK Try.prog t94_97 (Go.Value.bool true) t98_103 (@hid _ ⟨fun t99_105 w106 =>
        GuardK t99_105 false (fun k w => k t76_69 w) (@hid _ ⟨fun t101_107 w108 =>
        GuardK t99_105 false (fun k w => UnK Try.prog Go.UnOp.not t101_107 k w) (@hid _ ⟨fun t102_109 w110 =>
        PickK Try.prog t99_105 (Go.Value.bool true) t102_109 (@hid _ ⟨fun t103_111 w112 =>
        GuardK t103_111 false (fun k w => k t75_67 w) (@hid _ ⟨fun t105_113 w114 =>
        GuardK t103_111 false (fun k w => k t56_45 w) (@hid _ ⟨fun t106_115 w116 =>
        GuardK t103_111 false (fun k w => BinK Try.prog Go.BinOp.neq 9 t105_113 t106_115 k w) (@hid _ ⟨fun t107_117 w118 =>
        PickK Try.prog t103_111 (Go.Value.bool true) t107_117 (@hid _ ⟨fun t108_119 w120 =>
        BrK t108_119 (@hid _ ⟨
         R (Go.Value.bool false) w120⟩) (@hid _ ⟨
         BinK Try.prog Go.BinOp.add 3 x6_36 (Go.Value.int Go.IntKind.i64 1) (@hid _ ⟨fun t51_121 w122 =>
         B38 t51_121 w122⟩) w120⟩)⟩) w118⟩) w116⟩) w114⟩) w112⟩) w110⟩) w108⟩) w106⟩) w104⟩) w102⟩) w100⟩) w98⟩) w96⟩) w94⟩) w92⟩) w90⟩) w88⟩) w86⟩) w84⟩) w82⟩) w80⟩) w78⟩) w76⟩) w74⟩) w72⟩) w70⟩) w68⟩) w66⟩) w64⟩) w62⟩) w60⟩) w58⟩) w56⟩) w54⟩) w52⟩) w50⟩) w48⟩) w46⟩) w44⟩) w42⟩) (@hid _ ⟨
        BuiltinK Try.prog Go.Builtin.len #[26] 3 #[false] #[t45_34] (@hid _ ⟨fun t112_123 w124 =>
        CallV Try.prog (.func (.func 27) #[] #[]) #[t25_9, t112_123] (@hid _ ⟨fun t113_125 w126 =>
        ExtractK Try.prog t113_125 0 (@hid _ ⟨fun t114_127 w128 =>
        ExtractK Try.prog t113_125 1 (@hid _ ⟨fun t115_129 w130 =>
        ExtractK Try.prog t113_125 2 (@hid _ ⟨fun t116_131 w132 =>
        CallV Try.prog (.func (.func 27) #[] #[]) #[t25_9, (Go.Value.int Go.IntKind.i64 (-1))] (@hid _ ⟨fun t119_133 w134 =>
        ExtractK Try.prog t119_133 0 (@hid _ ⟨fun t120_135 w136 =>
        ExtractK Try.prog t119_133 1 (@hid _ ⟨fun t121_137 w138 =>
        ExtractK Try.prog t119_133 2 (@hid _ ⟨fun t122_139 w140 =>
        UnK Try.prog Go.UnOp.not t116_131 (@hid _ ⟨fun t124_141 w142 =>
        GuardK t124_141 true (fun k w => k t122_139 w) (@hid _ ⟨fun t126_143 w144 =>
        GuardK t124_141 true (fun k w => UnK Try.prog Go.UnOp.not t126_143 k w) (@hid _ ⟨fun t127_145 w146 =>
        PickK Try.prog t124_141 t127_145 (Go.Value.bool false) (@hid _ ⟨fun t128_147 w148 =>
        R t128_147 w148⟩) w146⟩) w144⟩) w142⟩) w140⟩) w138⟩) w136⟩) w134⟩) w132⟩) w130⟩) w128⟩) w126⟩) w124⟩) w42⟩)⟩) w40⟩) w37⟩)⟩) w17⟩)⟩) w15⟩) w12⟩)⟩) w8⟩)⟩) w6⟩) w4⟩)⟩) w2⟩) w0
def a5 : Ann := (.seq .no (.seq (.seq .no (.cond (.seq .no .no) .no)) (.seq (.seq .no (.cond (.seq .no .no) .no)) (.seq .no (.seq (.seq .no (.block (.loop [4] [(2, 2), (26, 43)] (.seq (.seq .no (.cond .no .no)) (.seq (.block (.seq (.seq .no (.cond (.seq .no .no) .no)) .no)) .no))))) (.seq .no (.seq (.seq .no (.block (.loop [6] [(2, 2), (7, 13), (46, 108)] (.seq (.seq .no (.cond .no .no)) (.seq (.block (.seq .no (.seq .no (.seq .no (.seq .no (.cond (.seq .no .no) .no)))))) .no))))) (.seq .no (.seq .no (.seq .no .no))))))))))
theorem F5_eq (x0 : Value) (R : Value → World → Prop) (w0 : World) : F5 x0 R w0 = vc Try.prog (bodyOf Try.f5) a5 (retQ Try.prog Try.f5 R) (envOf 0 [x0]) w0 := by kernel_rfl
theorem F5_calls (x0 : Value) (R : Value → World → Prop) (w0 : World) (h : F5 x0 R w0) : CallK Try.prog 5 #[x0] R w0 :=
  calls_vc (c := bodyOf Try.f5) Try.func5 (by kernel_rfl) (by kernel_rfl) a5 (by kernel_rfl) (by kernel_rfl) [x0] (by rw [Try.ntmps5]; exact Nat.le_of_ble_eq_true rfl) w0 R ((F5_eq x0 R w0).mp h)

/-- canton/cantonlaw1.MapTwins, its body as a formula. -/
def F6 (x0 x1 : Value) (R : Value → World → Prop) (w0 : World) : Prop :=
  CallV Try.prog (.func (.func 7) #[] #[]) #[] (@hid _ ⟨fun t17_1 w2 =>
  UnK Try.prog Go.UnOp.not t17_1 (@hid _ ⟨fun t18_3 w4 =>
  BrK t18_3 (@hid _ ⟨
   R (Go.Value.bool false) w4⟩) (@hid _ ⟨
   BuiltinK Try.prog Go.Builtin.len #[26] 3 #[false] #[x0] (@hid _ ⟨fun t20_5 w6 =>
   BinK Try.prog Go.BinOp.gtr 3 t20_5 (Go.Value.int Go.IntKind.i64 60) (@hid _ ⟨fun t21_7 w8 =>
   GuardK t21_7 false (fun k w => k x1 w) (@hid _ ⟨fun t23_9 w10 =>
   GuardK t21_7 false (fun k w => BuiltinK Try.prog Go.Builtin.len #[9] 3 #[false] #[t23_9] k w) (@hid _ ⟨fun t24_11 w12 =>
   GuardK t21_7 false (fun k w => BinK Try.prog Go.BinOp.gtr 3 t24_11 (Go.Value.int Go.IntKind.i64 100) k w) (@hid _ ⟨fun t25_13 w14 =>
   PickK Try.prog t21_7 (Go.Value.bool true) t25_13 (@hid _ ⟨fun t26_15 w16 =>
   BrK t26_15 (@hid _ ⟨
    R (Go.Value.bool true) w16⟩) (@hid _ ⟨
    CallV Try.prog (.func (.func 8) #[] #[]) #[] (@hid _ ⟨fun t27_17 w18 =>
    LoopK1 (Go.Value.int Go.IntKind.i64 0) w18 (@hid _ ⟨fun _ x6_19 w20 B21 =>
     BuiltinK Try.prog Go.Builtin.len #[26] 3 #[false] #[x0] (@hid _ ⟨fun t30_22 w23 =>
     BinK Try.prog Go.BinOp.lss 3 x6_19 t30_22 (@hid _ ⟨fun t31_24 w25 =>
     BrK t31_24 (@hid _ ⟨
      IndexAtK Try.prog 26 x0 x6_19 (@hid _ ⟨fun t36_26 w27 =>
      LoadK Try.prog 9 t36_26 (@hid _ ⟨fun t37_28 w29 =>
      BuiltinK Try.prog Go.Builtin.len #[9] 3 #[false] #[t37_28] (@hid _ ⟨fun t38_30 w31 =>
      BinK Try.prog Go.BinOp.gtr 3 t38_30 (Go.Value.int Go.IntKind.i64 100) (@hid _ ⟨fun t39_32 w33 =>
      GuardK t39_32 false (fun k w => k x0 w) (@hid _ ⟨fun t41_34 w35 =>
      GuardK t39_32 false (fun k w => k x6_19 w) (@hid _ ⟨fun t42_36 w37 =>
      GuardK t39_32 false (fun k w => IndexAtK Try.prog 26 t41_34 t42_36 k w) (@hid _ ⟨fun t43_38 w39 =>
      GuardK t39_32 false (fun k w => LoadK Try.prog 9 t43_38 k w) (@hid _ ⟨fun t44_40 w41 =>
      GuardK t39_32 false (fun k w => k x1 w) (@hid _ ⟨fun t45_42 w43 =>
      GuardK t39_32 false (fun k w => BinK Try.prog Go.BinOp.eql 9 t44_40 t45_42 k w) (@hid _ ⟨fun t46_44 w45 =>
      PickK Try.prog t39_32 (Go.Value.bool true) t46_44 (@hid _ ⟨fun t47_46 w47 =>
      BrK t47_46 (@hid _ ⟨
       R (Go.Value.bool true) w47⟩) (@hid _ ⟨
       IndexAtK Try.prog 26 x0 x6_19 (@hid _ ⟨fun t51_48 w49 =>
       LoadK Try.prog 9 t51_48 (@hid _ ⟨fun t52_50 w51 =>
       CallV Try.prog (.func (.func 10) #[] #[]) #[t27_17, t52_50, x6_19] (@hid _ ⟨fun t54_52 w53 =>
       BinK Try.prog Go.BinOp.add 3 x6_19 (Go.Value.int Go.IntKind.i64 1) (@hid _ ⟨fun t33_54 w55 =>
       B21 t33_54 w55⟩) w53⟩) w51⟩) w49⟩) w47⟩)⟩) w45⟩) w43⟩) w41⟩) w39⟩) w37⟩) w35⟩) w33⟩) w31⟩) w29⟩) w27⟩) w25⟩) (@hid _ ⟨
      CallV Try.prog (.func (.func 12) #[] #[]) #[t27_17] (@hid _ ⟨fun t56_56 w57 =>
      CallV Try.prog (.func (.func 12) #[] #[]) #[t27_17] (@hid _ ⟨fun t58_58 w59 =>
      BinK Try.prog Go.BinOp.eql 24 t56_56 (Go.Value.pointer none) (@hid _ ⟨fun t60_60 w61 =>
      GuardK t60_60 false (fun k w => k t58_58 w) (@hid _ ⟨fun t62_62 w63 =>
      GuardK t60_60 false (fun k w => BinK Try.prog Go.BinOp.eql 24 t62_62 (Go.Value.pointer none) k w) (@hid _ ⟨fun t63_64 w65 =>
      PickK Try.prog t60_60 (Go.Value.bool true) t63_64 (@hid _ ⟨fun t64_66 w67 =>
      BrK t64_66 (@hid _ ⟨
       R (Go.Value.bool false) w67⟩) (@hid _ ⟨
       CallV Try.prog (.func (.func 14) #[] #[]) #[t27_17] (@hid _ ⟨fun t66_68 w69 =>
       CallV Try.prog (.func (.func 10) #[] #[]) #[t56_56, x1, (Go.Value.int Go.IntKind.i64 1)] (@hid _ ⟨fun t69_70 w71 =>
       CallV Try.prog (.func (.func 10) #[] #[]) #[t27_17, x1, (Go.Value.int Go.IntKind.i64 2)] (@hid _ ⟨fun t72_72 w73 =>
       LoopK1 (Go.Value.int Go.IntKind.i64 0) w73 (@hid _ ⟨fun _ x10_74 w75 B76 =>
        BuiltinK Try.prog Go.Builtin.len #[26] 3 #[false] #[x0] (@hid _ ⟨fun t75_77 w78 =>
        BinK Try.prog Go.BinOp.lss 3 x10_74 t75_77 (@hid _ ⟨fun t76_79 w80 =>
        BrK t76_79 (@hid _ ⟨
         IndexAtK Try.prog 26 x0 x10_74 (@hid _ ⟨fun t82_81 w82 =>
         LoadK Try.prog 9 t82_81 (@hid _ ⟨fun t83_83 w84 =>
         CallV Try.prog (.func (.func 11) #[] #[]) #[t58_58, t83_83] (@hid _ ⟨fun t84_85 w86 =>
         BinK Try.prog Go.BinOp.add 3 x10_74 (Go.Value.int Go.IntKind.i64 1) (@hid _ ⟨fun t78_87 w88 =>
         B76 t78_87 w88⟩) w86⟩) w84⟩) w82⟩) w80⟩) (@hid _ ⟨
         CallV Try.prog (.func (.func 15) #[] #[]) #[t56_56, x1] (@hid _ ⟨fun t88_89 w90 =>
         ExtractK Try.prog t88_89 0 (@hid _ ⟨fun t89_91 w92 =>
         ExtractK Try.prog t88_89 1 (@hid _ ⟨fun t90_93 w94 =>
         CallV Try.prog (.func (.func 15) #[] #[]) #[t27_17, x1] (@hid _ ⟨fun t94_95 w96 =>
         ExtractK Try.prog t94_95 0 (@hid _ ⟨fun t95_97 w98 =>
         ExtractK Try.prog t94_95 1 (@hid _ ⟨fun t96_99 w100 =>
         CallV Try.prog (.func (.func 15) #[] #[]) #[t58_58, x1] (@hid _ ⟨fun t100_101 w102 =>
         ExtractK Try.prog t100_101 0 (@hid _ ⟨fun t101_103 w104 =>
         ExtractK Try.prog t100_101 1 (@hid _ ⟨fun t102_105 w106 =>
         BinK Try.prog Go.BinOp.eql 3 t89_91 (Go.Value.int Go.IntKind.i64 1) (@hid _ ⟨fun t104_107 w108 =>
         GuardK t104_107 true (fun k w => k t95_97 w) (@hid _ ⟨fun t106_109 w110 =>
         GuardK t104_107 true (fun k w => BinK Try.prog Go.BinOp.eql 3 t106_109 (Go.Value.int Go.IntKind.i64 2) k w) (@hid _ ⟨fun t107_111 w112 =>
         PickK Try.prog t104_107 t107_111 (Go.Value.bool false) (@hid _ ⟨fun t108_113 w114 =>
         GuardK t108_113 true (fun k w => k t102_105 w) (@hid _ ⟨fun t110_115 w116 =>
         GuardK t108_113 true (fun k w => UnK Try.prog Go.UnOp.not t110_115 k w) (@hid _ ⟨fun t111_117 w118 =>
         PickK Try.prog t108_113 t111_117 (Go.Value.bool false) (@hid _ ⟨fun t112_119 w120 =>
         GuardK t112_119 true (fun k w => k t58_58 w) (@hid _ ⟨fun t114_121 w122 =>
         GuardK t112_119 true (fun k w => CallV Try.prog (.func (.func 14) #[] #[]) #[t114_121] k w) (@hid _ ⟨fun t115_123 w124 =>
         GuardK t112_119 true (fun k w => BinK Try.prog Go.BinOp.eql 3 t115_123 (Go.Value.int Go.IntKind.i64 0) k w) (@hid _ ⟨fun t116_125 w126 =>
         PickK Try.prog t112_119 t116_125 (Go.Value.bool false) (@hid _ ⟨fun t117_127 w128 =>
         GuardK t117_127 true (fun k w => k t27_17 w) (@hid _ ⟨fun t119_129 w130 =>
         GuardK t117_127 true (fun k w => CallV Try.prog (.func (.func 14) #[] #[]) #[t119_129] k w) (@hid _ ⟨fun t120_131 w132 =>
         GuardK t117_127 true (fun k w => k t66_68 w) (@hid _ ⟨fun t121_133 w134 =>
         GuardK t117_127 true (fun k w => BinK Try.prog Go.BinOp.add 3 t121_133 (Go.Value.int Go.IntKind.i64 1) k w) (@hid _ ⟨fun t122_135 w136 =>
         GuardK t117_127 true (fun k w => BinK Try.prog Go.BinOp.eql 3 t120_131 t122_135 k w) (@hid _ ⟨fun t123_137 w138 =>
         PickK Try.prog t117_127 t123_137 (Go.Value.bool false) (@hid _ ⟨fun t124_139 w140 =>
         GuardK t124_139 true (fun k w => k t56_56 w) (@hid _ ⟨fun t126_141 w142 =>
         GuardK t124_139 true (fun k w => CallV Try.prog (.func (.func 14) #[] #[]) #[t126_141] k w) (@hid _ ⟨fun t127_143 w144 =>
         GuardK t124_139 true (fun k w => k t66_68 w) (@hid _ ⟨fun t128_145 w146 =>
         GuardK t124_139 true (fun k w => BinK Try.prog Go.BinOp.add 3 t128_145 (Go.Value.int Go.IntKind.i64 1) k w) (@hid _ ⟨fun t129_147 w148 =>
         GuardK t124_139 true (fun k w => BinK Try.prog Go.BinOp.eql 3 t127_143 t129_147 k w) (@hid _ ⟨fun t130_149 w150 =>
         PickK Try.prog t124_139 t130_149 (Go.Value.bool false) (@hid _ ⟨fun t131_151 w152 =>
         R t131_151 w152⟩) w150⟩) w148⟩) w146⟩) w144⟩) w142⟩) w140⟩) w138⟩) w136⟩) w134⟩) w132⟩) w130⟩) w128⟩) w126⟩) w124⟩) w122⟩) w120⟩) w118⟩) w116⟩) w114⟩) w112⟩) w110⟩) w108⟩) w106⟩) w104⟩) w102⟩) w100⟩) w98⟩) w96⟩) w94⟩) w92⟩) w90⟩) w80⟩)⟩) w78⟩) w75⟩)⟩) w71⟩) w69⟩) w67⟩)⟩) w65⟩) w63⟩) w61⟩) w59⟩) w57⟩) w25⟩)⟩) w23⟩) w20⟩)⟩) w16⟩)⟩) w14⟩) w12⟩) w10⟩) w8⟩) w6⟩) w4⟩)⟩) w2⟩) w0
def a6 : Ann := (.seq .no (.seq (.seq .no (.cond (.seq .no .no) .no)) (.seq (.seq .no (.cond (.seq .no .no) .no)) (.seq .no (.seq (.seq .no (.block (.loop [6] [(4, 4), (28, 54)] (.seq (.seq .no (.cond .no .no)) (.seq (.block (.seq (.seq .no (.cond (.seq .no .no) .no)) .no)) .no))))) (.seq .no (.seq .no (.seq (.seq .no (.cond (.seq .no .no) .no)) (.seq .no (.seq .no (.seq .no (.seq (.seq .no (.block (.loop [10] [(73, 84)] (.seq (.seq .no (.cond .no .no)) (.seq (.block .no) .no))))) (.seq .no (.seq .no (.seq .no (.seq .no .no))))))))))))))))
theorem F6_eq (x0 x1 : Value) (R : Value → World → Prop) (w0 : World) : F6 x0 x1 R w0 = vc Try.prog (bodyOf Try.f6) a6 (retQ Try.prog Try.f6 R) (envOf 0 [x0, x1]) w0 := by kernel_rfl
theorem F6_calls (x0 x1 : Value) (R : Value → World → Prop) (w0 : World) (h : F6 x0 x1 R w0) : CallK Try.prog 6 #[x0, x1] R w0 :=
  calls_vc (c := bodyOf Try.f6) Try.func6 (by kernel_rfl) (by kernel_rfl) a6 (by kernel_rfl) (by kernel_rfl) [x0, x1] (by rw [Try.ntmps6]; exact Nat.le_of_ble_eq_true rfl) w0 R ((F6_eq x0 x1 R w0).mp h)

/-- canton/cantonlaw1.known, its body as a formula. -/
def F7 (R : Value → World → Prop) (w0 : World) : Prop :=
  CallV Try.prog (.func (.func 8) #[] #[]) #[] (@hid _ ⟨fun t17_1 w2 =>
  BinK Try.prog Go.BinOp.eql 24 t17_1 (Go.Value.pointer none) (@hid _ ⟨fun t19_3 w4 =>
  BrK t19_3 (@hid _ ⟨
   R (Go.Value.bool false) w4⟩) (@hid _ ⟨
   CallV Try.prog (.func (.func 10) #[] #[]) #[t17_1, (Go.Value.string { data := #[98] }), (Go.Value.int Go.IntKind.i64 1)] (@hid _ ⟨fun t21_5 w6 =>
   CallV Try.prog (.func (.func 10) #[] #[]) #[t17_1, (Go.Value.string { data := #[97] }), (Go.Value.int Go.IntKind.i64 2)] (@hid _ ⟨fun t23_7 w8 =>
   CallV Try.prog (.func (.func 10) #[] #[]) #[t17_1, (Go.Value.string { data := #[98] }), (Go.Value.int Go.IntKind.i64 3)] (@hid _ ⟨fun t25_9 w10 =>
   CallV Try.prog (.func (.func 15) #[] #[]) #[t17_1, (Go.Value.string { data := #[98] })] (@hid _ ⟨fun t28_11 w12 =>
   ExtractK Try.prog t28_11 0 (@hid _ ⟨fun t29_13 w14 =>
   ExtractK Try.prog t28_11 1 (@hid _ ⟨fun t30_15 w16 =>
   CallV Try.prog (.func (.func 13) #[] #[]) #[t17_1] (@hid _ ⟨fun t32_17 w18 =>
   CallV Try.prog (.func (.func 16) #[] #[]) #[t17_1, (Go.Value.int Go.IntKind.i64 1)] (@hid _ ⟨fun t35_19 w20 =>
   ExtractK Try.prog t35_19 0 (@hid _ ⟨fun t36_21 w22 =>
   ExtractK Try.prog t35_19 1 (@hid _ ⟨fun t37_23 w24 =>
   ExtractK Try.prog t35_19 2 (@hid _ ⟨fun t38_25 w26 =>
   CallV Try.prog (.func (.func 17) #[] #[]) #[t17_1, (Go.Value.string { data := #[97, 98] })] (@hid _ ⟨fun t41_27 w28 =>
   ExtractK Try.prog t41_27 0 (@hid _ ⟨fun t42_29 w30 =>
   ExtractK Try.prog t41_27 1 (@hid _ ⟨fun t43_31 w32 =>
   CallV Try.prog (.func (.func 18) #[] #[]) #[t17_1, (Go.Value.string { data := #[99] })] (@hid _ ⟨fun t46_33 w34 =>
   ExtractK Try.prog t46_33 0 (@hid _ ⟨fun t47_35 w36 =>
   ExtractK Try.prog t46_33 1 (@hid _ ⟨fun t48_37 w38 =>
   CallV Try.prog (.func (.func 12) #[] #[]) #[t17_1] (@hid _ ⟨fun t50_39 w40 =>
   CallV Try.prog (.func (.func 11) #[] #[]) #[t17_1, (Go.Value.string { data := #[98] })] (@hid _ ⟨fun t52_41 w42 =>
   GuardK t21_5 true (fun k w => k t23_7 w) (@hid _ ⟨fun t55_43 w44 =>
   PickK Try.prog t21_5 t55_43 (Go.Value.bool false) (@hid _ ⟨fun t56_45 w46 =>
   GuardK t56_45 true (fun k w => k t25_9 w) (@hid _ ⟨fun t58_47 w48 =>
   GuardK t56_45 true (fun k w => UnK Try.prog Go.UnOp.not t58_47 k w) (@hid _ ⟨fun t59_49 w50 =>
   PickK Try.prog t56_45 t59_49 (Go.Value.bool false) (@hid _ ⟨fun t60_51 w52 =>
   GuardK t60_51 true (fun k w => k t30_15 w) (@hid _ ⟨fun t62_53 w54 =>
   PickK Try.prog t60_51 t62_53 (Go.Value.bool false) (@hid _ ⟨fun t63_55 w56 =>
   GuardK t63_55 true (fun k w => k t29_13 w) (@hid _ ⟨fun t65_57 w58 =>
   GuardK t63_55 true (fun k w => BinK Try.prog Go.BinOp.eql 3 t65_57 (Go.Value.int Go.IntKind.i64 3) k w) (@hid _ ⟨fun t66_59 w60 =>
   PickK Try.prog t63_55 t66_59 (Go.Value.bool false) (@hid _ ⟨fun t67_61 w62 =>
   GuardK t67_61 true (fun k w => k t32_17 w) (@hid _ ⟨fun t69_63 w64 =>
   GuardK t67_61 true (fun k w => BuiltinK Try.prog Go.Builtin.len #[26] 3 #[false] #[t69_63] k w) (@hid _ ⟨fun t70_65 w66 =>
   GuardK t67_61 true (fun k w => BinK Try.prog Go.BinOp.eql 3 t70_65 (Go.Value.int Go.IntKind.i64 2) k w) (@hid _ ⟨fun t71_67 w68 =>
   PickK Try.prog t67_61 t71_67 (Go.Value.bool false) (@hid _ ⟨fun t72_69 w70 =>
   GuardK t72_69 true (fun k w => k t32_17 w) (@hid _ ⟨fun t74_71 w72 =>
   GuardK t72_69 true (fun k w => IndexAtK Try.prog 26 t74_71 (Go.Value.int Go.IntKind.i64 0) k w) (@hid _ ⟨fun t75_73 w74 =>
   GuardK t72_69 true (fun k w => LoadK Try.prog 9 t75_73 k w) (@hid _ ⟨fun t76_75 w76 =>
   GuardK t72_69 true (fun k w => BinK Try.prog Go.BinOp.eql 9 t76_75 (Go.Value.string { data := #[97] }) k w) (@hid _ ⟨fun t77_77 w78 =>
   PickK Try.prog t72_69 t77_77 (Go.Value.bool false) (@hid _ ⟨fun t78_79 w80 =>
   GuardK t78_79 true (fun k w => k t38_25 w) (@hid _ ⟨fun t80_81 w82 =>
   PickK Try.prog t78_79 t80_81 (Go.Value.bool false) (@hid _ ⟨fun t81_83 w84 =>
   GuardK t81_83 true (fun k w => k t36_21 w) (@hid _ ⟨fun t83_85 w86 =>
   GuardK t81_83 true (fun k w => BinK Try.prog Go.BinOp.eql 9 t83_85 (Go.Value.string { data := #[98] }) k w) (@hid _ ⟨fun t84_87 w88 =>
   PickK Try.prog t81_83 t84_87 (Go.Value.bool false) (@hid _ ⟨fun t85_89 w90 =>
   GuardK t85_89 true (fun k w => k t37_23 w) (@hid _ ⟨fun t87_91 w92 =>
   GuardK t85_89 true (fun k w => BinK Try.prog Go.BinOp.eql 3 t87_91 (Go.Value.int Go.IntKind.i64 3) k w) (@hid _ ⟨fun t88_93 w94 =>
   PickK Try.prog t85_89 t88_93 (Go.Value.bool false) (@hid _ ⟨fun t89_95 w96 =>
   GuardK t89_95 true (fun k w => k t43_31 w) (@hid _ ⟨fun t91_97 w98 =>
   PickK Try.prog t89_95 t91_97 (Go.Value.bool false) (@hid _ ⟨fun t92_99 w100 =>
   GuardK t92_99 true (fun k w => k t42_29 w) (@hid _ ⟨fun t94_101 w102 =>
   GuardK t92_99 true (fun k w => BinK Try.prog Go.BinOp.eql 9 t94_101 (Go.Value.string { data := #[97] }) k w) (@hid _ ⟨fun t95_103 w104 =>
   PickK Try.prog t92_99 t95_103 (Go.Value.bool false) (@hid _ ⟨fun t96_105 w106 =>
   GuardK t96_105 true (fun k w => k t48_37 w) (@hid _ ⟨fun t98_107 w108 =>
   GuardK t96_105 true (fun k w => UnK Try.prog Go.UnOp.not t98_107 k w) (@hid _ ⟨fun t99_109 w110 =>
   PickK Try.prog t96_105 t99_109 (Go.Value.bool false) (@hid _ ⟨fun t100_111 w112 =>
   GuardK t100_111 true (fun k w => k t47_35 w) (@hid _ ⟨fun t102_113 w114 =>
   GuardK t100_111 true (fun k w => BinK Try.prog Go.BinOp.eql 9 t102_113 (Go.Value.string { data := #[] }) k w) (@hid _ ⟨fun t103_115 w116 =>
   PickK Try.prog t100_111 t103_115 (Go.Value.bool false) (@hid _ ⟨fun t104_117 w118 =>
   GuardK t104_117 true (fun k w => k t52_41 w) (@hid _ ⟨fun t106_119 w120 =>
   PickK Try.prog t104_117 t106_119 (Go.Value.bool false) (@hid _ ⟨fun t107_121 w122 =>
   GuardK t107_121 true (fun k w => k t17_1 w) (@hid _ ⟨fun t109_123 w124 =>
   GuardK t107_121 true (fun k w => CallV Try.prog (.func (.func 14) #[] #[]) #[t109_123] k w) (@hid _ ⟨fun t110_125 w126 =>
   GuardK t107_121 true (fun k w => BinK Try.prog Go.BinOp.eql 3 t110_125 (Go.Value.int Go.IntKind.i64 1) k w) (@hid _ ⟨fun t111_127 w128 =>
   PickK Try.prog t107_121 t111_127 (Go.Value.bool false) (@hid _ ⟨fun t112_129 w130 =>
   GuardK t112_129 true (fun k w => k t50_39 w) (@hid _ ⟨fun t114_131 w132 =>
   GuardK t112_129 true (fun k w => BinK Try.prog Go.BinOp.neq 24 t114_131 (Go.Value.pointer none) k w) (@hid _ ⟨fun t115_133 w134 =>
   PickK Try.prog t112_129 t115_133 (Go.Value.bool false) (@hid _ ⟨fun t116_135 w136 =>
   GuardK t116_135 true (fun k w => k t50_39 w) (@hid _ ⟨fun t118_137 w138 =>
   GuardK t116_135 true (fun k w => CallV Try.prog (.func (.func 14) #[] #[]) #[t118_137] k w) (@hid _ ⟨fun t119_139 w140 =>
   GuardK t116_135 true (fun k w => BinK Try.prog Go.BinOp.eql 3 t119_139 (Go.Value.int Go.IntKind.i64 2) k w) (@hid _ ⟨fun t120_141 w142 =>
   PickK Try.prog t116_135 t120_141 (Go.Value.bool false) (@hid _ ⟨fun t121_143 w144 =>
   R t121_143 w144⟩) w142⟩) w140⟩) w138⟩) w136⟩) w134⟩) w132⟩) w130⟩) w128⟩) w126⟩) w124⟩) w122⟩) w120⟩) w118⟩) w116⟩) w114⟩) w112⟩) w110⟩) w108⟩) w106⟩) w104⟩) w102⟩) w100⟩) w98⟩) w96⟩) w94⟩) w92⟩) w90⟩) w88⟩) w86⟩) w84⟩) w82⟩) w80⟩) w78⟩) w76⟩) w74⟩) w72⟩) w70⟩) w68⟩) w66⟩) w64⟩) w62⟩) w60⟩) w58⟩) w56⟩) w54⟩) w52⟩) w50⟩) w48⟩) w46⟩) w44⟩) w42⟩) w40⟩) w38⟩) w36⟩) w34⟩) w32⟩) w30⟩) w28⟩) w26⟩) w24⟩) w22⟩) w20⟩) w18⟩) w16⟩) w14⟩) w12⟩) w10⟩) w8⟩) w6⟩) w4⟩)⟩) w2⟩) w0
def a7 : Ann := (.seq .no (.seq .no (.seq (.seq .no (.cond (.seq .no .no) .no)) (.seq .no (.seq .no (.seq .no (.seq .no (.seq .no (.seq .no (.seq .no (.seq .no (.seq .no (.seq .no (.seq .no .no))))))))))))))
theorem F7_eq (R : Value → World → Prop) (w0 : World) : F7  R w0 = vc Try.prog (bodyOf Try.f7) a7 (retQ Try.prog Try.f7 R) (envOf 0 []) w0 := by kernel_rfl
theorem F7_calls (R : Value → World → Prop) (w0 : World) (h : F7  R w0) : CallK Try.prog 7 #[] R w0 :=
  calls_vc (c := bodyOf Try.f7) Try.func7 (by kernel_rfl) (by kernel_rfl) a7 (by kernel_rfl) (by kernel_rfl) [] (by rw [Try.ntmps7]; exact Nat.le_of_ble_eq_true rfl) w0 R ((F7_eq  R w0).mp h)

/-- canton/sorted.New[string,int], its body as a formula. -/
def F8 (R : Value → World → Prop) (w0 : World) : Prop :=
  BuildK Try.prog 59 #[] (@hid _ ⟨fun t1_1 w2 =>
  BoxK Try.prog 59 t1_1 (@hid _ ⟨fun t2_3 w4 =>
  R t2_3 w4⟩) w2⟩) w0
def a8 : Ann := (.seq .no (.seq .no .no))
theorem F8_eq (R : Value → World → Prop) (w0 : World) : F8  R w0 = vc Try.prog (bodyOf Try.f8) a8 (retQ Try.prog Try.f8 R) (envOf 0 []) w0 := by kernel_rfl
theorem F8_calls (R : Value → World → Prop) (w0 : World) (h : F8  R w0) : CallK Try.prog 8 #[] R w0 :=
  calls_vc (c := bodyOf Try.f8) Try.func8 (by kernel_rfl) (by kernel_rfl) a8 (by kernel_rfl) (by kernel_rfl) [] (by rw [Try.ntmps8]; exact Nat.le_of_ble_eq_true rfl) w0 R ((F8_eq  R w0).mp h)

/-- canton/cantonlaw1.at, its body as a formula. -/
def F9 (x0 x1 : Value) (R : Value → World → Prop) (w0 : World) : Prop :=
  LoopK1 (Go.Value.int Go.IntKind.i64 0) w0 (@hid _ ⟨fun _ x6_1 w2 B3 =>
   BuiltinK Try.prog Go.Builtin.len #[26] 3 #[false] #[x0] (@hid _ ⟨fun t9_4 w5 =>
   BinK Try.prog Go.BinOp.lss 3 x6_1 t9_4 (@hid _ ⟨fun t10_6 w7 =>
   GuardK t10_6 true (fun k w => k x0 w) (@hid _ ⟨fun t12_8 w9 =>
   GuardK t10_6 true (fun k w => k x6_1 w) (@hid _ ⟨fun t13_10 w11 =>
   GuardK t10_6 true (fun k w => IndexAtK Try.prog 26 t12_8 t13_10 k w) (@hid _ ⟨fun t14_12 w13 =>
   GuardK t10_6 true (fun k w => LoadK Try.prog 9 t14_12 k w) (@hid _ ⟨fun t15_14 w15 =>
   GuardK t10_6 true (fun k w => k x1 w) (@hid _ ⟨fun t16_16 w17 =>
   GuardK t10_6 true (fun k w => BinK Try.prog Go.BinOp.lss 9 t15_14 t16_16 k w) (@hid _ ⟨fun t17_18 w19 =>
   PickK Try.prog t10_6 t17_18 (Go.Value.bool false) (@hid _ ⟨fun t18_20 w21 =>
   BrK t18_20 (@hid _ ⟨
    BinK Try.prog Go.BinOp.add 3 x6_1 (Go.Value.int Go.IntKind.i64 1) (@hid _ ⟨fun t20_22 w23 =>
    B3 t20_22 w23⟩) w21⟩) (@hid _ ⟨
    DrawK (@hid _ ⟨fun S24 w25 =>
    TakeO Try.prog S24 (builtin Go.Builtin.len #[26] 3 #[false] #[x0]) (@hid _ ⟨fun t24_26 =>
    BinT Try.prog S24 Go.BinOp.lss 3 x6_1 t24_26 (@hid _ ⟨fun t25_27 =>
    TakeG t25_27 true (fun k => k x0) (@hid _ ⟨fun t27_28 =>
    TakeG t25_27 true (fun k => k x6_1) (@hid _ ⟨fun t28_29 =>
    TakeG t25_27 true (fun k => TakeS Try.prog S24 (Instr.indexAt 26 t27_28 t28_29) k) (@hid _ ⟨fun t29_30 =>
    TakeG t25_27 true (fun k => TakeS Try.prog S24 (Instr.loadAt 9 t29_30) k) (@hid _ ⟨fun t30_31 =>
    TakeG t25_27 true (fun k => k x1) (@hid _ ⟨fun t31_32 =>
    TakeG t25_27 true (fun k => BinT Try.prog S24 Go.BinOp.eql 9 t30_31 t31_32 k) (@hid _ ⟨fun t32_33 =>
    PickT t25_27 t32_33 (Go.Value.bool false) (@hid _ ⟨fun t33_34 =>
    R (.tuple #[x6_1, t33_34]) w25⟩)⟩)⟩)⟩)⟩)⟩)⟩)⟩)⟩)⟩) w21⟩)⟩) w19⟩) w17⟩) w15⟩) w13⟩) w11⟩) w9⟩) w7⟩) w5⟩) w2⟩)
def a9 : Ann := (.seq .no (.seq .no (.seq (.block (.loop [6] [(7, 20)] (.seq (.seq .no (.cond .no .no)) (.block .no)))) (.seq (.plan (.take 0 (.take 1 (.take 2 (.take 3 (.take 4 (.take 5 (.take 6 (.take 7 (.take 8 (.take 9 (.take 10 (.take 11 (.take 12 (.take 13 (.take 14 .done)))))))))))))))) .no))))
theorem F9_eq (x0 x1 : Value) (R : Value → World → Prop) (w0 : World) : F9 x0 x1 R w0 = vc Try.prog (bodyOf Try.f9) a9 (retQ Try.prog Try.f9 R) (envOf 0 [x0, x1]) w0 := by kernel_rfl
theorem F9_calls (x0 x1 : Value) (R : Value → World → Prop) (w0 : World) (h : F9 x0 x1 R w0) : CallK Try.prog 9 #[x0, x1] R w0 :=
  calls_vc (c := bodyOf Try.f9) Try.func9 (by kernel_rfl) (by kernel_rfl) a9 (by kernel_rfl) (by kernel_rfl) [x0, x1] (by rw [Try.ntmps9]; exact Nat.le_of_ble_eq_true rfl) w0 R ((F9_eq x0 x1 R w0).mp h)

/-- (*canton/sorted.Map[string, int]).Put, its body as a formula. -/
def F10 (x0 x1 x2 : Value) (R : Value → World → Prop) (w0 : World) : Prop :=
  CallV Try.prog (.func (.func 30) #[] #[]) #[x0, x1] (@hid _ ⟨fun t12_1 w2 =>
  ExtractK Try.prog t12_1 0 (@hid _ ⟨fun t13_3 w4 =>
  ExtractK Try.prog t12_1 1 (@hid _ ⟨fun t14_5 w6 =>
  BrK t14_5 (@hid _ ⟨
   NilK Try.prog x0 (@hid _ ⟨fun t17_7 w8 =>
   FieldAtK Try.prog 59 t17_7 0 (@hid _ ⟨fun t18_9 w10 =>
   LoadK Try.prog 57 t18_9 (@hid _ ⟨fun t19_11 w12 =>
   IndexAtK Try.prog 57 t19_11 t13_3 (@hid _ ⟨fun t22_13 w14 =>
   FieldAtK Try.prog 61 t22_13 1 (@hid _ ⟨fun t23_15 w16 =>
   StoreK Try.prog 3 t23_15 x2 (@hid _ ⟨fun tu_17 w18 =>
   R (Go.Value.bool false) w18⟩) w16⟩) w14⟩) w12⟩) w10⟩) w8⟩) w6⟩) (@hid _ ⟨
   NilK Try.prog x0 (@hid _ ⟨fun t26_19 w20 =>
   FieldAtK Try.prog 59 t26_19 0 (@hid _ ⟨fun t27_21 w22 =>
   LoadK Try.prog 57 t27_21 (@hid _ ⟨fun t28_23 w24 =>
   BuildK Try.prog 61 #[(0, x1), (1, x2)] (@hid _ ⟨fun t32_25 w26 =>
   BuildSliceK Try.prog 57 1 #[(0, t32_25)] (@hid _ ⟨fun t33_27 w28 =>
   CallV Try.prog (.func (.func 31) #[] #[]) #[t28_23, t13_3, t33_27] (@hid _ ⟨fun t34_29 w30 =>
   NilK Try.prog x0 (@hid _ ⟨fun t35_31 w32 =>
   FieldAtK Try.prog 59 t35_31 0 (@hid _ ⟨fun t36_33 w34 =>
   StoreK Try.prog 57 t36_33 t34_29 (@hid _ ⟨fun tu_35 w36 =>
   R (Go.Value.bool true) w36⟩) w34⟩) w32⟩) w30⟩) w28⟩) w26⟩) w24⟩) w22⟩) w20⟩) w6⟩)⟩) w4⟩) w2⟩) w0
def a10 : Ann := (.seq .no (.seq .no (.seq (.seq .no (.cond (.seq .no (.seq .no .no)) .no)) (.seq .no (.seq .no .no)))))
theorem F10_eq (x0 x1 x2 : Value) (R : Value → World → Prop) (w0 : World) : F10 x0 x1 x2 R w0 = vc Try.prog (bodyOf Try.f10) a10 (retQ Try.prog Try.f10 R) (envOf 0 [x0, x1, x2]) w0 := by kernel_rfl
theorem F10_calls (x0 x1 x2 : Value) (R : Value → World → Prop) (w0 : World) (h : F10 x0 x1 x2 R w0) : CallK Try.prog 10 #[x0, x1, x2] R w0 :=
  calls_vc (c := bodyOf Try.f10) Try.func10 (by kernel_rfl) (by kernel_rfl) a10 (by kernel_rfl) (by kernel_rfl) [x0, x1, x2] (by rw [Try.ntmps10]; exact Nat.le_of_ble_eq_true rfl) w0 R ((F10_eq x0 x1 x2 R w0).mp h)

/-- (*canton/sorted.Map[string, int]).Drop, its body as a formula. -/
def F11 (x0 x1 : Value) (R : Value → World → Prop) (w0 : World) : Prop :=
  CallV Try.prog (.func (.func 30) #[] #[]) #[x0, x1] (@hid _ ⟨fun t10_1 w2 =>
  ExtractK Try.prog t10_1 0 (@hid _ ⟨fun t11_3 w4 =>
  ExtractK Try.prog t10_1 1 (@hid _ ⟨fun t12_5 w6 =>
  BrK t12_5 (@hid _ ⟨
   NilK Try.prog x0 (@hid _ ⟨fun t16_7 w8 =>
   FieldAtK Try.prog 59 t16_7 0 (@hid _ ⟨fun t17_9 w10 =>
   LoadK Try.prog 57 t17_9 (@hid _ ⟨fun t18_11 w12 =>
   BinK Try.prog Go.BinOp.add 3 t11_3 (Go.Value.int Go.IntKind.i64 1) (@hid _ ⟨fun t21_13 w14 =>
   CallV Try.prog (.func (.func 32) #[] #[]) #[t18_11, t11_3, t21_13] (@hid _ ⟨fun t22_15 w16 =>
   NilK Try.prog x0 (@hid _ ⟨fun t23_17 w18 =>
   FieldAtK Try.prog 59 t23_17 0 (@hid _ ⟨fun t24_19 w20 =>
   StoreK Try.prog 57 t24_19 t22_15 (@hid _ ⟨fun tu_21 w22 =>
   R t12_5 w22⟩) w20⟩) w18⟩) w16⟩) w14⟩) w12⟩) w10⟩) w8⟩) w6⟩) (@hid _ ⟨
   R t12_5 w6⟩)⟩) w4⟩) w2⟩) w0
def a11 : Ann := (.seq .no (.seq .no (.seq (.seq .no (.cond .no .no)) (.seq .no .no))))
theorem F11_eq (x0 x1 : Value) (R : Value → World → Prop) (w0 : World) : F11 x0 x1 R w0 = vc Try.prog (bodyOf Try.f11) a11 (retQ Try.prog Try.f11 R) (envOf 0 [x0, x1]) w0 := by kernel_rfl
theorem F11_calls (x0 x1 : Value) (R : Value → World → Prop) (w0 : World) (h : F11 x0 x1 R w0) : CallK Try.prog 11 #[x0, x1] R w0 :=
  calls_vc (c := bodyOf Try.f11) Try.func11 (by kernel_rfl) (by kernel_rfl) a11 (by kernel_rfl) (by kernel_rfl) [x0, x1] (by rw [Try.ntmps11]; exact Nat.le_of_ble_eq_true rfl) w0 R ((F11_eq x0 x1 R w0).mp h)

/-- (*canton/sorted.Map[string, int]).Twin, its body as a formula. -/
def F12 (x0 : Value) (R : Value → World → Prop) (w0 : World) : Prop :=
  NilK Try.prog x0 (@hid _ ⟨fun t4_1 w2 =>
  FieldAtK Try.prog 59 t4_1 0 (@hid _ ⟨fun t5_3 w4 =>
  LoadK Try.prog 57 t5_3 (@hid _ ⟨fun t6_5 w6 =>
  CallV Try.prog (.func (.func 33) #[] #[]) #[t6_5] (@hid _ ⟨fun t7_7 w8 =>
  BuildK Try.prog 59 #[(0, t7_7)] (@hid _ ⟨fun t8_9 w10 =>
  BoxK Try.prog 59 t8_9 (@hid _ ⟨fun t9_11 w12 =>
  R t9_11 w12⟩) w10⟩) w8⟩) w6⟩) w4⟩) w2⟩) w0
def a12 : Ann := (.seq .no (.seq .no .no))
theorem F12_eq (x0 : Value) (R : Value → World → Prop) (w0 : World) : F12 x0 R w0 = vc Try.prog (bodyOf Try.f12) a12 (retQ Try.prog Try.f12 R) (envOf 0 [x0]) w0 := by kernel_rfl
theorem F12_calls (x0 : Value) (R : Value → World → Prop) (w0 : World) (h : F12 x0 R w0) : CallK Try.prog 12 #[x0] R w0 :=
  calls_vc (c := bodyOf Try.f12) Try.func12 (by kernel_rfl) (by kernel_rfl) a12 (by kernel_rfl) (by kernel_rfl) [x0] (by rw [Try.ntmps12]; exact Nat.le_of_ble_eq_true rfl) w0 R ((F12_eq x0 R w0).mp h)

/-- (*canton/sorted.Map[string, int]).Keys, its body as a formula. -/
def F13 (x0 : Value) (R : Value → World → Prop) (w0 : World) : Prop :=
  NilK Try.prog x0 (@hid _ ⟨fun t7_1 w2 =>
  FieldAtK Try.prog 59 t7_1 0 (@hid _ ⟨fun t8_3 w4 =>
  LoadK Try.prog 57 t8_3 (@hid _ ⟨fun t9_5 w6 =>
  BuiltinK Try.prog Go.Builtin.len #[57] 3 #[false] #[t9_5] (@hid _ ⟨fun t10_7 w8 =>
  ValK Try.prog (Instr.makeSlice 26 (Go.Value.int Go.IntKind.i64 0) t10_7) (@hid _ ⟨fun t11_9 w10 =>
  NilK Try.prog x0 (@hid _ ⟨fun t13_11 w12 =>
  FieldAtK Try.prog 59 t13_11 0 (@hid _ ⟨fun t14_13 w14 =>
  LoadK Try.prog 57 t14_13 (@hid _ ⟨fun t15_15 w16 =>
  BuiltinK Try.prog Go.Builtin.len #[57] 3 #[false] #[t15_15] (@hid _ ⟨fun t16_17 w18 =>
  LoopK2 t11_9 (Go.Value.int Go.IntKind.i64 0) w18 (@hid _ ⟨fun _ x3_19 x17_20 w21 B22 =>
   BinK Try.prog Go.BinOp.lss 3 x17_20 t16_17 (@hid _ ⟨fun t18_23 w24 =>
   BrK t18_23 (@hid _ ⟨
    IndexAtK Try.prog 57 t15_15 x17_20 (@hid _ ⟨fun t19_25 w26 =>
    LoadK Try.prog 61 t19_25 (@hid _ ⟨fun t20_27 w28 =>
    AllocK Try.prog 61 (@hid _ ⟨fun t5_29 w30 =>
    StoreK Try.prog 61 t5_29 t20_27 (@hid _ ⟨fun tu_31 w32 =>
    FieldAtK Try.prog 61 t5_29 0 (@hid _ ⟨fun t22_33 w34 =>
    LoadK Try.prog 9 t22_33 (@hid _ ⟨fun t23_35 w36 =>
    BuildSliceK Try.prog 26 1 #[(0, t23_35)] (@hid _ ⟨fun t24_37 w38 =>
    BuiltinK Try.prog Go.Builtin.append #[26, 26] 26 #[false, false] #[x3_19, t24_37] (@hid _ ⟨fun t25_39 w40 =>
    BinK Try.prog Go.BinOp.add 3 x17_20 (Go.Value.int Go.IntKind.i64 1) (@hid _ ⟨fun t26_41 w42 =>
    B22 t25_39 t26_41 w42⟩) w40⟩) w38⟩) w36⟩) w34⟩) w32⟩) w30⟩) w28⟩) w26⟩) w24⟩) (@hid _ ⟨
    R x3_19 w24⟩)⟩) w21⟩)⟩) w16⟩) w14⟩) w12⟩) w10⟩) w8⟩) w6⟩) w4⟩) w2⟩) w0
def a13 : Ann := (.seq .no (.seq .no (.seq (.seq .no (.block (.loop [3, 17] [(5, 5), (18, 26)] (.seq .no (.seq (.cond .no .no) (.seq (.block (.seq .no .no)) .no)))))) (.seq .no .no))))
theorem F13_eq (x0 : Value) (R : Value → World → Prop) (w0 : World) : F13 x0 R w0 = vc Try.prog (bodyOf Try.f13) a13 (retQ Try.prog Try.f13 R) (envOf 0 [x0]) w0 := by kernel_rfl
theorem F13_calls (x0 : Value) (R : Value → World → Prop) (w0 : World) (h : F13 x0 R w0) : CallK Try.prog 13 #[x0] R w0 :=
  calls_vc (c := bodyOf Try.f13) Try.func13 (by kernel_rfl) (by kernel_rfl) a13 (by kernel_rfl) (by kernel_rfl) [x0] (by rw [Try.ntmps13]; exact Nat.le_of_ble_eq_true rfl) w0 R ((F13_eq x0 R w0).mp h)

/-- (*canton/sorted.Map[string, int]).Len, its body as a formula. -/
def F14 (x0 : Value) (R : Value → World → Prop) (w0 : World) : Prop :=
  NilK Try.prog x0 (@hid _ ⟨fun t4_1 w2 =>
  FieldAtK Try.prog 59 t4_1 0 (@hid _ ⟨fun t5_3 w4 =>
  LoadK Try.prog 57 t5_3 (@hid _ ⟨fun t6_5 w6 =>
  BuiltinK Try.prog Go.Builtin.len #[57] 3 #[false] #[t6_5] (@hid _ ⟨fun t7_7 w8 =>
  R t7_7 w8⟩) w6⟩) w4⟩) w2⟩) w0
def a14 : Ann := (.seq .no (.seq .no .no))
theorem F14_eq (x0 : Value) (R : Value → World → Prop) (w0 : World) : F14 x0 R w0 = vc Try.prog (bodyOf Try.f14) a14 (retQ Try.prog Try.f14 R) (envOf 0 [x0]) w0 := by kernel_rfl
theorem F14_calls (x0 : Value) (R : Value → World → Prop) (w0 : World) (h : F14 x0 R w0) : CallK Try.prog 14 #[x0] R w0 :=
  calls_vc (c := bodyOf Try.f14) Try.func14 (by kernel_rfl) (by kernel_rfl) a14 (by kernel_rfl) (by kernel_rfl) [x0] (by rw [Try.ntmps14]; exact Nat.le_of_ble_eq_true rfl) w0 R ((F14_eq x0 R w0).mp h)

/-- (*canton/sorted.Map[string, int]).Get, its body as a formula. -/
def F15 (x0 x1 : Value) (R : Value → World → Prop) (w0 : World) : Prop :=
  CallV Try.prog (.func (.func 30) #[] #[]) #[x0, x1] (@hid _ ⟨fun t12_1 w2 =>
  ExtractK Try.prog t12_1 0 (@hid _ ⟨fun t13_3 w4 =>
  ExtractK Try.prog t12_1 1 (@hid _ ⟨fun t14_5 w6 =>
  UnK Try.prog Go.UnOp.not t14_5 (@hid _ ⟨fun t16_7 w8 =>
  BrK t16_7 (@hid _ ⟨
   R (.tuple #[(Go.Value.int Go.IntKind.i64 0), (Go.Value.bool false)]) w8⟩) (@hid _ ⟨
   NilK Try.prog x0 (@hid _ ⟨fun t19_9 w10 =>
   FieldAtK Try.prog 59 t19_9 0 (@hid _ ⟨fun t20_11 w12 =>
   LoadK Try.prog 57 t20_11 (@hid _ ⟨fun t21_13 w14 =>
   IndexAtK Try.prog 57 t21_13 t13_3 (@hid _ ⟨fun t23_15 w16 =>
   FieldAtK Try.prog 61 t23_15 1 (@hid _ ⟨fun t24_17 w18 =>
   LoadK Try.prog 3 t24_17 (@hid _ ⟨fun t25_19 w20 =>
   R (.tuple #[t25_19, (Go.Value.bool true)]) w20⟩) w18⟩) w16⟩) w14⟩) w12⟩) w10⟩) w8⟩)⟩) w6⟩) w4⟩) w2⟩) w0
def a15 : Ann := (.seq .no (.seq .no (.seq (.seq .no (.cond (.seq .no (.seq .no .no)) .no)) (.seq .no .no))))
theorem F15_eq (x0 x1 : Value) (R : Value → World → Prop) (w0 : World) : F15 x0 x1 R w0 = vc Try.prog (bodyOf Try.f15) a15 (retQ Try.prog Try.f15 R) (envOf 0 [x0, x1]) w0 := by kernel_rfl
theorem F15_calls (x0 x1 : Value) (R : Value → World → Prop) (w0 : World) (h : F15 x0 x1 R w0) : CallK Try.prog 15 #[x0, x1] R w0 :=
  calls_vc (c := bodyOf Try.f15) Try.func15 (by kernel_rfl) (by kernel_rfl) a15 (by kernel_rfl) (by kernel_rfl) [x0, x1] (by rw [Try.ntmps15]; exact Nat.le_of_ble_eq_true rfl) w0 R ((F15_eq x0 x1 R w0).mp h)

/-- (*canton/sorted.Map[string, int]).At, its body as a formula. -/
def F16 (x0 x1 : Value) (R : Value → World → Prop) (w0 : World) : Prop :=
  BinK Try.prog Go.BinOp.lss 3 x1 (Go.Value.int Go.IntKind.i64 0) (@hid _ ⟨fun t9_1 w2 =>
  GuardK t9_1 false (fun k w => k x1 w) (@hid _ ⟨fun t11_3 w4 =>
  GuardK t9_1 false (fun k w => k x0 w) (@hid _ ⟨fun t12_5 w6 =>
  GuardK t9_1 false (fun k w => NilK Try.prog t12_5 k w) (@hid _ ⟨fun t13_7 w8 =>
  GuardK t9_1 false (fun k w => FieldAtK Try.prog 59 t13_7 0 k w) (@hid _ ⟨fun t14_9 w10 =>
  GuardK t9_1 false (fun k w => LoadK Try.prog 57 t14_9 k w) (@hid _ ⟨fun t15_11 w12 =>
  GuardK t9_1 false (fun k w => BuiltinK Try.prog Go.Builtin.len #[57] 3 #[false] #[t15_11] k w) (@hid _ ⟨fun t16_13 w14 =>
  GuardK t9_1 false (fun k w => BinK Try.prog Go.BinOp.geq 3 t11_3 t16_13 k w) (@hid _ ⟨fun t17_15 w16 =>
  PickK Try.prog t9_1 (Go.Value.bool true) t17_15 (@hid _ ⟨fun t18_17 w18 =>
  BrK t18_17 (@hid _ ⟨
   AllocK Try.prog 61 (@hid _ ⟨fun t7_19 w20 =>
   DrawK (@hid _ ⟨fun S21 w22 =>
   TakeS Try.prog S21 (Instr.fieldAt 61 t7_19 0) (@hid _ ⟨fun t19_23 =>
   TakeS Try.prog S21 (Instr.loadAt 9 t19_23) (@hid _ ⟨fun t20_24 =>
   TakeS Try.prog S21 (Instr.fieldAt 61 t7_19 1) (@hid _ ⟨fun t21_25 =>
   TakeS Try.prog S21 (Instr.loadAt 3 t21_25) (@hid _ ⟨fun t22_26 =>
   R (.tuple #[t20_24, t22_26, (Go.Value.bool false)]) w22⟩)⟩)⟩)⟩)⟩) w20⟩) w18⟩) (@hid _ ⟨
   DrawK (@hid _ ⟨fun S27 w28 =>
   TakeO Try.prog S27 (nilSem x0) (@hid _ ⟨fun t24_29 =>
   TakeS Try.prog S27 (Instr.fieldAt 59 t24_29 0) (@hid _ ⟨fun t25_30 =>
   TakeS Try.prog S27 (Instr.loadAt 57 t25_30) (@hid _ ⟨fun t26_31 =>
   TakeS Try.prog S27 (Instr.indexAt 57 t26_31 x1) (@hid _ ⟨fun t28_32 =>
   TakeS Try.prog S27 (Instr.fieldAt 61 t28_32 0) (@hid _ ⟨fun t29_33 =>
   TakeS Try.prog S27 (Instr.loadAt 9 t29_33) (@hid _ ⟨fun t30_34 =>
   TakeO Try.prog S27 (nilSem x0) (@hid _ ⟨fun t32_35 =>
   TakeS Try.prog S27 (Instr.fieldAt 59 t32_35 0) (@hid _ ⟨fun t33_36 =>
   TakeS Try.prog S27 (Instr.loadAt 57 t33_36) (@hid _ ⟨fun t34_37 =>
   TakeS Try.prog S27 (Instr.indexAt 57 t34_37 x1) (@hid _ ⟨fun t36_38 =>
   TakeS Try.prog S27 (Instr.fieldAt 61 t36_38 1) (@hid _ ⟨fun t37_39 =>
   TakeS Try.prog S27 (Instr.loadAt 3 t37_39) (@hid _ ⟨fun t38_40 =>
   R (.tuple #[t30_34, t38_40, (Go.Value.bool true)]) w28⟩)⟩)⟩)⟩)⟩)⟩)⟩)⟩)⟩)⟩)⟩)⟩)⟩) w18⟩)⟩) w16⟩) w14⟩) w12⟩) w10⟩) w8⟩) w6⟩) w4⟩) w2⟩) w0
def a16 : Ann := (.seq .no (.seq (.seq .no (.cond (.seq .no (.seq (.plan (.take 0 (.take 1 (.take 2 (.take 3 (.take 4 (.take 5 (.take 6 .done)))))))) .no)) .no)) (.seq (.plan (.take 0 (.take 1 (.take 2 (.take 3 (.take 4 (.take 5 (.take 6 (.take 7 (.take 8 (.take 9 (.take 10 (.take 11 (.take 12 (.take 13 (.take 14 (.take 15 (.take 16 (.take 17 (.take 18 .done)))))))))))))))))))) .no)))
theorem F16_eq (x0 x1 : Value) (R : Value → World → Prop) (w0 : World) : F16 x0 x1 R w0 = vc Try.prog (bodyOf Try.f16) a16 (retQ Try.prog Try.f16 R) (envOf 0 [x0, x1]) w0 := by kernel_rfl
theorem F16_calls (x0 x1 : Value) (R : Value → World → Prop) (w0 : World) (h : F16 x0 x1 R w0) : CallK Try.prog 16 #[x0, x1] R w0 :=
  calls_vc (c := bodyOf Try.f16) Try.func16 (by kernel_rfl) (by kernel_rfl) a16 (by kernel_rfl) (by kernel_rfl) [x0, x1] (by rw [Try.ntmps16]; exact Nat.le_of_ble_eq_true rfl) w0 R ((F16_eq x0 x1 R w0).mp h)

/-- (*canton/sorted.Map[string, int]).Floor, its body as a formula. -/
def F17 (x0 x1 : Value) (R : Value → World → Prop) (w0 : World) : Prop :=
  CallV Try.prog (.func (.func 30) #[] #[]) #[x0, x1] (@hid _ ⟨fun t11_1 w2 =>
  ExtractK Try.prog t11_1 0 (@hid _ ⟨fun t12_3 w4 =>
  ExtractK Try.prog t11_1 1 (@hid _ ⟨fun t13_5 w6 =>
  BrK t13_5 (@hid _ ⟨
   CallV Try.prog (.func (.func 34) #[] #[]) #[x0, t12_3] (@hid _ ⟨fun t17_7 w8 =>
   ExtractK Try.prog t17_7 0 (@hid _ ⟨fun t18_9 w10 =>
   ExtractK Try.prog t17_7 1 (@hid _ ⟨fun t19_11 w12 =>
   R (.tuple #[t18_9, t19_11]) w12⟩) w10⟩) w8⟩) w6⟩) (@hid _ ⟨
   BinK Try.prog Go.BinOp.sub 3 t12_3 (Go.Value.int Go.IntKind.i64 1) (@hid _ ⟨fun t22_13 w14 =>
   CallV Try.prog (.func (.func 34) #[] #[]) #[x0, t22_13] (@hid _ ⟨fun t23_15 w16 =>
   ExtractK Try.prog t23_15 0 (@hid _ ⟨fun t24_17 w18 =>
   ExtractK Try.prog t23_15 1 (@hid _ ⟨fun t25_19 w20 =>
   R (.tuple #[t24_17, t25_19]) w20⟩) w18⟩) w16⟩) w14⟩) w6⟩)⟩) w4⟩) w2⟩) w0
def a17 : Ann := (.seq .no (.seq .no (.seq (.seq .no (.cond (.seq .no .no) .no)) (.seq .no .no))))
theorem F17_eq (x0 x1 : Value) (R : Value → World → Prop) (w0 : World) : F17 x0 x1 R w0 = vc Try.prog (bodyOf Try.f17) a17 (retQ Try.prog Try.f17 R) (envOf 0 [x0, x1]) w0 := by kernel_rfl
theorem F17_calls (x0 x1 : Value) (R : Value → World → Prop) (w0 : World) (h : F17 x0 x1 R w0) : CallK Try.prog 17 #[x0, x1] R w0 :=
  calls_vc (c := bodyOf Try.f17) Try.func17 (by kernel_rfl) (by kernel_rfl) a17 (by kernel_rfl) (by kernel_rfl) [x0, x1] (by rw [Try.ntmps17]; exact Nat.le_of_ble_eq_true rfl) w0 R ((F17_eq x0 x1 R w0).mp h)

/-- (*canton/sorted.Map[string, int]).Ceil, its body as a formula. -/
def F18 (x0 x1 : Value) (R : Value → World → Prop) (w0 : World) : Prop :=
  CallV Try.prog (.func (.func 30) #[] #[]) #[x0, x1] (@hid _ ⟨fun t11_1 w2 =>
  ExtractK Try.prog t11_1 0 (@hid _ ⟨fun t12_3 w4 =>
  ExtractK Try.prog t11_1 1 (@hid _ ⟨fun t13_5 w6 =>
  CallV Try.prog (.func (.func 34) #[] #[]) #[x0, t12_3] (@hid _ ⟨fun t16_7 w8 =>
  ExtractK Try.prog t16_7 0 (@hid _ ⟨fun t17_9 w10 =>
  ExtractK Try.prog t16_7 1 (@hid _ ⟨fun t18_11 w12 =>
  R (.tuple #[t17_9, t18_11]) w12⟩) w10⟩) w8⟩) w6⟩) w4⟩) w2⟩) w0
def a18 : Ann := (.seq .no (.seq .no (.seq .no .no)))
theorem F18_eq (x0 x1 : Value) (R : Value → World → Prop) (w0 : World) : F18 x0 x1 R w0 = vc Try.prog (bodyOf Try.f18) a18 (retQ Try.prog Try.f18 R) (envOf 0 [x0, x1]) w0 := by kernel_rfl
theorem F18_calls (x0 x1 : Value) (R : Value → World → Prop) (w0 : World) (h : F18 x0 x1 R w0) : CallK Try.prog 18 #[x0, x1] R w0 :=
  calls_vc (c := bodyOf Try.f18) Try.func18 (by kernel_rfl) (by kernel_rfl) a18 (by kernel_rfl) (by kernel_rfl) [x0, x1] (by rw [Try.ntmps18]; exact Nat.le_of_ble_eq_true rfl) w0 R ((F18_eq x0 x1 R w0).mp h)

/-- canton/sorted.New[int64,string], its body as a formula. -/
def F19 (R : Value → World → Prop) (w0 : World) : Prop :=
  BuildK Try.prog 68 #[] (@hid _ ⟨fun t1_1 w2 =>
  BoxK Try.prog 68 t1_1 (@hid _ ⟨fun t2_3 w4 =>
  R t2_3 w4⟩) w2⟩) w0
def a19 : Ann := (.seq .no (.seq .no .no))
theorem F19_eq (R : Value → World → Prop) (w0 : World) : F19  R w0 = vc Try.prog (bodyOf Try.f19) a19 (retQ Try.prog Try.f19 R) (envOf 0 []) w0 := by kernel_rfl
theorem F19_calls (R : Value → World → Prop) (w0 : World) (h : F19  R w0) : CallK Try.prog 19 #[] R w0 :=
  calls_vc (c := bodyOf Try.f19) Try.func19 (by kernel_rfl) (by kernel_rfl) a19 (by kernel_rfl) (by kernel_rfl) [] (by rw [Try.ntmps19]; exact Nat.le_of_ble_eq_true rfl) w0 R ((F19_eq  R w0).mp h)

/-- (*canton/sorted.Map[int64, string]).Put, its body as a formula. -/
def F20 (x0 x1 x2 : Value) (R : Value → World → Prop) (w0 : World) : Prop :=
  CallV Try.prog (.func (.func 35) #[] #[]) #[x0, x1] (@hid _ ⟨fun t12_1 w2 =>
  ExtractK Try.prog t12_1 0 (@hid _ ⟨fun t13_3 w4 =>
  ExtractK Try.prog t12_1 1 (@hid _ ⟨fun t14_5 w6 =>
  BrK t14_5 (@hid _ ⟨
   NilK Try.prog x0 (@hid _ ⟨fun t17_7 w8 =>
   FieldAtK Try.prog 68 t17_7 0 (@hid _ ⟨fun t18_9 w10 =>
   LoadK Try.prog 66 t18_9 (@hid _ ⟨fun t19_11 w12 =>
   IndexAtK Try.prog 66 t19_11 t13_3 (@hid _ ⟨fun t22_13 w14 =>
   FieldAtK Try.prog 71 t22_13 1 (@hid _ ⟨fun t23_15 w16 =>
   StoreK Try.prog 9 t23_15 x2 (@hid _ ⟨fun tu_17 w18 =>
   R (Go.Value.bool false) w18⟩) w16⟩) w14⟩) w12⟩) w10⟩) w8⟩) w6⟩) (@hid _ ⟨
   NilK Try.prog x0 (@hid _ ⟨fun t26_19 w20 =>
   FieldAtK Try.prog 68 t26_19 0 (@hid _ ⟨fun t27_21 w22 =>
   LoadK Try.prog 66 t27_21 (@hid _ ⟨fun t28_23 w24 =>
   BuildK Try.prog 71 #[(0, x1), (1, x2)] (@hid _ ⟨fun t32_25 w26 =>
   BuildSliceK Try.prog 66 1 #[(0, t32_25)] (@hid _ ⟨fun t33_27 w28 =>
   CallV Try.prog (.func (.func 36) #[] #[]) #[t28_23, t13_3, t33_27] (@hid _ ⟨fun t34_29 w30 =>
   NilK Try.prog x0 (@hid _ ⟨fun t35_31 w32 =>
   FieldAtK Try.prog 68 t35_31 0 (@hid _ ⟨fun t36_33 w34 =>
   StoreK Try.prog 66 t36_33 t34_29 (@hid _ ⟨fun tu_35 w36 =>
   R (Go.Value.bool true) w36⟩) w34⟩) w32⟩) w30⟩) w28⟩) w26⟩) w24⟩) w22⟩) w20⟩) w6⟩)⟩) w4⟩) w2⟩) w0
def a20 : Ann := (.seq .no (.seq .no (.seq (.seq .no (.cond (.seq .no (.seq .no .no)) .no)) (.seq .no (.seq .no .no)))))
theorem F20_eq (x0 x1 x2 : Value) (R : Value → World → Prop) (w0 : World) : F20 x0 x1 x2 R w0 = vc Try.prog (bodyOf Try.f20) a20 (retQ Try.prog Try.f20 R) (envOf 0 [x0, x1, x2]) w0 := by kernel_rfl
theorem F20_calls (x0 x1 x2 : Value) (R : Value → World → Prop) (w0 : World) (h : F20 x0 x1 x2 R w0) : CallK Try.prog 20 #[x0, x1, x2] R w0 :=
  calls_vc (c := bodyOf Try.f20) Try.func20 (by kernel_rfl) (by kernel_rfl) a20 (by kernel_rfl) (by kernel_rfl) [x0, x1, x2] (by rw [Try.ntmps20]; exact Nat.le_of_ble_eq_true rfl) w0 R ((F20_eq x0 x1 x2 R w0).mp h)

/-- canton/cantonlaw1.name, its body as a formula. -/
def F21 (x0 : Value) (R : Value → World → Prop) (w0 : World) : Prop :=
  BinK Try.prog Go.BinOp.and 2 x0 (Go.Value.int Go.IntKind.i64 15) (@hid _ ⟨fun t4_1 w2 =>
  BinK Try.prog Go.BinOp.add 2 (Go.Value.int Go.IntKind.i64 97) t4_1 (@hid _ ⟨fun t5_3 w4 =>
  ConvK Try.prog 2 5 t5_3 (@hid _ ⟨fun t6_5 w6 =>
  BuildSliceK Try.prog 73 1 #[(0, t6_5)] (@hid _ ⟨fun t7_7 w8 =>
  ConvK Try.prog 73 9 t7_7 (@hid _ ⟨fun t8_9 w10 =>
  BinK Try.prog Go.BinOp.add 9 (Go.Value.string { data := #[118] }) t8_9 (@hid _ ⟨fun t9_11 w12 =>
  R t9_11 w12⟩) w10⟩) w8⟩) w6⟩) w4⟩) w2⟩) w0
def a21 : Ann := (.seq .no (.seq .no .no))
theorem F21_eq (x0 : Value) (R : Value → World → Prop) (w0 : World) : F21 x0 R w0 = vc Try.prog (bodyOf Try.f21) a21 (retQ Try.prog Try.f21 R) (envOf 0 [x0]) w0 := by kernel_rfl
theorem F21_calls (x0 : Value) (R : Value → World → Prop) (w0 : World) (h : F21 x0 R w0) : CallK Try.prog 21 #[x0] R w0 :=
  calls_vc (c := bodyOf Try.f21) Try.func21 (by kernel_rfl) (by kernel_rfl) a21 (by kernel_rfl) (by kernel_rfl) [x0] (by rw [Try.ntmps21]; exact Nat.le_of_ble_eq_true rfl) w0 R ((F21_eq x0 R w0).mp h)

/-- (*canton/sorted.Map[int64, string]).Keys, its body as a formula. -/
def F22 (x0 : Value) (R : Value → World → Prop) (w0 : World) : Prop :=
  NilK Try.prog x0 (@hid _ ⟨fun t7_1 w2 =>
  FieldAtK Try.prog 68 t7_1 0 (@hid _ ⟨fun t8_3 w4 =>
  LoadK Try.prog 66 t8_3 (@hid _ ⟨fun t9_5 w6 =>
  BuiltinK Try.prog Go.Builtin.len #[66] 3 #[false] #[t9_5] (@hid _ ⟨fun t10_7 w8 =>
  ValK Try.prog (Instr.makeSlice 42 (Go.Value.int Go.IntKind.i64 0) t10_7) (@hid _ ⟨fun t11_9 w10 =>
  NilK Try.prog x0 (@hid _ ⟨fun t13_11 w12 =>
  FieldAtK Try.prog 68 t13_11 0 (@hid _ ⟨fun t14_13 w14 =>
  LoadK Try.prog 66 t14_13 (@hid _ ⟨fun t15_15 w16 =>
  BuiltinK Try.prog Go.Builtin.len #[66] 3 #[false] #[t15_15] (@hid _ ⟨fun t16_17 w18 =>
  LoopK2 t11_9 (Go.Value.int Go.IntKind.i64 0) w18 (@hid _ ⟨fun _ x3_19 x17_20 w21 B22 =>
   BinK Try.prog Go.BinOp.lss 3 x17_20 t16_17 (@hid _ ⟨fun t18_23 w24 =>
   BrK t18_23 (@hid _ ⟨
    IndexAtK Try.prog 66 t15_15 x17_20 (@hid _ ⟨fun t19_25 w26 =>
    LoadK Try.prog 71 t19_25 (@hid _ ⟨fun t20_27 w28 =>
    AllocK Try.prog 71 (@hid _ ⟨fun t5_29 w30 =>
    StoreK Try.prog 71 t5_29 t20_27 (@hid _ ⟨fun tu_31 w32 =>
    FieldAtK Try.prog 71 t5_29 0 (@hid _ ⟨fun t22_33 w34 =>
    LoadK Try.prog 2 t22_33 (@hid _ ⟨fun t23_35 w36 =>
    BuildSliceK Try.prog 42 1 #[(0, t23_35)] (@hid _ ⟨fun t24_37 w38 =>
    BuiltinK Try.prog Go.Builtin.append #[42, 42] 42 #[false, false] #[x3_19, t24_37] (@hid _ ⟨fun t25_39 w40 =>
    BinK Try.prog Go.BinOp.add 3 x17_20 (Go.Value.int Go.IntKind.i64 1) (@hid _ ⟨fun t26_41 w42 =>
    B22 t25_39 t26_41 w42⟩) w40⟩) w38⟩) w36⟩) w34⟩) w32⟩) w30⟩) w28⟩) w26⟩) w24⟩) (@hid _ ⟨
    R x3_19 w24⟩)⟩) w21⟩)⟩) w16⟩) w14⟩) w12⟩) w10⟩) w8⟩) w6⟩) w4⟩) w2⟩) w0
def a22 : Ann := (.seq .no (.seq .no (.seq (.seq .no (.block (.loop [3, 17] [(5, 5), (18, 26)] (.seq .no (.seq (.cond .no .no) (.seq (.block (.seq .no .no)) .no)))))) (.seq .no .no))))
theorem F22_eq (x0 : Value) (R : Value → World → Prop) (w0 : World) : F22 x0 R w0 = vc Try.prog (bodyOf Try.f22) a22 (retQ Try.prog Try.f22 R) (envOf 0 [x0]) w0 := by kernel_rfl
theorem F22_calls (x0 : Value) (R : Value → World → Prop) (w0 : World) (h : F22 x0 R w0) : CallK Try.prog 22 #[x0] R w0 :=
  calls_vc (c := bodyOf Try.f22) Try.func22 (by kernel_rfl) (by kernel_rfl) a22 (by kernel_rfl) (by kernel_rfl) [x0] (by rw [Try.ntmps22]; exact Nat.le_of_ble_eq_true rfl) w0 R ((F22_eq x0 R w0).mp h)

/-- (*canton/sorted.Map[int64, string]).Get, its body as a formula. -/
def F23 (x0 x1 : Value) (R : Value → World → Prop) (w0 : World) : Prop :=
  CallV Try.prog (.func (.func 35) #[] #[]) #[x0, x1] (@hid _ ⟨fun t12_1 w2 =>
  ExtractK Try.prog t12_1 0 (@hid _ ⟨fun t13_3 w4 =>
  ExtractK Try.prog t12_1 1 (@hid _ ⟨fun t14_5 w6 =>
  UnK Try.prog Go.UnOp.not t14_5 (@hid _ ⟨fun t16_7 w8 =>
  BrK t16_7 (@hid _ ⟨
   R (.tuple #[(Go.Value.string { data := #[] }), (Go.Value.bool false)]) w8⟩) (@hid _ ⟨
   NilK Try.prog x0 (@hid _ ⟨fun t19_9 w10 =>
   FieldAtK Try.prog 68 t19_9 0 (@hid _ ⟨fun t20_11 w12 =>
   LoadK Try.prog 66 t20_11 (@hid _ ⟨fun t21_13 w14 =>
   IndexAtK Try.prog 66 t21_13 t13_3 (@hid _ ⟨fun t23_15 w16 =>
   FieldAtK Try.prog 71 t23_15 1 (@hid _ ⟨fun t24_17 w18 =>
   LoadK Try.prog 9 t24_17 (@hid _ ⟨fun t25_19 w20 =>
   R (.tuple #[t25_19, (Go.Value.bool true)]) w20⟩) w18⟩) w16⟩) w14⟩) w12⟩) w10⟩) w8⟩)⟩) w6⟩) w4⟩) w2⟩) w0
def a23 : Ann := (.seq .no (.seq .no (.seq (.seq .no (.cond (.seq .no (.seq .no .no)) .no)) (.seq .no .no))))
theorem F23_eq (x0 x1 : Value) (R : Value → World → Prop) (w0 : World) : F23 x0 x1 R w0 = vc Try.prog (bodyOf Try.f23) a23 (retQ Try.prog Try.f23 R) (envOf 0 [x0, x1]) w0 := by kernel_rfl
theorem F23_calls (x0 x1 : Value) (R : Value → World → Prop) (w0 : World) (h : F23 x0 x1 R w0) : CallK Try.prog 23 #[x0, x1] R w0 :=
  calls_vc (c := bodyOf Try.f23) Try.func23 (by kernel_rfl) (by kernel_rfl) a23 (by kernel_rfl) (by kernel_rfl) [x0, x1] (by rw [Try.ntmps23]; exact Nat.le_of_ble_eq_true rfl) w0 R ((F23_eq x0 x1 R w0).mp h)

/-- canton/sorted.New[string,bool], its body as a formula. -/
def F24 (R : Value → World → Prop) (w0 : World) : Prop :=
  BuildK Try.prog 76 #[] (@hid _ ⟨fun t1_1 w2 =>
  BoxK Try.prog 76 t1_1 (@hid _ ⟨fun t2_3 w4 =>
  R t2_3 w4⟩) w2⟩) w0
def a24 : Ann := (.seq .no (.seq .no .no))
theorem F24_eq (R : Value → World → Prop) (w0 : World) : F24  R w0 = vc Try.prog (bodyOf Try.f24) a24 (retQ Try.prog Try.f24 R) (envOf 0 []) w0 := by kernel_rfl
theorem F24_calls (R : Value → World → Prop) (w0 : World) (h : F24  R w0) : CallK Try.prog 24 #[] R w0 :=
  calls_vc (c := bodyOf Try.f24) Try.func24 (by kernel_rfl) (by kernel_rfl) a24 (by kernel_rfl) (by kernel_rfl) [] (by rw [Try.ntmps24]; exact Nat.le_of_ble_eq_true rfl) w0 R ((F24_eq  R w0).mp h)

/-- (*canton/sorted.Map[string, bool]).Put, its body as a formula. -/
def F25 (x0 x1 x2 : Value) (R : Value → World → Prop) (w0 : World) : Prop :=
  CallV Try.prog (.func (.func 37) #[] #[]) #[x0, x1] (@hid _ ⟨fun t12_1 w2 =>
  ExtractK Try.prog t12_1 0 (@hid _ ⟨fun t13_3 w4 =>
  ExtractK Try.prog t12_1 1 (@hid _ ⟨fun t14_5 w6 =>
  BrK t14_5 (@hid _ ⟨
   NilK Try.prog x0 (@hid _ ⟨fun t17_7 w8 =>
   FieldAtK Try.prog 76 t17_7 0 (@hid _ ⟨fun t18_9 w10 =>
   LoadK Try.prog 74 t18_9 (@hid _ ⟨fun t19_11 w12 =>
   IndexAtK Try.prog 74 t19_11 t13_3 (@hid _ ⟨fun t22_13 w14 =>
   FieldAtK Try.prog 78 t22_13 1 (@hid _ ⟨fun t23_15 w16 =>
   StoreK Try.prog 4 t23_15 x2 (@hid _ ⟨fun tu_17 w18 =>
   R (Go.Value.bool false) w18⟩) w16⟩) w14⟩) w12⟩) w10⟩) w8⟩) w6⟩) (@hid _ ⟨
   NilK Try.prog x0 (@hid _ ⟨fun t26_19 w20 =>
   FieldAtK Try.prog 76 t26_19 0 (@hid _ ⟨fun t27_21 w22 =>
   LoadK Try.prog 74 t27_21 (@hid _ ⟨fun t28_23 w24 =>
   BuildK Try.prog 78 #[(0, x1), (1, x2)] (@hid _ ⟨fun t32_25 w26 =>
   BuildSliceK Try.prog 74 1 #[(0, t32_25)] (@hid _ ⟨fun t33_27 w28 =>
   CallV Try.prog (.func (.func 38) #[] #[]) #[t28_23, t13_3, t33_27] (@hid _ ⟨fun t34_29 w30 =>
   NilK Try.prog x0 (@hid _ ⟨fun t35_31 w32 =>
   FieldAtK Try.prog 76 t35_31 0 (@hid _ ⟨fun t36_33 w34 =>
   StoreK Try.prog 74 t36_33 t34_29 (@hid _ ⟨fun tu_35 w36 =>
   R (Go.Value.bool true) w36⟩) w34⟩) w32⟩) w30⟩) w28⟩) w26⟩) w24⟩) w22⟩) w20⟩) w6⟩)⟩) w4⟩) w2⟩) w0
def a25 : Ann := (.seq .no (.seq .no (.seq (.seq .no (.cond (.seq .no (.seq .no .no)) .no)) (.seq .no (.seq .no .no)))))
theorem F25_eq (x0 x1 x2 : Value) (R : Value → World → Prop) (w0 : World) : F25 x0 x1 x2 R w0 = vc Try.prog (bodyOf Try.f25) a25 (retQ Try.prog Try.f25 R) (envOf 0 [x0, x1, x2]) w0 := by kernel_rfl
theorem F25_calls (x0 x1 x2 : Value) (R : Value → World → Prop) (w0 : World) (h : F25 x0 x1 x2 R w0) : CallK Try.prog 25 #[x0, x1, x2] R w0 :=
  calls_vc (c := bodyOf Try.f25) Try.func25 (by kernel_rfl) (by kernel_rfl) a25 (by kernel_rfl) (by kernel_rfl) [x0, x1, x2] (by rw [Try.ntmps25]; exact Nat.le_of_ble_eq_true rfl) w0 R ((F25_eq x0 x1 x2 R w0).mp h)

/-- (*canton/sorted.Map[string, bool]).Keys, its body as a formula. -/
def F26 (x0 : Value) (R : Value → World → Prop) (w0 : World) : Prop :=
  NilK Try.prog x0 (@hid _ ⟨fun t7_1 w2 =>
  FieldAtK Try.prog 76 t7_1 0 (@hid _ ⟨fun t8_3 w4 =>
  LoadK Try.prog 74 t8_3 (@hid _ ⟨fun t9_5 w6 =>
  BuiltinK Try.prog Go.Builtin.len #[74] 3 #[false] #[t9_5] (@hid _ ⟨fun t10_7 w8 =>
  ValK Try.prog (Instr.makeSlice 26 (Go.Value.int Go.IntKind.i64 0) t10_7) (@hid _ ⟨fun t11_9 w10 =>
  NilK Try.prog x0 (@hid _ ⟨fun t13_11 w12 =>
  FieldAtK Try.prog 76 t13_11 0 (@hid _ ⟨fun t14_13 w14 =>
  LoadK Try.prog 74 t14_13 (@hid _ ⟨fun t15_15 w16 =>
  BuiltinK Try.prog Go.Builtin.len #[74] 3 #[false] #[t15_15] (@hid _ ⟨fun t16_17 w18 =>
  LoopK2 t11_9 (Go.Value.int Go.IntKind.i64 0) w18 (@hid _ ⟨fun _ x3_19 x17_20 w21 B22 =>
   BinK Try.prog Go.BinOp.lss 3 x17_20 t16_17 (@hid _ ⟨fun t18_23 w24 =>
   BrK t18_23 (@hid _ ⟨
    IndexAtK Try.prog 74 t15_15 x17_20 (@hid _ ⟨fun t19_25 w26 =>
    LoadK Try.prog 78 t19_25 (@hid _ ⟨fun t20_27 w28 =>
    AllocK Try.prog 78 (@hid _ ⟨fun t5_29 w30 =>
    StoreK Try.prog 78 t5_29 t20_27 (@hid _ ⟨fun tu_31 w32 =>
    FieldAtK Try.prog 78 t5_29 0 (@hid _ ⟨fun t22_33 w34 =>
    LoadK Try.prog 9 t22_33 (@hid _ ⟨fun t23_35 w36 =>
    BuildSliceK Try.prog 26 1 #[(0, t23_35)] (@hid _ ⟨fun t24_37 w38 =>
    BuiltinK Try.prog Go.Builtin.append #[26, 26] 26 #[false, false] #[x3_19, t24_37] (@hid _ ⟨fun t25_39 w40 =>
    BinK Try.prog Go.BinOp.add 3 x17_20 (Go.Value.int Go.IntKind.i64 1) (@hid _ ⟨fun t26_41 w42 =>
    B22 t25_39 t26_41 w42⟩) w40⟩) w38⟩) w36⟩) w34⟩) w32⟩) w30⟩) w28⟩) w26⟩) w24⟩) (@hid _ ⟨
    R x3_19 w24⟩)⟩) w21⟩)⟩) w16⟩) w14⟩) w12⟩) w10⟩) w8⟩) w6⟩) w4⟩) w2⟩) w0
def a26 : Ann := (.seq .no (.seq .no (.seq (.seq .no (.block (.loop [3, 17] [(5, 5), (18, 26)] (.seq .no (.seq (.cond .no .no) (.seq (.block (.seq .no .no)) .no)))))) (.seq .no .no))))
theorem F26_eq (x0 : Value) (R : Value → World → Prop) (w0 : World) : F26 x0 R w0 = vc Try.prog (bodyOf Try.f26) a26 (retQ Try.prog Try.f26 R) (envOf 0 [x0]) w0 := by kernel_rfl
theorem F26_calls (x0 : Value) (R : Value → World → Prop) (w0 : World) (h : F26 x0 R w0) : CallK Try.prog 26 #[x0] R w0 :=
  calls_vc (c := bodyOf Try.f26) Try.func26 (by kernel_rfl) (by kernel_rfl) a26 (by kernel_rfl) (by kernel_rfl) [x0] (by rw [Try.ntmps26]; exact Nat.le_of_ble_eq_true rfl) w0 R ((F26_eq x0 R w0).mp h)

/-- (*canton/sorted.Map[string, bool]).At, its body as a formula. -/
def F27 (x0 x1 : Value) (R : Value → World → Prop) (w0 : World) : Prop :=
  BinK Try.prog Go.BinOp.lss 3 x1 (Go.Value.int Go.IntKind.i64 0) (@hid _ ⟨fun t9_1 w2 =>
  GuardK t9_1 false (fun k w => k x1 w) (@hid _ ⟨fun t11_3 w4 =>
  GuardK t9_1 false (fun k w => k x0 w) (@hid _ ⟨fun t12_5 w6 =>
  GuardK t9_1 false (fun k w => NilK Try.prog t12_5 k w) (@hid _ ⟨fun t13_7 w8 =>
  GuardK t9_1 false (fun k w => FieldAtK Try.prog 76 t13_7 0 k w) (@hid _ ⟨fun t14_9 w10 =>
  GuardK t9_1 false (fun k w => LoadK Try.prog 74 t14_9 k w) (@hid _ ⟨fun t15_11 w12 =>
  GuardK t9_1 false (fun k w => BuiltinK Try.prog Go.Builtin.len #[74] 3 #[false] #[t15_11] k w) (@hid _ ⟨fun t16_13 w14 =>
  GuardK t9_1 false (fun k w => BinK Try.prog Go.BinOp.geq 3 t11_3 t16_13 k w) (@hid _ ⟨fun t17_15 w16 =>
  PickK Try.prog t9_1 (Go.Value.bool true) t17_15 (@hid _ ⟨fun t18_17 w18 =>
  BrK t18_17 (@hid _ ⟨
   AllocK Try.prog 78 (@hid _ ⟨fun t7_19 w20 =>
   DrawK (@hid _ ⟨fun S21 w22 =>
   TakeS Try.prog S21 (Instr.fieldAt 78 t7_19 0) (@hid _ ⟨fun t19_23 =>
   TakeS Try.prog S21 (Instr.loadAt 9 t19_23) (@hid _ ⟨fun t20_24 =>
   TakeS Try.prog S21 (Instr.fieldAt 78 t7_19 1) (@hid _ ⟨fun t21_25 =>
   TakeS Try.prog S21 (Instr.loadAt 4 t21_25) (@hid _ ⟨fun t22_26 =>
   R (.tuple #[t20_24, t22_26, (Go.Value.bool false)]) w22⟩)⟩)⟩)⟩)⟩) w20⟩) w18⟩) (@hid _ ⟨
   DrawK (@hid _ ⟨fun S27 w28 =>
   TakeO Try.prog S27 (nilSem x0) (@hid _ ⟨fun t24_29 =>
   TakeS Try.prog S27 (Instr.fieldAt 76 t24_29 0) (@hid _ ⟨fun t25_30 =>
   TakeS Try.prog S27 (Instr.loadAt 74 t25_30) (@hid _ ⟨fun t26_31 =>
   TakeS Try.prog S27 (Instr.indexAt 74 t26_31 x1) (@hid _ ⟨fun t28_32 =>
   TakeS Try.prog S27 (Instr.fieldAt 78 t28_32 0) (@hid _ ⟨fun t29_33 =>
   TakeS Try.prog S27 (Instr.loadAt 9 t29_33) (@hid _ ⟨fun t30_34 =>
   TakeO Try.prog S27 (nilSem x0) (@hid _ ⟨fun t32_35 =>
   TakeS Try.prog S27 (Instr.fieldAt 76 t32_35 0) (@hid _ ⟨fun t33_36 =>
   TakeS Try.prog S27 (Instr.loadAt 74 t33_36) (@hid _ ⟨fun t34_37 =>
   TakeS Try.prog S27 (Instr.indexAt 74 t34_37 x1) (@hid _ ⟨fun t36_38 =>
   TakeS Try.prog S27 (Instr.fieldAt 78 t36_38 1) (@hid _ ⟨fun t37_39 =>
   TakeS Try.prog S27 (Instr.loadAt 4 t37_39) (@hid _ ⟨fun t38_40 =>
   R (.tuple #[t30_34, t38_40, (Go.Value.bool true)]) w28⟩)⟩)⟩)⟩)⟩)⟩)⟩)⟩)⟩)⟩)⟩)⟩)⟩) w18⟩)⟩) w16⟩) w14⟩) w12⟩) w10⟩) w8⟩) w6⟩) w4⟩) w2⟩) w0
def a27 : Ann := (.seq .no (.seq (.seq .no (.cond (.seq .no (.seq (.plan (.take 0 (.take 1 (.take 2 (.take 3 (.take 4 (.take 5 (.take 6 .done)))))))) .no)) .no)) (.seq (.plan (.take 0 (.take 1 (.take 2 (.take 3 (.take 4 (.take 5 (.take 6 (.take 7 (.take 8 (.take 9 (.take 10 (.take 11 (.take 12 (.take 13 (.take 14 (.take 15 (.take 16 (.take 17 (.take 18 .done)))))))))))))))))))) .no)))
theorem F27_eq (x0 x1 : Value) (R : Value → World → Prop) (w0 : World) : F27 x0 x1 R w0 = vc Try.prog (bodyOf Try.f27) a27 (retQ Try.prog Try.f27 R) (envOf 0 [x0, x1]) w0 := by kernel_rfl
theorem F27_calls (x0 x1 : Value) (R : Value → World → Prop) (w0 : World) (h : F27 x0 x1 R w0) : CallK Try.prog 27 #[x0, x1] R w0 :=
  calls_vc (c := bodyOf Try.f27) Try.func27 (by kernel_rfl) (by kernel_rfl) a27 (by kernel_rfl) (by kernel_rfl) [x0, x1] (by rw [Try.ntmps27]; exact Nat.le_of_ble_eq_true rfl) w0 R ((F27_eq x0 x1 R w0).mp h)

/-- (*canton/sorted.Map[string, bool]).Floor, its body as a formula. -/
def F28 (x0 x1 : Value) (R : Value → World → Prop) (w0 : World) : Prop :=
  CallV Try.prog (.func (.func 37) #[] #[]) #[x0, x1] (@hid _ ⟨fun t11_1 w2 =>
  ExtractK Try.prog t11_1 0 (@hid _ ⟨fun t12_3 w4 =>
  ExtractK Try.prog t11_1 1 (@hid _ ⟨fun t13_5 w6 =>
  BrK t13_5 (@hid _ ⟨
   CallV Try.prog (.func (.func 39) #[] #[]) #[x0, t12_3] (@hid _ ⟨fun t17_7 w8 =>
   ExtractK Try.prog t17_7 0 (@hid _ ⟨fun t18_9 w10 =>
   ExtractK Try.prog t17_7 1 (@hid _ ⟨fun t19_11 w12 =>
   R (.tuple #[t18_9, t19_11]) w12⟩) w10⟩) w8⟩) w6⟩) (@hid _ ⟨
   BinK Try.prog Go.BinOp.sub 3 t12_3 (Go.Value.int Go.IntKind.i64 1) (@hid _ ⟨fun t22_13 w14 =>
   CallV Try.prog (.func (.func 39) #[] #[]) #[x0, t22_13] (@hid _ ⟨fun t23_15 w16 =>
   ExtractK Try.prog t23_15 0 (@hid _ ⟨fun t24_17 w18 =>
   ExtractK Try.prog t23_15 1 (@hid _ ⟨fun t25_19 w20 =>
   R (.tuple #[t24_17, t25_19]) w20⟩) w18⟩) w16⟩) w14⟩) w6⟩)⟩) w4⟩) w2⟩) w0
def a28 : Ann := (.seq .no (.seq .no (.seq (.seq .no (.cond (.seq .no .no) .no)) (.seq .no .no))))
theorem F28_eq (x0 x1 : Value) (R : Value → World → Prop) (w0 : World) : F28 x0 x1 R w0 = vc Try.prog (bodyOf Try.f28) a28 (retQ Try.prog Try.f28 R) (envOf 0 [x0, x1]) w0 := by kernel_rfl
theorem F28_calls (x0 x1 : Value) (R : Value → World → Prop) (w0 : World) (h : F28 x0 x1 R w0) : CallK Try.prog 28 #[x0, x1] R w0 :=
  calls_vc (c := bodyOf Try.f28) Try.func28 (by kernel_rfl) (by kernel_rfl) a28 (by kernel_rfl) (by kernel_rfl) [x0, x1] (by rw [Try.ntmps28]; exact Nat.le_of_ble_eq_true rfl) w0 R ((F28_eq x0 x1 R w0).mp h)

/-- (*canton/sorted.Map[string, bool]).Ceil, its body as a formula. -/
def F29 (x0 x1 : Value) (R : Value → World → Prop) (w0 : World) : Prop :=
  CallV Try.prog (.func (.func 37) #[] #[]) #[x0, x1] (@hid _ ⟨fun t11_1 w2 =>
  ExtractK Try.prog t11_1 0 (@hid _ ⟨fun t12_3 w4 =>
  ExtractK Try.prog t11_1 1 (@hid _ ⟨fun t13_5 w6 =>
  CallV Try.prog (.func (.func 39) #[] #[]) #[x0, t12_3] (@hid _ ⟨fun t16_7 w8 =>
  ExtractK Try.prog t16_7 0 (@hid _ ⟨fun t17_9 w10 =>
  ExtractK Try.prog t16_7 1 (@hid _ ⟨fun t18_11 w12 =>
  R (.tuple #[t17_9, t18_11]) w12⟩) w10⟩) w8⟩) w6⟩) w4⟩) w2⟩) w0
def a29 : Ann := (.seq .no (.seq .no (.seq .no .no)))
theorem F29_eq (x0 x1 : Value) (R : Value → World → Prop) (w0 : World) : F29 x0 x1 R w0 = vc Try.prog (bodyOf Try.f29) a29 (retQ Try.prog Try.f29 R) (envOf 0 [x0, x1]) w0 := by kernel_rfl
theorem F29_calls (x0 x1 : Value) (R : Value → World → Prop) (w0 : World) (h : F29 x0 x1 R w0) : CallK Try.prog 29 #[x0, x1] R w0 :=
  calls_vc (c := bodyOf Try.f29) Try.func29 (by kernel_rfl) (by kernel_rfl) a29 (by kernel_rfl) (by kernel_rfl) [x0, x1] (by rw [Try.ntmps29]; exact Nat.le_of_ble_eq_true rfl) w0 R ((F29_eq x0 x1 R w0).mp h)

/-- (*canton/sorted.Map[string, int]).find, its body as a formula. -/
def F30 (x0 x1 : Value) (R : Value → World → Prop) (w0 : World) : Prop :=
  NilK Try.prog x0 (@hid _ ⟨fun t7_1 w2 =>
  FieldAtK Try.prog 59 t7_1 0 (@hid _ ⟨fun t8_3 w4 =>
  LoadK Try.prog 57 t8_3 (@hid _ ⟨fun t9_5 w6 =>
  CallV Try.prog (.func (.func 40) #[] #[]) #[t9_5, x1, (.func (.func 41) #[] #[])] (@hid _ ⟨fun t11_7 w8 =>
  ExtractK Try.prog t11_7 0 (@hid _ ⟨fun t12_9 w10 =>
  ExtractK Try.prog t11_7 1 (@hid _ ⟨fun t13_11 w12 =>
  R (.tuple #[t12_9, t13_11]) w12⟩) w10⟩) w8⟩) w6⟩) w4⟩) w2⟩) w0
def a30 : Ann := (.seq .no (.seq .no .no))
theorem F30_eq (x0 x1 : Value) (R : Value → World → Prop) (w0 : World) : F30 x0 x1 R w0 = vc Try.prog (bodyOf Try.f30) a30 (retQ Try.prog Try.f30 R) (envOf 0 [x0, x1]) w0 := by kernel_rfl
theorem F30_calls (x0 x1 : Value) (R : Value → World → Prop) (w0 : World) (h : F30 x0 x1 R w0) : CallK Try.prog 30 #[x0, x1] R w0 :=
  calls_vc (c := bodyOf Try.f30) Try.func30 (by kernel_rfl) (by kernel_rfl) a30 (by kernel_rfl) (by kernel_rfl) [x0, x1] (by rw [Try.ntmps30]; exact Nat.le_of_ble_eq_true rfl) w0 R ((F30_eq x0 x1 R w0).mp h)

/-- slices.Insert[[]canton/sorted.pair[string, int],canton/sorted.pair[string, int]], its body as a formula. -/
def F31 (x0 x1 x2 : Value) (R : Value → World → Prop) (w0 : World) : Prop :=
  SliceK Try.prog 57 x0 (some x1) none none (@hid _ ⟨fun t12_1 w2 =>
  BuiltinK Try.prog Go.Builtin.len #[57] 3 #[false] #[x2] (@hid _ ⟨fun t14_3 w4 =>
  BinK Try.prog Go.BinOp.eql 3 t14_3 (Go.Value.int Go.IntKind.i64 0) (@hid _ ⟨fun t16_5 w6 =>
  BrK t16_5 (@hid _ ⟨
   R x0 w6⟩) (@hid _ ⟨
   BuiltinK Try.prog Go.Builtin.len #[57] 3 #[false] #[x0] (@hid _ ⟨fun t19_7 w8 =>
   BinK Try.prog Go.BinOp.eql 3 x1 t19_7 (@hid _ ⟨fun t22_9 w10 =>
   BrK t22_9 (@hid _ ⟨
    BuiltinK Try.prog Go.Builtin.append #[57, 57] 57 #[false, false] #[x0, x2] (@hid _ ⟨fun t25_11 w12 =>
    R t25_11 w12⟩) w10⟩) (@hid _ ⟨
    BinK Try.prog Go.BinOp.add 3 t19_7 t14_3 (@hid _ ⟨fun t28_13 w14 =>
    BuiltinK Try.prog Go.Builtin.cap #[57] 3 #[false] #[x0] (@hid _ ⟨fun t30_15 w16 =>
    BinK Try.prog Go.BinOp.gtr 3 t28_13 t30_15 (@hid _ ⟨fun t31_17 w18 =>
    BrK t31_17 (@hid _ ⟨
     SliceK Try.prog 57 x0 none (some x1) none (@hid _ ⟨fun t34_19 w20 =>
     BinK Try.prog Go.BinOp.add 3 t19_7 t14_3 (@hid _ ⟨fun t37_21 w22 =>
     BinK Try.prog Go.BinOp.sub 3 t37_21 x1 (@hid _ ⟨fun t39_23 w24 =>
     BuiltinK Try.prog Go.Builtin.append #[57, 3] 57 #[false, false] #[t34_19, t39_23] (@hid _ ⟨fun t40_25 w26 =>
     SliceK Try.prog 57 t40_25 (some x1) none none (@hid _ ⟨fun t43_27 w28 =>
     BuiltinK Try.prog Go.Builtin.copy #[57, 57] 3 #[false, false] #[t43_27, x2] (@hid _ ⟨fun t45_29 w30 =>
     DrawK (@hid _ ⟨fun S31 w32 =>
     BinT Try.prog S31 Go.BinOp.add 3 x1 t14_3 (@hid _ ⟨fun t49_33 =>
     TakeS Try.prog S31 (Instr.sliceAt 57 t40_25 (some t49_33) none none) (@hid _ ⟨fun t50_34 =>
     TakeS Try.prog S31 (Instr.sliceAt 57 x0 (some x1) none none) (@hid _ ⟨fun t53_35 =>
     (BuiltinK Try.prog Go.Builtin.copy #[57, 57] 3 #[false, false] #[t50_34, t53_35] (@hid _ ⟨fun t54_36 w37 =>
     S31 w37 ∧
     R t40_25 w37⟩) w32) ∧
     True⟩)⟩)⟩)⟩) w30⟩) w28⟩) w26⟩) w24⟩) w22⟩) w20⟩) w18⟩) (@hid _ ⟨
     BinK Try.prog Go.BinOp.add 3 t19_7 t14_3 (@hid _ ⟨fun t59_38 w39 =>
     SliceK Try.prog 57 x0 none (some t59_38) none (@hid _ ⟨fun t60_40 w41 =>
     BinK Try.prog Go.BinOp.add 3 x1 t14_3 (@hid _ ⟨fun t65_42 w43 =>
     SliceK Try.prog 57 t60_40 (some t65_42) none none (@hid _ ⟨fun t66_44 w45 =>
     CallV Try.prog (.func (.func 43) #[] #[]) #[x2, t66_44] (@hid _ ⟨fun t67_46 w47 =>
     UnK Try.prog Go.UnOp.not t67_46 (@hid _ ⟨fun t68_48 w49 =>
     BrK t68_48 (@hid _ ⟨
      DrawK (@hid _ ⟨fun S50 w51 =>
      BinT Try.prog S50 Go.BinOp.add 3 x1 t14_3 (@hid _ ⟨fun t72_52 =>
      TakeS Try.prog S50 (Instr.sliceAt 57 t60_40 (some t72_52) none none) (@hid _ ⟨fun t73_53 =>
      TakeS Try.prog S50 (Instr.sliceAt 57 t60_40 (some x1) none none) (@hid _ ⟨fun t76_54 =>
      (BuiltinK Try.prog Go.Builtin.copy #[57, 57] 3 #[false, false] #[t73_53, t76_54] (@hid _ ⟨fun t77_55 w56 =>
      S50 w56 ∧
      SliceK Try.prog 57 t60_40 (some x1) none none (@hid _ ⟨fun t80_57 w58 =>
      BuiltinK Try.prog Go.Builtin.copy #[57, 57] 3 #[false, false] #[t80_57, x2] (@hid _ ⟨fun t82_59 w60 =>
      R t60_40 w60⟩) w58⟩) w56⟩) w51) ∧
      True⟩)⟩)⟩)⟩) w49⟩) (@hid _ ⟨
      SliceK Try.prog 57 t60_40 (some t19_7) none none (@hid _ ⟨fun t86_61 w62 =>
      BuiltinK Try.prog Go.Builtin.copy #[57, 57] 3 #[false, false] #[t86_61, x2] (@hid _ ⟨fun t88_63 w64 =>
      SliceK Try.prog 57 t60_40 (some x1) none none (@hid _ ⟨fun t91_65 w66 =>
      CallV Try.prog (.func (.func 44) #[] #[]) #[t91_65, t14_3] (@hid _ ⟨fun t93_67 w68 =>
      R t60_40 w68⟩) w66⟩) w64⟩) w62⟩) w49⟩)⟩) w47⟩) w45⟩) w43⟩) w41⟩) w39⟩) w18⟩)⟩) w16⟩) w14⟩) w10⟩)⟩) w8⟩) w6⟩)⟩) w4⟩) w2⟩) w0
def a31 : Ann := (.seq .no (.seq .no (.seq .no (.seq (.seq .no (.cond (.seq .no .no) .no)) (.seq .no (.seq (.seq .no (.cond (.seq .no .no) .no)) (.seq (.seq .no (.cond (.seq .no (.seq .no (.seq (.plan (.take 0 (.take 1 (.take 2 (.take 3 (.take 4 (.take 5 (.take 6 (.take 7 (.alt 8 .done .nil)))))))))) (.seq .no .no)))) .no)) (.seq .no (.seq (.seq .no (.cond (.seq (.plan (.take 0 (.take 1 (.take 2 (.take 3 (.take 4 (.take 5 (.take 6 (.take 7 (.alt 8 .done .nil)))))))))) (.seq .no (.seq .no .no))) .no)) (.seq .no (.seq .no (.seq .no .no))))))))))))
theorem F31_eq (x0 x1 x2 : Value) (R : Value → World → Prop) (w0 : World) : F31 x0 x1 x2 R w0 = vc Try.prog (bodyOf Try.f31) a31 (retQ Try.prog Try.f31 R) (envOf 0 [x0, x1, x2]) w0 := by kernel_rfl
theorem F31_calls (x0 x1 x2 : Value) (R : Value → World → Prop) (w0 : World) (h : F31 x0 x1 x2 R w0) : CallK Try.prog 31 #[x0, x1, x2] R w0 :=
  calls_vc (c := bodyOf Try.f31) Try.func31 (by kernel_rfl) (by kernel_rfl) a31 (by kernel_rfl) (by kernel_rfl) [x0, x1, x2] (by rw [Try.ntmps31]; exact Nat.le_of_ble_eq_true rfl) w0 R ((F31_eq x0 x1 x2 R w0).mp h)

/-- slices.Delete[[]canton/sorted.pair[string, int],canton/sorted.pair[string, int]], its body as a formula. -/
def F32 (x0 x1 x2 : Value) (R : Value → World → Prop) (w0 : World) : Prop :=
  BuiltinK Try.prog Go.Builtin.len #[57] 3 #[false] #[x0] (@hid _ ⟨fun t12_1 w2 =>
  SliceK Try.prog 57 x0 (some x1) (some x2) (some t12_1) (@hid _ ⟨fun t13_3 w4 =>
  BinK Try.prog Go.BinOp.eql 3 x1 x2 (@hid _ ⟨fun t16_5 w6 =>
  BrK t16_5 (@hid _ ⟨
   R x0 w6⟩) (@hid _ ⟨
   BuiltinK Try.prog Go.Builtin.len #[57] 3 #[false] #[x0] (@hid _ ⟨fun t19_7 w8 =>
   DrawK (@hid _ ⟨fun S9 w10 =>
   TakeS Try.prog S9 (Instr.sliceAt 57 x0 none (some x1) none) (@hid _ ⟨fun t22_11 =>
   TakeS Try.prog S9 (Instr.sliceAt 57 x0 (some x2) none none) (@hid _ ⟨fun t25_12 =>
   (BuiltinK Try.prog Go.Builtin.append #[57, 57] 57 #[false, false] #[t22_11, t25_12] (@hid _ ⟨fun t26_13 w14 =>
   S9 w14 ∧
   BuiltinK Try.prog Go.Builtin.len #[57] 3 #[false] #[t26_13] (@hid _ ⟨fun t29_15 w16 =>
   SliceK Try.prog 57 t26_13 (some t29_15) (some t19_7) none (@hid _ ⟨fun t31_17 w18 =>
   BuiltinK Try.prog Go.Builtin.clear #[57] 0 #[false] #[t31_17] (@hid _ ⟨fun tu_19 w20 =>
   R t26_13 w20⟩) w18⟩) w16⟩) w14⟩) w10) ∧
   True⟩)⟩)⟩) w8⟩) w6⟩)⟩) w4⟩) w2⟩) w0
def a32 : Ann := (.seq .no (.seq .no (.seq (.seq .no (.cond (.seq .no .no) .no)) (.seq .no (.seq (.plan (.take 0 (.take 1 (.take 2 (.take 3 (.take 4 (.take 5 (.alt 6 (.take 7 .done) .nil)))))))) (.seq .no (.seq .no .no)))))))
theorem F32_eq (x0 x1 x2 : Value) (R : Value → World → Prop) (w0 : World) : F32 x0 x1 x2 R w0 = vc Try.prog (bodyOf Try.f32) a32 (retQ Try.prog Try.f32 R) (envOf 0 [x0, x1, x2]) w0 := by kernel_rfl
theorem F32_calls (x0 x1 x2 : Value) (R : Value → World → Prop) (w0 : World) (h : F32 x0 x1 x2 R w0) : CallK Try.prog 32 #[x0, x1, x2] R w0 :=
  calls_vc (c := bodyOf Try.f32) Try.func32 (by kernel_rfl) (by kernel_rfl) a32 (by kernel_rfl) (by kernel_rfl) [x0, x1, x2] (by rw [Try.ntmps32]; exact Nat.le_of_ble_eq_true rfl) w0 R ((F32_eq x0 x1 x2 R w0).mp h)

/-- slices.Clone[[]canton/sorted.pair[string, int],canton/sorted.pair[string, int]], its body as a formula. -/
def F33 (x0 : Value) (R : Value → World → Prop) (w0 : World) : Prop :=
  BinK Try.prog Go.BinOp.eql 57 x0 (Go.Value.slice none 0 0) (@hid _ ⟨fun t4_1 w2 =>
  BrK t4_1 (@hid _ ⟨
   R (Go.Value.slice none 0 0) w2⟩) (@hid _ ⟨
   BuildSliceK Try.prog 57 0 #[] (@hid _ ⟨fun t5_3 w4 =>
   BuiltinK Try.prog Go.Builtin.append #[57, 57] 57 #[false, false] #[t5_3, x0] (@hid _ ⟨fun t7_5 w6 =>
   R t7_5 w6⟩) w4⟩) w2⟩)⟩) w0
def a33 : Ann := (.seq .no (.seq (.seq .no (.cond (.seq .no .no) .no)) (.seq .no .no)))
theorem F33_eq (x0 : Value) (R : Value → World → Prop) (w0 : World) : F33 x0 R w0 = vc Try.prog (bodyOf Try.f33) a33 (retQ Try.prog Try.f33 R) (envOf 0 [x0]) w0 := by kernel_rfl
theorem F33_calls (x0 : Value) (R : Value → World → Prop) (w0 : World) (h : F33 x0 R w0) : CallK Try.prog 33 #[x0] R w0 :=
  calls_vc (c := bodyOf Try.f33) Try.func33 (by kernel_rfl) (by kernel_rfl) a33 (by kernel_rfl) (by kernel_rfl) [x0] (by rw [Try.ntmps33]; exact Nat.le_of_ble_eq_true rfl) w0 R ((F33_eq x0 R w0).mp h)

/-- (*canton/sorted.Map[string, int]).key, its body as a formula. -/
def F34 (x0 x1 : Value) (R : Value → World → Prop) (w0 : World) : Prop :=
  CallV Try.prog (.func (.func 16) #[] #[]) #[x0, x1] (@hid _ ⟨fun t12_1 w2 =>
  ExtractK Try.prog t12_1 0 (@hid _ ⟨fun t13_3 w4 =>
  ExtractK Try.prog t12_1 1 (@hid _ ⟨fun t14_5 w6 =>
  ExtractK Try.prog t12_1 2 (@hid _ ⟨fun t15_7 w8 =>
  R (.tuple #[t13_3, t15_7]) w8⟩) w6⟩) w4⟩) w2⟩) w0
def a34 : Ann := (.seq .no (.seq .no (.seq .no .no)))
theorem F34_eq (x0 x1 : Value) (R : Value → World → Prop) (w0 : World) : F34 x0 x1 R w0 = vc Try.prog (bodyOf Try.f34) a34 (retQ Try.prog Try.f34 R) (envOf 0 [x0, x1]) w0 := by kernel_rfl
theorem F34_calls (x0 x1 : Value) (R : Value → World → Prop) (w0 : World) (h : F34 x0 x1 R w0) : CallK Try.prog 34 #[x0, x1] R w0 :=
  calls_vc (c := bodyOf Try.f34) Try.func34 (by kernel_rfl) (by kernel_rfl) a34 (by kernel_rfl) (by kernel_rfl) [x0, x1] (by rw [Try.ntmps34]; exact Nat.le_of_ble_eq_true rfl) w0 R ((F34_eq x0 x1 R w0).mp h)

/-- (*canton/sorted.Map[int64, string]).find, its body as a formula. -/
def F35 (x0 x1 : Value) (R : Value → World → Prop) (w0 : World) : Prop :=
  NilK Try.prog x0 (@hid _ ⟨fun t7_1 w2 =>
  FieldAtK Try.prog 68 t7_1 0 (@hid _ ⟨fun t8_3 w4 =>
  LoadK Try.prog 66 t8_3 (@hid _ ⟨fun t9_5 w6 =>
  CallV Try.prog (.func (.func 45) #[] #[]) #[t9_5, x1, (.func (.func 46) #[] #[])] (@hid _ ⟨fun t11_7 w8 =>
  ExtractK Try.prog t11_7 0 (@hid _ ⟨fun t12_9 w10 =>
  ExtractK Try.prog t11_7 1 (@hid _ ⟨fun t13_11 w12 =>
  R (.tuple #[t12_9, t13_11]) w12⟩) w10⟩) w8⟩) w6⟩) w4⟩) w2⟩) w0
def a35 : Ann := (.seq .no (.seq .no .no))
theorem F35_eq (x0 x1 : Value) (R : Value → World → Prop) (w0 : World) : F35 x0 x1 R w0 = vc Try.prog (bodyOf Try.f35) a35 (retQ Try.prog Try.f35 R) (envOf 0 [x0, x1]) w0 := by kernel_rfl
theorem F35_calls (x0 x1 : Value) (R : Value → World → Prop) (w0 : World) (h : F35 x0 x1 R w0) : CallK Try.prog 35 #[x0, x1] R w0 :=
  calls_vc (c := bodyOf Try.f35) Try.func35 (by kernel_rfl) (by kernel_rfl) a35 (by kernel_rfl) (by kernel_rfl) [x0, x1] (by rw [Try.ntmps35]; exact Nat.le_of_ble_eq_true rfl) w0 R ((F35_eq x0 x1 R w0).mp h)

/-- slices.Insert[[]canton/sorted.pair[int64, string],canton/sorted.pair[int64, string]], its body as a formula. -/
def F36 (x0 x1 x2 : Value) (R : Value → World → Prop) (w0 : World) : Prop :=
  SliceK Try.prog 66 x0 (some x1) none none (@hid _ ⟨fun t12_1 w2 =>
  BuiltinK Try.prog Go.Builtin.len #[66] 3 #[false] #[x2] (@hid _ ⟨fun t14_3 w4 =>
  BinK Try.prog Go.BinOp.eql 3 t14_3 (Go.Value.int Go.IntKind.i64 0) (@hid _ ⟨fun t16_5 w6 =>
  BrK t16_5 (@hid _ ⟨
   R x0 w6⟩) (@hid _ ⟨
   BuiltinK Try.prog Go.Builtin.len #[66] 3 #[false] #[x0] (@hid _ ⟨fun t19_7 w8 =>
   BinK Try.prog Go.BinOp.eql 3 x1 t19_7 (@hid _ ⟨fun t22_9 w10 =>
   BrK t22_9 (@hid _ ⟨
    BuiltinK Try.prog Go.Builtin.append #[66, 66] 66 #[false, false] #[x0, x2] (@hid _ ⟨fun t25_11 w12 =>
    R t25_11 w12⟩) w10⟩) (@hid _ ⟨
    BinK Try.prog Go.BinOp.add 3 t19_7 t14_3 (@hid _ ⟨fun t28_13 w14 =>
    BuiltinK Try.prog Go.Builtin.cap #[66] 3 #[false] #[x0] (@hid _ ⟨fun t30_15 w16 =>
    BinK Try.prog Go.BinOp.gtr 3 t28_13 t30_15 (@hid _ ⟨fun t31_17 w18 =>
    BrK t31_17 (@hid _ ⟨
     SliceK Try.prog 66 x0 none (some x1) none (@hid _ ⟨fun t34_19 w20 =>
     BinK Try.prog Go.BinOp.add 3 t19_7 t14_3 (@hid _ ⟨fun t37_21 w22 =>
     BinK Try.prog Go.BinOp.sub 3 t37_21 x1 (@hid _ ⟨fun t39_23 w24 =>
     BuiltinK Try.prog Go.Builtin.append #[66, 3] 66 #[false, false] #[t34_19, t39_23] (@hid _ ⟨fun t40_25 w26 =>
     SliceK Try.prog 66 t40_25 (some x1) none none (@hid _ ⟨fun t43_27 w28 =>
     BuiltinK Try.prog Go.Builtin.copy #[66, 66] 3 #[false, false] #[t43_27, x2] (@hid _ ⟨fun t45_29 w30 =>
     DrawK (@hid _ ⟨fun S31 w32 =>
     BinT Try.prog S31 Go.BinOp.add 3 x1 t14_3 (@hid _ ⟨fun t49_33 =>
     TakeS Try.prog S31 (Instr.sliceAt 66 t40_25 (some t49_33) none none) (@hid _ ⟨fun t50_34 =>
     TakeS Try.prog S31 (Instr.sliceAt 66 x0 (some x1) none none) (@hid _ ⟨fun t53_35 =>
     (BuiltinK Try.prog Go.Builtin.copy #[66, 66] 3 #[false, false] #[t50_34, t53_35] (@hid _ ⟨fun t54_36 w37 =>
     S31 w37 ∧
     R t40_25 w37⟩) w32) ∧
     True⟩)⟩)⟩)⟩) w30⟩) w28⟩) w26⟩) w24⟩) w22⟩) w20⟩) w18⟩) (@hid _ ⟨
     BinK Try.prog Go.BinOp.add 3 t19_7 t14_3 (@hid _ ⟨fun t59_38 w39 =>
     SliceK Try.prog 66 x0 none (some t59_38) none (@hid _ ⟨fun t60_40 w41 =>
     BinK Try.prog Go.BinOp.add 3 x1 t14_3 (@hid _ ⟨fun t65_42 w43 =>
     SliceK Try.prog 66 t60_40 (some t65_42) none none (@hid _ ⟨fun t66_44 w45 =>
     CallV Try.prog (.func (.func 48) #[] #[]) #[x2, t66_44] (@hid _ ⟨fun t67_46 w47 =>
     UnK Try.prog Go.UnOp.not t67_46 (@hid _ ⟨fun t68_48 w49 =>
     BrK t68_48 (@hid _ ⟨
      DrawK (@hid _ ⟨fun S50 w51 =>
      BinT Try.prog S50 Go.BinOp.add 3 x1 t14_3 (@hid _ ⟨fun t72_52 =>
      TakeS Try.prog S50 (Instr.sliceAt 66 t60_40 (some t72_52) none none) (@hid _ ⟨fun t73_53 =>
      TakeS Try.prog S50 (Instr.sliceAt 66 t60_40 (some x1) none none) (@hid _ ⟨fun t76_54 =>
      (BuiltinK Try.prog Go.Builtin.copy #[66, 66] 3 #[false, false] #[t73_53, t76_54] (@hid _ ⟨fun t77_55 w56 =>
      S50 w56 ∧
      SliceK Try.prog 66 t60_40 (some x1) none none (@hid _ ⟨fun t80_57 w58 =>
      BuiltinK Try.prog Go.Builtin.copy #[66, 66] 3 #[false, false] #[t80_57, x2] (@hid _ ⟨fun t82_59 w60 =>
      R t60_40 w60⟩) w58⟩) w56⟩) w51) ∧
      True⟩)⟩)⟩)⟩) w49⟩) (@hid _ ⟨
      SliceK Try.prog 66 t60_40 (some t19_7) none none (@hid _ ⟨fun t86_61 w62 =>
      BuiltinK Try.prog Go.Builtin.copy #[66, 66] 3 #[false, false] #[t86_61, x2] (@hid _ ⟨fun t88_63 w64 =>
      SliceK Try.prog 66 t60_40 (some x1) none none (@hid _ ⟨fun t91_65 w66 =>
      CallV Try.prog (.func (.func 49) #[] #[]) #[t91_65, t14_3] (@hid _ ⟨fun t93_67 w68 =>
      R t60_40 w68⟩) w66⟩) w64⟩) w62⟩) w49⟩)⟩) w47⟩) w45⟩) w43⟩) w41⟩) w39⟩) w18⟩)⟩) w16⟩) w14⟩) w10⟩)⟩) w8⟩) w6⟩)⟩) w4⟩) w2⟩) w0
def a36 : Ann := (.seq .no (.seq .no (.seq .no (.seq (.seq .no (.cond (.seq .no .no) .no)) (.seq .no (.seq (.seq .no (.cond (.seq .no .no) .no)) (.seq (.seq .no (.cond (.seq .no (.seq .no (.seq (.plan (.take 0 (.take 1 (.take 2 (.take 3 (.take 4 (.take 5 (.take 6 (.take 7 (.alt 8 .done .nil)))))))))) (.seq .no .no)))) .no)) (.seq .no (.seq (.seq .no (.cond (.seq (.plan (.take 0 (.take 1 (.take 2 (.take 3 (.take 4 (.take 5 (.take 6 (.take 7 (.alt 8 .done .nil)))))))))) (.seq .no (.seq .no .no))) .no)) (.seq .no (.seq .no (.seq .no .no))))))))))))
theorem F36_eq (x0 x1 x2 : Value) (R : Value → World → Prop) (w0 : World) : F36 x0 x1 x2 R w0 = vc Try.prog (bodyOf Try.f36) a36 (retQ Try.prog Try.f36 R) (envOf 0 [x0, x1, x2]) w0 := by kernel_rfl
theorem F36_calls (x0 x1 x2 : Value) (R : Value → World → Prop) (w0 : World) (h : F36 x0 x1 x2 R w0) : CallK Try.prog 36 #[x0, x1, x2] R w0 :=
  calls_vc (c := bodyOf Try.f36) Try.func36 (by kernel_rfl) (by kernel_rfl) a36 (by kernel_rfl) (by kernel_rfl) [x0, x1, x2] (by rw [Try.ntmps36]; exact Nat.le_of_ble_eq_true rfl) w0 R ((F36_eq x0 x1 x2 R w0).mp h)

/-- (*canton/sorted.Map[string, bool]).find, its body as a formula. -/
def F37 (x0 x1 : Value) (R : Value → World → Prop) (w0 : World) : Prop :=
  NilK Try.prog x0 (@hid _ ⟨fun t7_1 w2 =>
  FieldAtK Try.prog 76 t7_1 0 (@hid _ ⟨fun t8_3 w4 =>
  LoadK Try.prog 74 t8_3 (@hid _ ⟨fun t9_5 w6 =>
  CallV Try.prog (.func (.func 50) #[] #[]) #[t9_5, x1, (.func (.func 51) #[] #[])] (@hid _ ⟨fun t11_7 w8 =>
  ExtractK Try.prog t11_7 0 (@hid _ ⟨fun t12_9 w10 =>
  ExtractK Try.prog t11_7 1 (@hid _ ⟨fun t13_11 w12 =>
  R (.tuple #[t12_9, t13_11]) w12⟩) w10⟩) w8⟩) w6⟩) w4⟩) w2⟩) w0
def a37 : Ann := (.seq .no (.seq .no .no))
theorem F37_eq (x0 x1 : Value) (R : Value → World → Prop) (w0 : World) : F37 x0 x1 R w0 = vc Try.prog (bodyOf Try.f37) a37 (retQ Try.prog Try.f37 R) (envOf 0 [x0, x1]) w0 := by kernel_rfl
theorem F37_calls (x0 x1 : Value) (R : Value → World → Prop) (w0 : World) (h : F37 x0 x1 R w0) : CallK Try.prog 37 #[x0, x1] R w0 :=
  calls_vc (c := bodyOf Try.f37) Try.func37 (by kernel_rfl) (by kernel_rfl) a37 (by kernel_rfl) (by kernel_rfl) [x0, x1] (by rw [Try.ntmps37]; exact Nat.le_of_ble_eq_true rfl) w0 R ((F37_eq x0 x1 R w0).mp h)

/-- slices.Insert[[]canton/sorted.pair[string, bool],canton/sorted.pair[string, bool]], its body as a formula. -/
def F38 (x0 x1 x2 : Value) (R : Value → World → Prop) (w0 : World) : Prop :=
  SliceK Try.prog 74 x0 (some x1) none none (@hid _ ⟨fun t12_1 w2 =>
  BuiltinK Try.prog Go.Builtin.len #[74] 3 #[false] #[x2] (@hid _ ⟨fun t14_3 w4 =>
  BinK Try.prog Go.BinOp.eql 3 t14_3 (Go.Value.int Go.IntKind.i64 0) (@hid _ ⟨fun t16_5 w6 =>
  BrK t16_5 (@hid _ ⟨
   R x0 w6⟩) (@hid _ ⟨
   BuiltinK Try.prog Go.Builtin.len #[74] 3 #[false] #[x0] (@hid _ ⟨fun t19_7 w8 =>
   BinK Try.prog Go.BinOp.eql 3 x1 t19_7 (@hid _ ⟨fun t22_9 w10 =>
   BrK t22_9 (@hid _ ⟨
    BuiltinK Try.prog Go.Builtin.append #[74, 74] 74 #[false, false] #[x0, x2] (@hid _ ⟨fun t25_11 w12 =>
    R t25_11 w12⟩) w10⟩) (@hid _ ⟨
    BinK Try.prog Go.BinOp.add 3 t19_7 t14_3 (@hid _ ⟨fun t28_13 w14 =>
    BuiltinK Try.prog Go.Builtin.cap #[74] 3 #[false] #[x0] (@hid _ ⟨fun t30_15 w16 =>
    BinK Try.prog Go.BinOp.gtr 3 t28_13 t30_15 (@hid _ ⟨fun t31_17 w18 =>
    BrK t31_17 (@hid _ ⟨
     SliceK Try.prog 74 x0 none (some x1) none (@hid _ ⟨fun t34_19 w20 =>
     BinK Try.prog Go.BinOp.add 3 t19_7 t14_3 (@hid _ ⟨fun t37_21 w22 =>
     BinK Try.prog Go.BinOp.sub 3 t37_21 x1 (@hid _ ⟨fun t39_23 w24 =>
     BuiltinK Try.prog Go.Builtin.append #[74, 3] 74 #[false, false] #[t34_19, t39_23] (@hid _ ⟨fun t40_25 w26 =>
     SliceK Try.prog 74 t40_25 (some x1) none none (@hid _ ⟨fun t43_27 w28 =>
     BuiltinK Try.prog Go.Builtin.copy #[74, 74] 3 #[false, false] #[t43_27, x2] (@hid _ ⟨fun t45_29 w30 =>
     DrawK (@hid _ ⟨fun S31 w32 =>
     BinT Try.prog S31 Go.BinOp.add 3 x1 t14_3 (@hid _ ⟨fun t49_33 =>
     TakeS Try.prog S31 (Instr.sliceAt 74 t40_25 (some t49_33) none none) (@hid _ ⟨fun t50_34 =>
     TakeS Try.prog S31 (Instr.sliceAt 74 x0 (some x1) none none) (@hid _ ⟨fun t53_35 =>
     (BuiltinK Try.prog Go.Builtin.copy #[74, 74] 3 #[false, false] #[t50_34, t53_35] (@hid _ ⟨fun t54_36 w37 =>
     S31 w37 ∧
     R t40_25 w37⟩) w32) ∧
     True⟩)⟩)⟩)⟩) w30⟩) w28⟩) w26⟩) w24⟩) w22⟩) w20⟩) w18⟩) (@hid _ ⟨
     BinK Try.prog Go.BinOp.add 3 t19_7 t14_3 (@hid _ ⟨fun t59_38 w39 =>
     SliceK Try.prog 74 x0 none (some t59_38) none (@hid _ ⟨fun t60_40 w41 =>
     BinK Try.prog Go.BinOp.add 3 x1 t14_3 (@hid _ ⟨fun t65_42 w43 =>
     SliceK Try.prog 74 t60_40 (some t65_42) none none (@hid _ ⟨fun t66_44 w45 =>
     CallV Try.prog (.func (.func 52) #[] #[]) #[x2, t66_44] (@hid _ ⟨fun t67_46 w47 =>
     UnK Try.prog Go.UnOp.not t67_46 (@hid _ ⟨fun t68_48 w49 =>
     BrK t68_48 (@hid _ ⟨
      DrawK (@hid _ ⟨fun S50 w51 =>
      BinT Try.prog S50 Go.BinOp.add 3 x1 t14_3 (@hid _ ⟨fun t72_52 =>
      TakeS Try.prog S50 (Instr.sliceAt 74 t60_40 (some t72_52) none none) (@hid _ ⟨fun t73_53 =>
      TakeS Try.prog S50 (Instr.sliceAt 74 t60_40 (some x1) none none) (@hid _ ⟨fun t76_54 =>
      (BuiltinK Try.prog Go.Builtin.copy #[74, 74] 3 #[false, false] #[t73_53, t76_54] (@hid _ ⟨fun t77_55 w56 =>
      S50 w56 ∧
      SliceK Try.prog 74 t60_40 (some x1) none none (@hid _ ⟨fun t80_57 w58 =>
      BuiltinK Try.prog Go.Builtin.copy #[74, 74] 3 #[false, false] #[t80_57, x2] (@hid _ ⟨fun t82_59 w60 =>
      R t60_40 w60⟩) w58⟩) w56⟩) w51) ∧
      True⟩)⟩)⟩)⟩) w49⟩) (@hid _ ⟨
      SliceK Try.prog 74 t60_40 (some t19_7) none none (@hid _ ⟨fun t86_61 w62 =>
      BuiltinK Try.prog Go.Builtin.copy #[74, 74] 3 #[false, false] #[t86_61, x2] (@hid _ ⟨fun t88_63 w64 =>
      SliceK Try.prog 74 t60_40 (some x1) none none (@hid _ ⟨fun t91_65 w66 =>
      CallV Try.prog (.func (.func 53) #[] #[]) #[t91_65, t14_3] (@hid _ ⟨fun t93_67 w68 =>
      R t60_40 w68⟩) w66⟩) w64⟩) w62⟩) w49⟩)⟩) w47⟩) w45⟩) w43⟩) w41⟩) w39⟩) w18⟩)⟩) w16⟩) w14⟩) w10⟩)⟩) w8⟩) w6⟩)⟩) w4⟩) w2⟩) w0
def a38 : Ann := (.seq .no (.seq .no (.seq .no (.seq (.seq .no (.cond (.seq .no .no) .no)) (.seq .no (.seq (.seq .no (.cond (.seq .no .no) .no)) (.seq (.seq .no (.cond (.seq .no (.seq .no (.seq (.plan (.take 0 (.take 1 (.take 2 (.take 3 (.take 4 (.take 5 (.take 6 (.take 7 (.alt 8 .done .nil)))))))))) (.seq .no .no)))) .no)) (.seq .no (.seq (.seq .no (.cond (.seq (.plan (.take 0 (.take 1 (.take 2 (.take 3 (.take 4 (.take 5 (.take 6 (.take 7 (.alt 8 .done .nil)))))))))) (.seq .no (.seq .no .no))) .no)) (.seq .no (.seq .no (.seq .no .no))))))))))))
theorem F38_eq (x0 x1 x2 : Value) (R : Value → World → Prop) (w0 : World) : F38 x0 x1 x2 R w0 = vc Try.prog (bodyOf Try.f38) a38 (retQ Try.prog Try.f38 R) (envOf 0 [x0, x1, x2]) w0 := by kernel_rfl
theorem F38_calls (x0 x1 x2 : Value) (R : Value → World → Prop) (w0 : World) (h : F38 x0 x1 x2 R w0) : CallK Try.prog 38 #[x0, x1, x2] R w0 :=
  calls_vc (c := bodyOf Try.f38) Try.func38 (by kernel_rfl) (by kernel_rfl) a38 (by kernel_rfl) (by kernel_rfl) [x0, x1, x2] (by rw [Try.ntmps38]; exact Nat.le_of_ble_eq_true rfl) w0 R ((F38_eq x0 x1 x2 R w0).mp h)

/-- (*canton/sorted.Map[string, bool]).key, its body as a formula. -/
def F39 (x0 x1 : Value) (R : Value → World → Prop) (w0 : World) : Prop :=
  CallV Try.prog (.func (.func 27) #[] #[]) #[x0, x1] (@hid _ ⟨fun t12_1 w2 =>
  ExtractK Try.prog t12_1 0 (@hid _ ⟨fun t13_3 w4 =>
  ExtractK Try.prog t12_1 1 (@hid _ ⟨fun t14_5 w6 =>
  ExtractK Try.prog t12_1 2 (@hid _ ⟨fun t15_7 w8 =>
  R (.tuple #[t13_3, t15_7]) w8⟩) w6⟩) w4⟩) w2⟩) w0
def a39 : Ann := (.seq .no (.seq .no (.seq .no .no)))
theorem F39_eq (x0 x1 : Value) (R : Value → World → Prop) (w0 : World) : F39 x0 x1 R w0 = vc Try.prog (bodyOf Try.f39) a39 (retQ Try.prog Try.f39 R) (envOf 0 [x0, x1]) w0 := by kernel_rfl
theorem F39_calls (x0 x1 : Value) (R : Value → World → Prop) (w0 : World) (h : F39 x0 x1 R w0) : CallK Try.prog 39 #[x0, x1] R w0 :=
  calls_vc (c := bodyOf Try.f39) Try.func39 (by kernel_rfl) (by kernel_rfl) a39 (by kernel_rfl) (by kernel_rfl) [x0, x1] (by rw [Try.ntmps39]; exact Nat.le_of_ble_eq_true rfl) w0 R ((F39_eq x0 x1 R w0).mp h)

/-- slices.BinarySearchFunc[[]canton/sorted.pair[string, int],canton/sorted.pair[string, int],string], its body as a formula. -/
def F40 (x0 x1 x2 : Value) (R : Value → World → Prop) (w0 : World) : Prop :=
  BuiltinK Try.prog Go.Builtin.len #[57] 3 #[false] #[x0] (@hid _ ⟨fun t13_1 w2 =>
  LoopK2 (Go.Value.int Go.IntKind.i64 0) t13_1 w2 (@hid _ ⟨fun _ x9_3 x10_4 w5 B6 =>
   BinK Try.prog Go.BinOp.lss 3 x9_3 x10_4 (@hid _ ⟨fun t17_7 w8 =>
   BrK t17_7 (@hid _ ⟨
    BinK Try.prog Go.BinOp.add 3 x9_3 x10_4 (@hid _ ⟨fun t20_9 w10 =>
    ConvK Try.prog 3 94 t20_9 (@hid _ ⟨fun t21_11 w12 =>
    BinK Try.prog Go.BinOp.shr 94 t21_11 (Go.Value.int Go.IntKind.u64 1) (@hid _ ⟨fun t22_13 w14 =>
    ConvK Try.prog 94 3 t22_13 (@hid _ ⟨fun t23_15 w16 =>
    IndexAtK Try.prog 57 x0 t23_15 (@hid _ ⟨fun t27_17 w18 =>
    LoadK Try.prog 61 t27_17 (@hid _ ⟨fun t28_19 w20 =>
    CallV Try.prog x2 #[t28_19, x1] (@hid _ ⟨fun t30_21 w22 =>
    BinK Try.prog Go.BinOp.lss 3 t30_21 (Go.Value.int Go.IntKind.i64 0) (@hid _ ⟨fun t31_23 w24 =>
    BrK t31_23 (@hid _ ⟨
     BinK Try.prog Go.BinOp.add 3 t23_15 (Go.Value.int Go.IntKind.i64 1) (@hid _ ⟨fun t33_25 w26 =>
     B6 t33_25 x10_4 w26⟩) w24⟩) (@hid _ ⟨
     B6 x9_3 t23_15 w24⟩)⟩) w22⟩) w20⟩) w18⟩) w16⟩) w14⟩) w12⟩) w10⟩) w8⟩) (@hid _ ⟨
    BinK Try.prog Go.BinOp.lss 3 x9_3 t13_1 (@hid _ ⟨fun t38_27 w28 =>
    GuardK t38_27 true (fun k w => k x2 w) (@hid _ ⟨fun t40_29 w30 =>
    GuardK t38_27 true (fun k w => k x0 w) (@hid _ ⟨fun t41_31 w32 =>
    GuardK t38_27 true (fun k w => k x9_3 w) (@hid _ ⟨fun t42_33 w34 =>
    GuardK t38_27 true (fun k w => IndexAtK Try.prog 57 t41_31 t42_33 k w) (@hid _ ⟨fun t43_35 w36 =>
    GuardK t38_27 true (fun k w => LoadK Try.prog 61 t43_35 k w) (@hid _ ⟨fun t44_37 w38 =>
    GuardK t38_27 true (fun k w => k x1 w) (@hid _ ⟨fun t45_39 w40 =>
    GuardK t38_27 true (fun k w => CallV Try.prog t40_29 #[t44_37, t45_39] k w) (@hid _ ⟨fun t46_41 w42 =>
    GuardK t38_27 true (fun k w => BinK Try.prog Go.BinOp.eql 3 t46_41 (Go.Value.int Go.IntKind.i64 0) k w) (@hid _ ⟨fun t47_43 w44 =>
    PickK Try.prog t38_27 t47_43 (Go.Value.bool false) (@hid _ ⟨fun t48_45 w46 =>
    R (.tuple #[x9_3, t48_45]) w46⟩) w44⟩) w42⟩) w40⟩) w38⟩) w36⟩) w34⟩) w32⟩) w30⟩) w28⟩) w8⟩)⟩) w5⟩)⟩) w0
def a40 : Ann := (.seq .no (.seq .no (.seq .no (.seq (.block (.loop [9, 10] [(11, 11), (15, 34)] (.seq (.seq .no (.cond .no .no)) (.block (.seq .no (.seq .no (.cond .no .no))))))) (.seq .no .no)))))
theorem F40_eq (x0 x1 x2 : Value) (R : Value → World → Prop) (w0 : World) : F40 x0 x1 x2 R w0 = vc Try.prog (bodyOf Try.f40) a40 (retQ Try.prog Try.f40 R) (envOf 0 [x0, x1, x2]) w0 := by kernel_rfl
theorem F40_calls (x0 x1 x2 : Value) (R : Value → World → Prop) (w0 : World) (h : F40 x0 x1 x2 R w0) : CallK Try.prog 40 #[x0, x1, x2] R w0 :=
  calls_vc (c := bodyOf Try.f40) Try.func40 (by kernel_rfl) (by kernel_rfl) a40 (by kernel_rfl) (by kernel_rfl) [x0, x1, x2] (by rw [Try.ntmps40]; exact Nat.le_of_ble_eq_true rfl) w0 R ((F40_eq x0 x1 x2 R w0).mp h)

/-- (*canton/sorted.Map[string, int]).find$1, its body as a formula. -/
def F41 (x0 x1 : Value) (R : Value → World → Prop) (w0 : World) : Prop :=
  BoxK Try.prog 61 x0 (@hid _ ⟨fun t2_1 w2 =>
  FieldAtK Try.prog 61 t2_1 0 (@hid _ ⟨fun t5_3 w4 =>
  LoadK Try.prog 9 t5_3 (@hid _ ⟨fun t6_5 w6 =>
  CallV Try.prog (.func (.func 42) #[] #[]) #[t6_5, x1] (@hid _ ⟨fun t8_7 w8 =>
  R t8_7 w8⟩) w6⟩) w4⟩) w2⟩) w0
def a41 : Ann := (.seq .no (.seq .no .no))
theorem F41_eq (x0 x1 : Value) (R : Value → World → Prop) (w0 : World) : F41 x0 x1 R w0 = vc Try.prog (bodyOf Try.f41) a41 (retQ Try.prog Try.f41 R) (envOf 0 [x0, x1]) w0 := by kernel_rfl
theorem F41_calls (x0 x1 : Value) (R : Value → World → Prop) (w0 : World) (h : F41 x0 x1 R w0) : CallK Try.prog 41 #[x0, x1] R w0 :=
  calls_vc (c := bodyOf Try.f41) Try.func41 (by kernel_rfl) (by kernel_rfl) a41 (by kernel_rfl) (by kernel_rfl) [x0, x1] (by rw [Try.ntmps41]; exact Nat.le_of_ble_eq_true rfl) w0 R ((F41_eq x0 x1 R w0).mp h)

/-- cmp.Compare[string], its body as a formula. -/
def F42 (x0 x1 : Value) (R : Value → World → Prop) (w0 : World) : Prop :=
  CallV Try.prog (.func (.func 54) #[] #[]) #[x0] (@hid _ ⟨fun t8_1 w2 =>
  CallV Try.prog (.func (.func 54) #[] #[]) #[x1] (@hid _ ⟨fun t10_3 w4 =>
  BrK t8_1 (@hid _ ⟨
   BrK t10_3 (@hid _ ⟨
    R (Go.Value.int Go.IntKind.i64 0) w4⟩) (@hid _ ⟨
    R (Go.Value.int Go.IntKind.i64 (-1)) w4⟩)⟩) (@hid _ ⟨
   BrK t10_3 (@hid _ ⟨
    R (Go.Value.int Go.IntKind.i64 1) w4⟩) (@hid _ ⟨
    BinK Try.prog Go.BinOp.lss 9 x0 x1 (@hid _ ⟨fun t16_5 w6 =>
    BrK t16_5 (@hid _ ⟨
     R (Go.Value.int Go.IntKind.i64 (-1)) w6⟩) (@hid _ ⟨
     BinK Try.prog Go.BinOp.gtr 9 x0 x1 (@hid _ ⟨fun t19_7 w8 =>
     BrK t19_7 (@hid _ ⟨
      R (Go.Value.int Go.IntKind.i64 1) w8⟩) (@hid _ ⟨
      R (Go.Value.int Go.IntKind.i64 0) w8⟩)⟩) w6⟩)⟩) w4⟩)⟩)⟩) w2⟩) w0
def a42 : Ann := (.seq .no (.seq .no (.seq .no (.seq (.seq .no (.cond (.seq (.seq .no (.cond (.seq .no .no) .no)) (.seq .no .no)) .no)) (.seq (.seq .no (.cond (.seq .no .no) .no)) (.seq (.seq .no (.cond (.seq .no .no) .no)) (.seq (.seq .no (.cond (.seq .no .no) .no)) (.seq .no .no))))))))
theorem F42_eq (x0 x1 : Value) (R : Value → World → Prop) (w0 : World) : F42 x0 x1 R w0 = vc Try.prog (bodyOf Try.f42) a42 (retQ Try.prog Try.f42 R) (envOf 0 [x0, x1]) w0 := by kernel_rfl
theorem F42_calls (x0 x1 : Value) (R : Value → World → Prop) (w0 : World) (h : F42 x0 x1 R w0) : CallK Try.prog 42 #[x0, x1] R w0 :=
  calls_vc (c := bodyOf Try.f42) Try.func42 (by kernel_rfl) (by kernel_rfl) a42 (by kernel_rfl) (by kernel_rfl) [x0, x1] (by rw [Try.ntmps42]; exact Nat.le_of_ble_eq_true rfl) w0 R ((F42_eq x0 x1 R w0).mp h)

/-- slices.BinarySearchFunc[[]canton/sorted.pair[int64, string],canton/sorted.pair[int64, string],int64], its body as a formula. -/
def F45 (x0 x1 x2 : Value) (R : Value → World → Prop) (w0 : World) : Prop :=
  BuiltinK Try.prog Go.Builtin.len #[66] 3 #[false] #[x0] (@hid _ ⟨fun t13_1 w2 =>
  LoopK2 (Go.Value.int Go.IntKind.i64 0) t13_1 w2 (@hid _ ⟨fun _ x9_3 x10_4 w5 B6 =>
   BinK Try.prog Go.BinOp.lss 3 x9_3 x10_4 (@hid _ ⟨fun t17_7 w8 =>
   BrK t17_7 (@hid _ ⟨
    BinK Try.prog Go.BinOp.add 3 x9_3 x10_4 (@hid _ ⟨fun t20_9 w10 =>
    ConvK Try.prog 3 94 t20_9 (@hid _ ⟨fun t21_11 w12 =>
    BinK Try.prog Go.BinOp.shr 94 t21_11 (Go.Value.int Go.IntKind.u64 1) (@hid _ ⟨fun t22_13 w14 =>
    ConvK Try.prog 94 3 t22_13 (@hid _ ⟨fun t23_15 w16 =>
    IndexAtK Try.prog 66 x0 t23_15 (@hid _ ⟨fun t27_17 w18 =>
    LoadK Try.prog 71 t27_17 (@hid _ ⟨fun t28_19 w20 =>
    CallV Try.prog x2 #[t28_19, x1] (@hid _ ⟨fun t30_21 w22 =>
    BinK Try.prog Go.BinOp.lss 3 t30_21 (Go.Value.int Go.IntKind.i64 0) (@hid _ ⟨fun t31_23 w24 =>
    BrK t31_23 (@hid _ ⟨
     BinK Try.prog Go.BinOp.add 3 t23_15 (Go.Value.int Go.IntKind.i64 1) (@hid _ ⟨fun t33_25 w26 =>
     B6 t33_25 x10_4 w26⟩) w24⟩) (@hid _ ⟨
     B6 x9_3 t23_15 w24⟩)⟩) w22⟩) w20⟩) w18⟩) w16⟩) w14⟩) w12⟩) w10⟩) w8⟩) (@hid _ ⟨
    BinK Try.prog Go.BinOp.lss 3 x9_3 t13_1 (@hid _ ⟨fun t38_27 w28 =>
    GuardK t38_27 true (fun k w => k x2 w) (@hid _ ⟨fun t40_29 w30 =>
    GuardK t38_27 true (fun k w => k x0 w) (@hid _ ⟨fun t41_31 w32 =>
    GuardK t38_27 true (fun k w => k x9_3 w) (@hid _ ⟨fun t42_33 w34 =>
    GuardK t38_27 true (fun k w => IndexAtK Try.prog 66 t41_31 t42_33 k w) (@hid _ ⟨fun t43_35 w36 =>
    GuardK t38_27 true (fun k w => LoadK Try.prog 71 t43_35 k w) (@hid _ ⟨fun t44_37 w38 =>
    GuardK t38_27 true (fun k w => k x1 w) (@hid _ ⟨fun t45_39 w40 =>
    GuardK t38_27 true (fun k w => CallV Try.prog t40_29 #[t44_37, t45_39] k w) (@hid _ ⟨fun t46_41 w42 =>
    GuardK t38_27 true (fun k w => BinK Try.prog Go.BinOp.eql 3 t46_41 (Go.Value.int Go.IntKind.i64 0) k w) (@hid _ ⟨fun t47_43 w44 =>
    PickK Try.prog t38_27 t47_43 (Go.Value.bool false) (@hid _ ⟨fun t48_45 w46 =>
    R (.tuple #[x9_3, t48_45]) w46⟩) w44⟩) w42⟩) w40⟩) w38⟩) w36⟩) w34⟩) w32⟩) w30⟩) w28⟩) w8⟩)⟩) w5⟩)⟩) w0
def a45 : Ann := (.seq .no (.seq .no (.seq .no (.seq (.block (.loop [9, 10] [(11, 11), (15, 34)] (.seq (.seq .no (.cond .no .no)) (.block (.seq .no (.seq .no (.cond .no .no))))))) (.seq .no .no)))))
theorem F45_eq (x0 x1 x2 : Value) (R : Value → World → Prop) (w0 : World) : F45 x0 x1 x2 R w0 = vc Try.prog (bodyOf Try.f45) a45 (retQ Try.prog Try.f45 R) (envOf 0 [x0, x1, x2]) w0 := by kernel_rfl
theorem F45_calls (x0 x1 x2 : Value) (R : Value → World → Prop) (w0 : World) (h : F45 x0 x1 x2 R w0) : CallK Try.prog 45 #[x0, x1, x2] R w0 :=
  calls_vc (c := bodyOf Try.f45) Try.func45 (by kernel_rfl) (by kernel_rfl) a45 (by kernel_rfl) (by kernel_rfl) [x0, x1, x2] (by rw [Try.ntmps45]; exact Nat.le_of_ble_eq_true rfl) w0 R ((F45_eq x0 x1 x2 R w0).mp h)

/-- (*canton/sorted.Map[int64, string]).find$1, its body as a formula. -/
def F46 (x0 x1 : Value) (R : Value → World → Prop) (w0 : World) : Prop :=
  BoxK Try.prog 71 x0 (@hid _ ⟨fun t2_1 w2 =>
  FieldAtK Try.prog 71 t2_1 0 (@hid _ ⟨fun t5_3 w4 =>
  LoadK Try.prog 2 t5_3 (@hid _ ⟨fun t6_5 w6 =>
  CallV Try.prog (.func (.func 47) #[] #[]) #[t6_5, x1] (@hid _ ⟨fun t8_7 w8 =>
  R t8_7 w8⟩) w6⟩) w4⟩) w2⟩) w0
def a46 : Ann := (.seq .no (.seq .no .no))
theorem F46_eq (x0 x1 : Value) (R : Value → World → Prop) (w0 : World) : F46 x0 x1 R w0 = vc Try.prog (bodyOf Try.f46) a46 (retQ Try.prog Try.f46 R) (envOf 0 [x0, x1]) w0 := by kernel_rfl
theorem F46_calls (x0 x1 : Value) (R : Value → World → Prop) (w0 : World) (h : F46 x0 x1 R w0) : CallK Try.prog 46 #[x0, x1] R w0 :=
  calls_vc (c := bodyOf Try.f46) Try.func46 (by kernel_rfl) (by kernel_rfl) a46 (by kernel_rfl) (by kernel_rfl) [x0, x1] (by rw [Try.ntmps46]; exact Nat.le_of_ble_eq_true rfl) w0 R ((F46_eq x0 x1 R w0).mp h)

/-- cmp.Compare[int64], its body as a formula. -/
def F47 (x0 x1 : Value) (R : Value → World → Prop) (w0 : World) : Prop :=
  CallV Try.prog (.func (.func 56) #[] #[]) #[x0] (@hid _ ⟨fun t8_1 w2 =>
  CallV Try.prog (.func (.func 56) #[] #[]) #[x1] (@hid _ ⟨fun t10_3 w4 =>
  BrK t8_1 (@hid _ ⟨
   BrK t10_3 (@hid _ ⟨
    R (Go.Value.int Go.IntKind.i64 0) w4⟩) (@hid _ ⟨
    R (Go.Value.int Go.IntKind.i64 (-1)) w4⟩)⟩) (@hid _ ⟨
   BrK t10_3 (@hid _ ⟨
    R (Go.Value.int Go.IntKind.i64 1) w4⟩) (@hid _ ⟨
    BinK Try.prog Go.BinOp.lss 2 x0 x1 (@hid _ ⟨fun t16_5 w6 =>
    BrK t16_5 (@hid _ ⟨
     R (Go.Value.int Go.IntKind.i64 (-1)) w6⟩) (@hid _ ⟨
     BinK Try.prog Go.BinOp.gtr 2 x0 x1 (@hid _ ⟨fun t19_7 w8 =>
     BrK t19_7 (@hid _ ⟨
      R (Go.Value.int Go.IntKind.i64 1) w8⟩) (@hid _ ⟨
      R (Go.Value.int Go.IntKind.i64 0) w8⟩)⟩) w6⟩)⟩) w4⟩)⟩)⟩) w2⟩) w0
def a47 : Ann := (.seq .no (.seq .no (.seq .no (.seq (.seq .no (.cond (.seq (.seq .no (.cond (.seq .no .no) .no)) (.seq .no .no)) .no)) (.seq (.seq .no (.cond (.seq .no .no) .no)) (.seq (.seq .no (.cond (.seq .no .no) .no)) (.seq (.seq .no (.cond (.seq .no .no) .no)) (.seq .no .no))))))))
theorem F47_eq (x0 x1 : Value) (R : Value → World → Prop) (w0 : World) : F47 x0 x1 R w0 = vc Try.prog (bodyOf Try.f47) a47 (retQ Try.prog Try.f47 R) (envOf 0 [x0, x1]) w0 := by kernel_rfl
theorem F47_calls (x0 x1 : Value) (R : Value → World → Prop) (w0 : World) (h : F47 x0 x1 R w0) : CallK Try.prog 47 #[x0, x1] R w0 :=
  calls_vc (c := bodyOf Try.f47) Try.func47 (by kernel_rfl) (by kernel_rfl) a47 (by kernel_rfl) (by kernel_rfl) [x0, x1] (by rw [Try.ntmps47]; exact Nat.le_of_ble_eq_true rfl) w0 R ((F47_eq x0 x1 R w0).mp h)

/-- slices.BinarySearchFunc[[]canton/sorted.pair[string, bool],canton/sorted.pair[string, bool],string], its body as a formula. -/
def F50 (x0 x1 x2 : Value) (R : Value → World → Prop) (w0 : World) : Prop :=
  BuiltinK Try.prog Go.Builtin.len #[74] 3 #[false] #[x0] (@hid _ ⟨fun t13_1 w2 =>
  LoopK2 (Go.Value.int Go.IntKind.i64 0) t13_1 w2 (@hid _ ⟨fun _ x9_3 x10_4 w5 B6 =>
   BinK Try.prog Go.BinOp.lss 3 x9_3 x10_4 (@hid _ ⟨fun t17_7 w8 =>
   BrK t17_7 (@hid _ ⟨
    BinK Try.prog Go.BinOp.add 3 x9_3 x10_4 (@hid _ ⟨fun t20_9 w10 =>
    ConvK Try.prog 3 94 t20_9 (@hid _ ⟨fun t21_11 w12 =>
    BinK Try.prog Go.BinOp.shr 94 t21_11 (Go.Value.int Go.IntKind.u64 1) (@hid _ ⟨fun t22_13 w14 =>
    ConvK Try.prog 94 3 t22_13 (@hid _ ⟨fun t23_15 w16 =>
    IndexAtK Try.prog 74 x0 t23_15 (@hid _ ⟨fun t27_17 w18 =>
    LoadK Try.prog 78 t27_17 (@hid _ ⟨fun t28_19 w20 =>
    CallV Try.prog x2 #[t28_19, x1] (@hid _ ⟨fun t30_21 w22 =>
    BinK Try.prog Go.BinOp.lss 3 t30_21 (Go.Value.int Go.IntKind.i64 0) (@hid _ ⟨fun t31_23 w24 =>
    BrK t31_23 (@hid _ ⟨
     BinK Try.prog Go.BinOp.add 3 t23_15 (Go.Value.int Go.IntKind.i64 1) (@hid _ ⟨fun t33_25 w26 =>
     B6 t33_25 x10_4 w26⟩) w24⟩) (@hid _ ⟨
     B6 x9_3 t23_15 w24⟩)⟩) w22⟩) w20⟩) w18⟩) w16⟩) w14⟩) w12⟩) w10⟩) w8⟩) (@hid _ ⟨
    BinK Try.prog Go.BinOp.lss 3 x9_3 t13_1 (@hid _ ⟨fun t38_27 w28 =>
    GuardK t38_27 true (fun k w => k x2 w) (@hid _ ⟨fun t40_29 w30 =>
    GuardK t38_27 true (fun k w => k x0 w) (@hid _ ⟨fun t41_31 w32 =>
    GuardK t38_27 true (fun k w => k x9_3 w) (@hid _ ⟨fun t42_33 w34 =>
    GuardK t38_27 true (fun k w => IndexAtK Try.prog 74 t41_31 t42_33 k w) (@hid _ ⟨fun t43_35 w36 =>
    GuardK t38_27 true (fun k w => LoadK Try.prog 78 t43_35 k w) (@hid _ ⟨fun t44_37 w38 =>
    GuardK t38_27 true (fun k w => k x1 w) (@hid _ ⟨fun t45_39 w40 =>
    GuardK t38_27 true (fun k w => CallV Try.prog t40_29 #[t44_37, t45_39] k w) (@hid _ ⟨fun t46_41 w42 =>
    GuardK t38_27 true (fun k w => BinK Try.prog Go.BinOp.eql 3 t46_41 (Go.Value.int Go.IntKind.i64 0) k w) (@hid _ ⟨fun t47_43 w44 =>
    PickK Try.prog t38_27 t47_43 (Go.Value.bool false) (@hid _ ⟨fun t48_45 w46 =>
    R (.tuple #[x9_3, t48_45]) w46⟩) w44⟩) w42⟩) w40⟩) w38⟩) w36⟩) w34⟩) w32⟩) w30⟩) w28⟩) w8⟩)⟩) w5⟩)⟩) w0
def a50 : Ann := (.seq .no (.seq .no (.seq .no (.seq (.block (.loop [9, 10] [(11, 11), (15, 34)] (.seq (.seq .no (.cond .no .no)) (.block (.seq .no (.seq .no (.cond .no .no))))))) (.seq .no .no)))))
theorem F50_eq (x0 x1 x2 : Value) (R : Value → World → Prop) (w0 : World) : F50 x0 x1 x2 R w0 = vc Try.prog (bodyOf Try.f50) a50 (retQ Try.prog Try.f50 R) (envOf 0 [x0, x1, x2]) w0 := by kernel_rfl
theorem F50_calls (x0 x1 x2 : Value) (R : Value → World → Prop) (w0 : World) (h : F50 x0 x1 x2 R w0) : CallK Try.prog 50 #[x0, x1, x2] R w0 :=
  calls_vc (c := bodyOf Try.f50) Try.func50 (by kernel_rfl) (by kernel_rfl) a50 (by kernel_rfl) (by kernel_rfl) [x0, x1, x2] (by rw [Try.ntmps50]; exact Nat.le_of_ble_eq_true rfl) w0 R ((F50_eq x0 x1 x2 R w0).mp h)

/-- (*canton/sorted.Map[string, bool]).find$1, its body as a formula. -/
def F51 (x0 x1 : Value) (R : Value → World → Prop) (w0 : World) : Prop :=
  BoxK Try.prog 78 x0 (@hid _ ⟨fun t2_1 w2 =>
  FieldAtK Try.prog 78 t2_1 0 (@hid _ ⟨fun t5_3 w4 =>
  LoadK Try.prog 9 t5_3 (@hid _ ⟨fun t6_5 w6 =>
  CallV Try.prog (.func (.func 42) #[] #[]) #[t6_5, x1] (@hid _ ⟨fun t8_7 w8 =>
  R t8_7 w8⟩) w6⟩) w4⟩) w2⟩) w0
def a51 : Ann := (.seq .no (.seq .no .no))
theorem F51_eq (x0 x1 : Value) (R : Value → World → Prop) (w0 : World) : F51 x0 x1 R w0 = vc Try.prog (bodyOf Try.f51) a51 (retQ Try.prog Try.f51 R) (envOf 0 [x0, x1]) w0 := by kernel_rfl
theorem F51_calls (x0 x1 : Value) (R : Value → World → Prop) (w0 : World) (h : F51 x0 x1 R w0) : CallK Try.prog 51 #[x0, x1] R w0 :=
  calls_vc (c := bodyOf Try.f51) Try.func51 (by kernel_rfl) (by kernel_rfl) a51 (by kernel_rfl) (by kernel_rfl) [x0, x1] (by rw [Try.ntmps51]; exact Nat.le_of_ble_eq_true rfl) w0 R ((F51_eq x0 x1 R w0).mp h)

/-- cmp.isNaN[string], its body as a formula. -/
def F54 (x0 : Value) (R : Value → World → Prop) (w0 : World) : Prop :=
  BinK Try.prog Go.BinOp.neq 9 x0 x0 (@hid _ ⟨fun t5_1 w2 =>
  R t5_1 w2⟩) w0
def a54 : Ann := (.seq .no (.seq .no .no))
theorem F54_eq (x0 : Value) (R : Value → World → Prop) (w0 : World) : F54 x0 R w0 = vc Try.prog (bodyOf Try.f54) a54 (retQ Try.prog Try.f54 R) (envOf 0 [x0]) w0 := by kernel_rfl
theorem F54_calls (x0 : Value) (R : Value → World → Prop) (w0 : World) (h : F54 x0 R w0) : CallK Try.prog 54 #[x0] R w0 :=
  calls_vc (c := bodyOf Try.f54) Try.func54 (by kernel_rfl) (by kernel_rfl) a54 (by kernel_rfl) (by kernel_rfl) [x0] (by rw [Try.ntmps54]; exact Nat.le_of_ble_eq_true rfl) w0 R ((F54_eq x0 R w0).mp h)

/-- cmp.isNaN[int64], its body as a formula. -/
def F56 (x0 : Value) (R : Value → World → Prop) (w0 : World) : Prop :=
  BinK Try.prog Go.BinOp.neq 2 x0 x0 (@hid _ ⟨fun t5_1 w2 =>
  R t5_1 w2⟩) w0
def a56 : Ann := (.seq .no (.seq .no .no))
theorem F56_eq (x0 : Value) (R : Value → World → Prop) (w0 : World) : F56 x0 R w0 = vc Try.prog (bodyOf Try.f56) a56 (retQ Try.prog Try.f56 R) (envOf 0 [x0]) w0 := by kernel_rfl
theorem F56_calls (x0 : Value) (R : Value → World → Prop) (w0 : World) (h : F56 x0 R w0) : CallK Try.prog 56 #[x0] R w0 :=
  calls_vc (c := bodyOf Try.f56) Try.func56 (by kernel_rfl) (by kernel_rfl) a56 (by kernel_rfl) (by kernel_rfl) [x0] (by rw [Try.ntmps56]; exact Nat.le_of_ble_eq_true rfl) w0 R ((F56_eq x0 R w0).mp h)

end Go.Proofs.Ytmmcmbdooefndaa