import Derived.Test.YtgnekfifdmjeaaaRows
import Derived.Test.YtgnekfifdmjeaaaV2
set_option linter.unusedVariables false
set_option linter.unusedSimpArgs false
set_option maxRecDepth 100000
namespace Go.Proofs.Ytgnekfifdmjeaaa
open Go.RowKit Go.Cn
theorem klen22 (A : Option Addr) (n c : Nat) (K : Value → World → Prop) (w : World) : BuiltinK Try.prog .len #[22] 3 #[false] #[(.slice A n c)] K w = K (.int .i64 (n : Int)) w := by
  unfold BuiltinK; (first | (go_simp; rfl) | (go_simp; done))

theorem hlen22 (A : Option Addr) (n c : Nat) {K : Value → Prop} {w1 : World} : TakeO Try.prog (fun w' => w' = w1) (builtin .len #[22] 3 #[false] #[(.slice A n c)]) K = K (.int .i64 (n : Int)) := by
  exact here_o (fun w => by (first | (go_simp; rfl) | (go_simp; done)))

theorem kbgtr3 (x y : Int) (K : Value → World → Prop) (w : World) : BinK Try.prog .gtr 3 (.int .i64 x) (.int .i64 y) K w = K (.bool (decide (y < x))) w := by
  unfold BinK; (first | (go_simp; rfl) | (go_simp; done))

theorem kbeql24n (a : Addr) (K : Value → World → Prop) (w : World) : BinK Try.prog .eql 24 (.pointer (some a)) (.pointer none) K w = K (.bool false) w := by
  unfold BinK; (first | (go_simp; rfl) | (go_simp; done))

theorem kblss3 (x y : Int) (K : Value → World → Prop) (w : World) : BinK Try.prog .lss 3 (.int .i64 x) (.int .i64 y) K w = K (.bool (decide (x < y))) w := by
  unfold BinK; (first | (go_simp; rfl) | (go_simp; done))

theorem kia22 (g o n c : Nat) (i : Int) (h : 0 ≤ i ∧ i < (n : Int)) (K : Value → World → Prop) (w : World) : IndexAtK Try.prog 22 (.slice (some ⟨g, o, none⟩) n c) (.int .i64 i) K w = K (.pointer (some ⟨g, o + i.toNat * 3, none⟩)) w := by
  obtain ⟨h0, h1⟩ := h
  unfold IndexAtK; (first | (go_simp; rfl) | (go_simp; done))

theorem kld28 (g o : Nat) (K : Value → World → Prop) (w : World) : LoadK Try.prog 28 (.pointer (some ⟨g, o, none⟩)) K w = OptK (w.cell? ⟨g, o, none⟩) (@hid _ ⟨fun v0 => OptK (w.cell? ⟨g, o + 1, none⟩) (@hid _ ⟨fun v1 => OptK (w.cell? ⟨g, o + 2, none⟩) (@hid _ ⟨fun v2 => K (.agg #[v0, v1, v2]) w⟩) (LoadRaw Try.prog 28 ⟨g, o, none⟩ K w)⟩) (LoadRaw Try.prog 28 ⟨g, o, none⟩ K w)⟩) (LoadRaw Try.prog 28 ⟨g, o, none⟩ K w) := by
  cases h0 : w.cell? ⟨g, o, none⟩ with
  | none => rfl
  | some v0 =>
  cases h1 : w.cell? ⟨g, o + 1, none⟩ with
  | none => rfl
  | some v1 =>
  cases h2 : w.cell? ⟨g, o + 2, none⟩ with
  | none => rfl
  | some v2 =>
  simp only [optK_some]
  unfold LoadK; (first | (go_simp; rfl) | (go_simp; done))

theorem kal28 (K : Value → World → Prop) (w : World) : AllocK Try.prog 28 K w = K (.pointer (some ⟨w.heap.size, 0, none⟩)) (w.alloc (.cells #[.int .i64 0, .int .i64 0, .string ByteArray.empty] 28)) := by
  unfold AllocK; (first | (go_simp; rfl) | (go_simp; done))

theorem kst28f (v_0 : Int) (v_1 : Int) (v_2 : ByteArray) (z0 z1 z2 : Value) (K : Value → World → Prop) (w : World) : StoreK Try.prog 28 (.pointer (some ⟨w.heap.size, 0, none⟩)) (.agg #[(.int .i64 v_0), (.int .i64 v_1), (.string v_2)]) K (w.alloc (.cells #[z0, z1, z2] 28)) = K undef (w.alloc (.cells #[(.int .i64 v_0), (.int .i64 v_1), (.string v_2)] 28)) := by
  unfold StoreK; (first | (go_simp; rfl) | (go_simp; done))

theorem kfa28_2 (g o : Nat) (K : Value → World → Prop) (w : World) : FieldAtK Try.prog 28 (.pointer (some ⟨g, o, none⟩)) 2 K w = K (.pointer (some ⟨g, o + 2, none⟩)) w := by
  unfold FieldAtK; (first | (go_simp; rfl) | (go_simp; done))

theorem kld9 (a : Addr) (K : Value → World → Prop) (w : World) : LoadK Try.prog 9 (.pointer (some a)) K w = OptK (w.cell? a) (@hid _ ⟨fun v => K v w⟩) (LoadRaw Try.prog 9 a K w) := by
  exact loadK_eq Try.underlying9 rfl a K w

theorem klen9 (s : ByteArray) (K : Value → World → Prop) (w : World) : BuiltinK Try.prog .len #[9] 3 #[false] #[(.string s)] K w = K (.int .i64 (s.size : Int)) w := by
  unfold BuiltinK; (first | (go_simp; rfl) | (go_simp; done))

theorem hlen9 (s : ByteArray) {K : Value → Prop} {w1 : World} : TakeO Try.prog (fun w' => w' = w1) (builtin .len #[9] 3 #[false] #[(.string s)]) K = K (.int .i64 (s.size : Int)) := by
  exact here_o (fun w => by (first | (go_simp; rfl) | (go_simp; done)))

theorem klen26 (A : Option Addr) (n c : Nat) (K : Value → World → Prop) (w : World) : BuiltinK Try.prog .len #[26] 3 #[false] #[(.slice A n c)] K w = K (.int .i64 (n : Int)) w := by
  unfold BuiltinK; (first | (go_simp; rfl) | (go_simp; done))

theorem hlen26 (A : Option Addr) (n c : Nat) {K : Value → Prop} {w1 : World} : TakeO Try.prog (fun w' => w' = w1) (builtin .len #[26] 3 #[false] #[(.slice A n c)]) K = K (.int .i64 (n : Int)) := by
  exact here_o (fun w => by (first | (go_simp; rfl) | (go_simp; done)))

theorem kfa28_1 (g o : Nat) (K : Value → World → Prop) (w : World) : FieldAtK Try.prog 28 (.pointer (some ⟨g, o, none⟩)) 1 K w = K (.pointer (some ⟨g, o + 1, none⟩)) w := by
  unfold FieldAtK; (first | (go_simp; rfl) | (go_simp; done))

theorem kld3 (a : Addr) (K : Value → World → Prop) (w : World) : LoadK Try.prog 3 (.pointer (some a)) K w = OptK (w.cell? a) (@hid _ ⟨fun v => K v w⟩) (LoadRaw Try.prog 3 a K w) := by
  exact loadK_eq Try.underlying3 rfl a K w

theorem kfa28_0 (g o : Nat) (K : Value → World → Prop) (w : World) : FieldAtK Try.prog 28 (.pointer (some ⟨g, o, none⟩)) 0 K w = K (.pointer (some ⟨g, o, none⟩)) w := by
  unfold FieldAtK; (first | (go_simp; rfl) | (go_simp; done))

theorem kbeql3 (x y : Int) (K : Value → World → Prop) (w : World) : BinK Try.prog .eql 3 (.int .i64 x) (.int .i64 y) K w = K (.bool (x == y)) w := by
  unfold BinK; (first | (go_simp; rfl) | (go_simp; done))

theorem kbgeq3 (x y : Int) (K : Value → World → Prop) (w : World) : BinK Try.prog .geq 3 (.int .i64 x) (.int .i64 y) K w = K (.bool (decide (y ≤ x))) w := by
  unfold BinK; (first | (go_simp; rfl) | (go_simp; done))

theorem kbneq3 (x y : Int) (K : Value → World → Prop) (w : World) : BinK Try.prog .neq 3 (.int .i64 x) (.int .i64 y) K w = K (.bool (x != y)) w := by
  unfold BinK; (first | (go_simp; rfl) | (go_simp; done))

theorem kbs26_0  (K : Value → World → Prop) (w : World) : BuildSliceK Try.prog 26 0 #[] K w = K (.slice (some ⟨w.heap.size, 0, none⟩) 0 0) (w.alloc (.cells #[] 9)) := by
  unfold BuildSliceK; (first | (go_simp; rfl) | (go_simp; done))

theorem kbs26_1_0 (v0 : ByteArray) (K : Value → World → Prop) (w : World) : BuildSliceK Try.prog 26 1 #[(0, (.string v0))] K w = K (.slice (some ⟨w.heap.size, 0, none⟩) 1 1) (w.alloc (.cells #[(.string v0)] 9)) := by
  unfold BuildSliceK; (first | (go_simp; rfl) | (go_simp; done))

theorem kbneq4 (x y : Bool) (K : Value → World → Prop) (w : World) : BinK Try.prog .neq 4 (.bool x) (.bool y) K w = K (.bool (x != y)) w := by
  cases x <;> cases y <;> (unfold BinK; (first | (go_simp; rfl) | (go_simp; done)))

theorem kia26 (g o n c : Nat) (i : Int) (h : 0 ≤ i ∧ i < (n : Int)) (K : Value → World → Prop) (w : World) : IndexAtK Try.prog 26 (.slice (some ⟨g, o, none⟩) n c) (.int .i64 i) K w = K (.pointer (some ⟨g, o + i.toNat, none⟩)) w := by
  obtain ⟨h0, h1⟩ := h
  unfold IndexAtK; (first | (go_simp; rfl) | (go_simp; done))

theorem kbneq9 (x y : ByteArray) (K : Value → World → Prop) (w : World) : BinK Try.prog .neq 9 (.string x) (.string y) K w = K (.bool (!(x.toList == y.toList))) w := by
  unfold BinK; (first | (go_simp; rfl) | (go_simp; done))

theorem ksl26_010 (g o n c : Nat) (h : Int) (hb : 0 ≤ h ∧ h ≤ (c : Int)) (K : Value → World → Prop) (w : World) : SliceK Try.prog 26 (.slice (some ⟨g, o, none⟩) n c) none (some (.int .i64 h)) none K w = K (.slice (some ⟨g, o, none⟩) h.toNat c) w := by
  obtain ⟨q0, q1⟩ := hb
  unfold SliceK; (first | (go_simp; rfl) | (go_simp; done) | (go_simp; split <;> simp_all))

theorem kbadd3 (x y : Int) (K : Value → World → Prop) (w : World) : BinK Try.prog .add 3 (.int .i64 x) (.int .i64 y) K w = K (.int .i64 (IntKind.i64.wrap (x + y))) w := by
  unfold BinK; (first | (go_simp; rfl) | (go_simp; done))

theorem ksl26_100 (g o n c : Nat) (l : Int) (hb : 0 ≤ l ∧ l ≤ (n : Int)) (K : Value → World → Prop) (w : World) : SliceK Try.prog 26 (.slice (some ⟨g, o, none⟩) n c) (some (.int .i64 l)) none none K w = K (.slice (if c = l.toNat then some ⟨g, o, none⟩ else some ⟨g, o + l.toNat, none⟩) (n - l.toNat) (c - l.toNat)) w := by
  obtain ⟨q0, q1⟩ := hb
  unfold SliceK; (first | (go_simp; rfl) | (go_simp; done) | (go_simp; split <;> simp_all))

theorem klen37 (A : Option Addr) (n c : Nat) (K : Value → World → Prop) (w : World) : BuiltinK Try.prog .len #[37] 3 #[false] #[(.slice A n c)] K w = K (.int .i64 (n : Int)) w := by
  unfold BuiltinK; (first | (go_simp; rfl) | (go_simp; done))

theorem hlen37 (A : Option Addr) (n c : Nat) {K : Value → Prop} {w1 : World} : TakeO Try.prog (fun w' => w' = w1) (builtin .len #[37] 3 #[false] #[(.slice A n c)]) K = K (.int .i64 (n : Int)) := by
  exact here_o (fun w => by (first | (go_simp; rfl) | (go_simp; done)))

theorem kbs37_0  (K : Value → World → Prop) (w : World) : BuildSliceK Try.prog 37 0 #[] K w = K (.slice (some ⟨w.heap.size, 0, none⟩) 0 0) (w.alloc (.cells #[] 2)) := by
  unfold BuildSliceK; (first | (go_simp; rfl) | (go_simp; done))

theorem kia37 (g o n c : Nat) (i : Int) (h : 0 ≤ i ∧ i < (n : Int)) (K : Value → World → Prop) (w : World) : IndexAtK Try.prog 37 (.slice (some ⟨g, o, none⟩) n c) (.int .i64 i) K w = K (.pointer (some ⟨g, o + i.toNat, none⟩)) w := by
  obtain ⟨h0, h1⟩ := h
  unfold IndexAtK; (first | (go_simp; rfl) | (go_simp; done))

theorem kld2 (a : Addr) (K : Value → World → Prop) (w : World) : LoadK Try.prog 2 (.pointer (some a)) K w = OptK (w.cell? a) (@hid _ ⟨fun v => K v w⟩) (LoadRaw Try.prog 2 a K w) := by
  exact loadK_eq Try.underlying2 rfl a K w

theorem klen38 (A : Option Addr) (n c : Nat) (K : Value → World → Prop) (w : World) : BuiltinK Try.prog .len #[38] 3 #[false] #[(.slice A n c)] K w = K (.int .i64 (n : Int)) w := by
  unfold BuiltinK; (first | (go_simp; rfl) | (go_simp; done))

theorem hlen38 (A : Option Addr) (n c : Nat) {K : Value → Prop} {w1 : World} : TakeO Try.prog (fun w' => w' = w1) (builtin .len #[38] 3 #[false] #[(.slice A n c)]) K = K (.int .i64 (n : Int)) := by
  exact here_o (fun w => by (first | (go_simp; rfl) | (go_simp; done)))

theorem kia38 (g o n c : Nat) (i : Int) (h : 0 ≤ i ∧ i < (n : Int)) (K : Value → World → Prop) (w : World) : IndexAtK Try.prog 38 (.slice (some ⟨g, o, none⟩) n c) (.int .i64 i) K w = K (.pointer (some ⟨g, o + i.toNat, none⟩)) w := by
  obtain ⟨h0, h1⟩ := h
  unfold IndexAtK; (first | (go_simp; rfl) | (go_simp; done))

theorem kbneq2 (x y : Int) (K : Value → World → Prop) (w : World) : BinK Try.prog .neq 2 (.int .i64 x) (.int .i64 y) K w = K (.bool (x != y)) w := by
  unfold BinK; (first | (go_simp; rfl) | (go_simp; done))

theorem ksl37_010 (g o n c : Nat) (h : Int) (hb : 0 ≤ h ∧ h ≤ (c : Int)) (K : Value → World → Prop) (w : World) : SliceK Try.prog 37 (.slice (some ⟨g, o, none⟩) n c) none (some (.int .i64 h)) none K w = K (.slice (some ⟨g, o, none⟩) h.toNat c) w := by
  obtain ⟨q0, q1⟩ := hb
  unfold SliceK; (first | (go_simp; rfl) | (go_simp; done) | (go_simp; split <;> simp_all))

theorem ksl37_100 (g o n c : Nat) (l : Int) (hb : 0 ≤ l ∧ l ≤ (n : Int)) (K : Value → World → Prop) (w : World) : SliceK Try.prog 37 (.slice (some ⟨g, o, none⟩) n c) (some (.int .i64 l)) none none K w = K (.slice (if c = l.toNat then some ⟨g, o, none⟩ else some ⟨g, o + l.toNat, none⟩) (n - l.toNat) (c - l.toNat)) w := by
  obtain ⟨q0, q1⟩ := hb
  unfold SliceK; (first | (go_simp; rfl) | (go_simp; done) | (go_simp; split <;> simp_all))

theorem kbrem5 (x y : Int) (h : 0 ≤ x ∧ 1 ≤ y ∧ x ≤ 255) (K : Value → World → Prop) (w : World) : BinK Try.prog .rem 5 (.int .u8 x) (.int .u8 y) K w = K (.int .u8 (x % y)) w := by
  obtain ⟨h0, h1, h2⟩ := h
  have h3 : ¬ y = 0 := by omega
  have h4 : x.tmod y = x % y := Int.tmod_eq_emod_of_nonneg h0
  have h5 : x.tdiv y = x / y := Int.tdiv_eq_ediv_of_nonneg h0
  unfold BinK; (first | (go_simp; rfl) | (go_simp; done))

theorem kcv5_3 (x : Int) (K : Value → World → Prop) (w : World) : ConvK Try.prog 5 3 (.int .u8 x) K w = K (.int .i64 (IntKind.i64.wrap x)) w := by
  unfold ConvK; (first | (go_simp; rfl) | (go_simp; done))

theorem kbsub3 (x y : Int) (K : Value → World → Prop) (w : World) : BinK Try.prog .sub 3 (.int .i64 x) (.int .i64 y) K w = K (.int .i64 (IntKind.i64.wrap (x - y))) w := by
  unfold BinK; (first | (go_simp; rfl) | (go_simp; done))

theorem kbeql4 (x y : Bool) (K : Value → World → Prop) (w : World) : BinK Try.prog .eql 4 (.bool x) (.bool y) K w = K (.bool (x == y)) w := by
  cases x <;> cases y <;> (unfold BinK; (first | (go_simp; rfl) | (go_simp; done)))

theorem kbeql9 (x y : ByteArray) (K : Value → World → Prop) (w : World) : BinK Try.prog .eql 9 (.string x) (.string y) K w = K (.bool (x.toList == y.toList)) w := by
  unfold BinK; (first | (go_simp; rfl) | (go_simp; done))

theorem kmax3_ft (x y : Int) (K : Value → World → Prop) (w : World) : BuiltinK Try.prog .max #[3, 3] 3 #[false, true] #[.int .i64 x, .int .i64 y] K w = K (.int .i64 (if x < y then y else x)) w := by
  unfold BuiltinK; by_cases h : x < y <;> by_cases h2 : y < x <;> (first | (exfalso; omega) | (simp only [h, h2, if_true, if_false]; go_simp; rfl) | (go_simp; done) | (go_simp; omega))

theorem kbd52_0 (v0 : Int) (K : Value → World → Prop) (w : World) : BuildK Try.prog 52 #[(0, (.int .i64 v0))] K w = K (.agg #[(.int .i64 v0), .slice none 0 0]) w := by
  unfold BuildK; (first | (go_simp; rfl) | (go_simp; done))

theorem kbx52 (v_0 : Int) (v_1A : Option Addr) (v_1n v_1c : Nat) (K : Value → World → Prop) (w : World) : BoxK Try.prog 52 (.agg #[(.int .i64 v_0), (.slice v_1A v_1n v_1c)]) K w = K (.pointer (some ⟨w.heap.size, 0, none⟩)) (w.alloc (.cells #[(.int .i64 v_0), (.slice v_1A v_1n v_1c)] 52)) := by
  unfold BoxK; (first | (go_simp; rfl) | (go_simp; done))

theorem kbrem3 (x y : Int) (h : 0 ≤ x ∧ 1 ≤ y ∧ x ≤ 9223372036854775807) (K : Value → World → Prop) (w : World) : BinK Try.prog .rem 3 (.int .i64 x) (.int .i64 y) K w = K (.int .i64 (x % y)) w := by
  obtain ⟨h0, h1, h2⟩ := h
  have h3 : ¬ y = 0 := by omega
  have h4 : x.tmod y = x % y := Int.tmod_eq_emod_of_nonneg h0
  have h5 : x.tdiv y = x / y := Int.tdiv_eq_ediv_of_nonneg h0
  unfold BinK; (first | (go_simp; rfl) | (go_simp; done))

theorem kfa52_1 (g o : Nat) (K : Value → World → Prop) (w : World) : FieldAtK Try.prog 52 (.pointer (some ⟨g, o, none⟩)) 1 K w = K (.pointer (some ⟨g, o + 1, none⟩)) w := by
  unfold FieldAtK; (first | (go_simp; rfl) | (go_simp; done))

theorem kld26 (a : Addr) (K : Value → World → Prop) (w : World) : LoadK Try.prog 26 (.pointer (some a)) K w = OptK (w.cell? a) (@hid _ ⟨fun v => K v w⟩) (LoadRaw Try.prog 26 a K w) := by
  exact loadK_eq Try.underlying26 rfl a K w

theorem kfa52_0 (g o : Nat) (K : Value → World → Prop) (w : World) : FieldAtK Try.prog 52 (.pointer (some ⟨g, o, none⟩)) 0 K w = K (.pointer (some ⟨g, o, none⟩)) w := by
  unfold FieldAtK; (first | (go_simp; rfl) | (go_simp; done))

theorem kst26 (g o : Nat) (vA : Option Addr) (vn vc : Nat) (K : Value → World → Prop) (w : World) : StoreK Try.prog 26 (.pointer (some ⟨g, o, none⟩)) (.slice vA vn vc) K w = OptK (w.cell? ⟨g, o, none⟩) (@hid _ ⟨fun _ => FzK (w.frozen? ⟨g, o, none⟩) (@hid _ ⟨K undef (w.setCell ⟨g, o, none⟩ (.slice vA vn vc))⟩) (StoreRaw Try.prog 26 ⟨g, o, none⟩ (.slice vA vn vc) K w)⟩) (StoreRaw Try.prog 26 ⟨g, o, none⟩ (.slice vA vn vc) K w) := by
  cases h0 : w.cell? ⟨g, o, none⟩ with
  | none => rfl
  | some x =>
  cases f0 : w.frozen? ⟨g, o, none⟩ with
  | true => rfl
  | false =>
  simp only [optK_some, fzK_false]
  unfold StoreK; (first | (go_simp; rfl) | (go_simp; done))

theorem kbd55_0 (v0 : Int) (K : Value → World → Prop) (w : World) : BuildK Try.prog 55 #[(0, (.int .i64 v0))] K w = K (.agg #[(.int .i64 v0), .slice none 0 0]) w := by
  unfold BuildK; (first | (go_simp; rfl) | (go_simp; done))

theorem kbx55 (v_0 : Int) (v_1A : Option Addr) (v_1n v_1c : Nat) (K : Value → World → Prop) (w : World) : BoxK Try.prog 55 (.agg #[(.int .i64 v_0), (.slice v_1A v_1n v_1c)]) K w = K (.pointer (some ⟨w.heap.size, 0, none⟩)) (w.alloc (.cells #[(.int .i64 v_0), (.slice v_1A v_1n v_1c)] 55)) := by
  unfold BoxK; (first | (go_simp; rfl) | (go_simp; done))

theorem kfa55_1 (g o : Nat) (K : Value → World → Prop) (w : World) : FieldAtK Try.prog 55 (.pointer (some ⟨g, o, none⟩)) 1 K w = K (.pointer (some ⟨g, o + 1, none⟩)) w := by
  unfold FieldAtK; (first | (go_simp; rfl) | (go_simp; done))

theorem kld37 (a : Addr) (K : Value → World → Prop) (w : World) : LoadK Try.prog 37 (.pointer (some a)) K w = OptK (w.cell? a) (@hid _ ⟨fun v => K v w⟩) (LoadRaw Try.prog 37 a K w) := by
  exact loadK_eq Try.underlying37 rfl a K w

theorem kfa55_0 (g o : Nat) (K : Value → World → Prop) (w : World) : FieldAtK Try.prog 55 (.pointer (some ⟨g, o, none⟩)) 0 K w = K (.pointer (some ⟨g, o, none⟩)) w := by
  unfold FieldAtK; (first | (go_simp; rfl) | (go_simp; done))

theorem kbs37_1_0 (v0 : Int) (K : Value → World → Prop) (w : World) : BuildSliceK Try.prog 37 1 #[(0, (.int .i64 v0))] K w = K (.slice (some ⟨w.heap.size, 0, none⟩) 1 1) (w.alloc (.cells #[(.int .i64 v0)] 2)) := by
  unfold BuildSliceK; (first | (go_simp; rfl) | (go_simp; done))

theorem kst37 (g o : Nat) (vA : Option Addr) (vn vc : Nat) (K : Value → World → Prop) (w : World) : StoreK Try.prog 37 (.pointer (some ⟨g, o, none⟩)) (.slice vA vn vc) K w = OptK (w.cell? ⟨g, o, none⟩) (@hid _ ⟨fun _ => FzK (w.frozen? ⟨g, o, none⟩) (@hid _ ⟨K undef (w.setCell ⟨g, o, none⟩ (.slice vA vn vc))⟩) (StoreRaw Try.prog 37 ⟨g, o, none⟩ (.slice vA vn vc) K w)⟩) (StoreRaw Try.prog 37 ⟨g, o, none⟩ (.slice vA vn vc) K w) := by
  cases h0 : w.cell? ⟨g, o, none⟩ with
  | none => rfl
  | some x =>
  cases f0 : w.frozen? ⟨g, o, none⟩ with
  | true => rfl
  | false =>
  simp only [optK_some, fzK_false]
  unfold StoreK; (first | (go_simp; rfl) | (go_simp; done))

theorem kbd58_0 (v0 : Int) (K : Value → World → Prop) (w : World) : BuildK Try.prog 58 #[(0, (.int .i64 v0))] K w = K (.agg #[(.int .i64 v0), .slice none 0 0]) w := by
  unfold BuildK; (first | (go_simp; rfl) | (go_simp; done))

theorem kbx58 (v_0 : Int) (v_1A : Option Addr) (v_1n v_1c : Nat) (K : Value → World → Prop) (w : World) : BoxK Try.prog 58 (.agg #[(.int .i64 v_0), (.slice v_1A v_1n v_1c)]) K w = K (.pointer (some ⟨w.heap.size, 0, none⟩)) (w.alloc (.cells #[(.int .i64 v_0), (.slice v_1A v_1n v_1c)] 58)) := by
  unfold BoxK; (first | (go_simp; rfl) | (go_simp; done))

theorem kfa58_1 (g o : Nat) (K : Value → World → Prop) (w : World) : FieldAtK Try.prog 58 (.pointer (some ⟨g, o, none⟩)) 1 K w = K (.pointer (some ⟨g, o + 1, none⟩)) w := by
  unfold FieldAtK; (first | (go_simp; rfl) | (go_simp; done))

theorem kld38 (a : Addr) (K : Value → World → Prop) (w : World) : LoadK Try.prog 38 (.pointer (some a)) K w = OptK (w.cell? a) (@hid _ ⟨fun v => K v w⟩) (LoadRaw Try.prog 38 a K w) := by
  exact loadK_eq Try.underlying38 rfl a K w

theorem kfa58_0 (g o : Nat) (K : Value → World → Prop) (w : World) : FieldAtK Try.prog 58 (.pointer (some ⟨g, o, none⟩)) 0 K w = K (.pointer (some ⟨g, o, none⟩)) w := by
  unfold FieldAtK; (first | (go_simp; rfl) | (go_simp; done))

theorem kbs38_1_0 (v0 : Int) (K : Value → World → Prop) (w : World) : BuildSliceK Try.prog 38 1 #[(0, (.int .i64 v0))] K w = K (.slice (some ⟨w.heap.size, 0, none⟩) 1 1) (w.alloc (.cells #[(.int .i64 v0)] 3)) := by
  unfold BuildSliceK; (first | (go_simp; rfl) | (go_simp; done))

theorem kst38 (g o : Nat) (vA : Option Addr) (vn vc : Nat) (K : Value → World → Prop) (w : World) : StoreK Try.prog 38 (.pointer (some ⟨g, o, none⟩)) (.slice vA vn vc) K w = OptK (w.cell? ⟨g, o, none⟩) (@hid _ ⟨fun _ => FzK (w.frozen? ⟨g, o, none⟩) (@hid _ ⟨K undef (w.setCell ⟨g, o, none⟩ (.slice vA vn vc))⟩) (StoreRaw Try.prog 38 ⟨g, o, none⟩ (.slice vA vn vc) K w)⟩) (StoreRaw Try.prog 38 ⟨g, o, none⟩ (.slice vA vn vc) K w) := by
  cases h0 : w.cell? ⟨g, o, none⟩ with
  | none => rfl
  | some x =>
  cases f0 : w.frozen? ⟨g, o, none⟩ with
  | true => rfl
  | false =>
  simp only [optK_some, fzK_false]
  unfold StoreK; (first | (go_simp; rfl) | (go_simp; done))

theorem ksl26_110 (g o n c : Nat) (l : Int) (h : Int) (hb : 0 ≤ l ∧ l ≤ h ∧ h ≤ (c : Int)) (K : Value → World → Prop) (w : World) : SliceK Try.prog 26 (.slice (some ⟨g, o, none⟩) n c) (some (.int .i64 l)) (some (.int .i64 h)) none K w = K (.slice (if c = l.toNat then some ⟨g, o, none⟩ else some ⟨g, o + l.toNat, none⟩) (h.toNat - l.toNat) (c - l.toNat)) w := by
  obtain ⟨q0, q1, q2⟩ := hb
  unfold SliceK; (first | (go_simp; rfl) | (go_simp; done) | (go_simp; split <;> simp_all))

theorem ksl37_110 (g o n c : Nat) (l : Int) (h : Int) (hb : 0 ≤ l ∧ l ≤ h ∧ h ≤ (c : Int)) (K : Value → World → Prop) (w : World) : SliceK Try.prog 37 (.slice (some ⟨g, o, none⟩) n c) (some (.int .i64 l)) (some (.int .i64 h)) none K w = K (.slice (if c = l.toNat then some ⟨g, o, none⟩ else some ⟨g, o + l.toNat, none⟩) (h.toNat - l.toNat) (c - l.toNat)) w := by
  obtain ⟨q0, q1, q2⟩ := hb
  unfold SliceK; (first | (go_simp; rfl) | (go_simp; done) | (go_simp; split <;> simp_all))

theorem ksl38_010 (g o n c : Nat) (h : Int) (hb : 0 ≤ h ∧ h ≤ (c : Int)) (K : Value → World → Prop) (w : World) : SliceK Try.prog 38 (.slice (some ⟨g, o, none⟩) n c) none (some (.int .i64 h)) none K w = K (.slice (some ⟨g, o, none⟩) h.toNat c) w := by
  obtain ⟨q0, q1⟩ := hb
  unfold SliceK; (first | (go_simp; rfl) | (go_simp; done) | (go_simp; split <;> simp_all))

theorem ksl38_100 (g o n c : Nat) (l : Int) (hb : 0 ≤ l ∧ l ≤ (n : Int)) (K : Value → World → Prop) (w : World) : SliceK Try.prog 38 (.slice (some ⟨g, o, none⟩) n c) (some (.int .i64 l)) none none K w = K (.slice (if c = l.toNat then some ⟨g, o, none⟩ else some ⟨g, o + l.toNat, none⟩) (n - l.toNat) (c - l.toNat)) w := by
  obtain ⟨q0, q1⟩ := hb
  unfold SliceK; (first | (go_simp; rfl) | (go_simp; done) | (go_simp; split <;> simp_all))

theorem ksl38_110 (g o n c : Nat) (l : Int) (h : Int) (hb : 0 ≤ l ∧ l ≤ h ∧ h ≤ (c : Int)) (K : Value → World → Prop) (w : World) : SliceK Try.prog 38 (.slice (some ⟨g, o, none⟩) n c) (some (.int .i64 l)) (some (.int .i64 h)) none K w = K (.slice (if c = l.toNat then some ⟨g, o, none⟩ else some ⟨g, o + l.toNat, none⟩) (h.toNat - l.toNat) (c - l.toNat)) w := by
  obtain ⟨q0, q1, q2⟩ := hb
  unfold SliceK; (first | (go_simp; rfl) | (go_simp; done) | (go_simp; split <;> simp_all))

theorem cv3 {args : Array Value} {K : Value → World → Prop} {w : World} {v : Value} {R : World → Prop} (h : Calls Try.prog 3 args w fun e w' => e = .returned v ∧ R w') (hk : ∀ w', R w' → K v w') : CallV Try.prog (.func (.func 3) #[] #[]) args K w := callV_of Try.func3 (by kernel_rfl) (by kernel_rfl) h hk
theorem cv4 {args : Array Value} {K : Value → World → Prop} {w : World} {v : Value} {R : World → Prop} (h : Calls Try.prog 4 args w fun e w' => e = .returned v ∧ R w') (hk : ∀ w', R w' → K v w') : CallV Try.prog (.func (.func 4) #[] #[]) args K w := callV_of Try.func4 (by kernel_rfl) (by kernel_rfl) h hk
theorem cv5 {args : Array Value} {K : Value → World → Prop} {w : World} {v : Value} {R : World → Prop} (h : Calls Try.prog 5 args w fun e w' => e = .returned v ∧ R w') (hk : ∀ w', R w' → K v w') : CallV Try.prog (.func (.func 5) #[] #[]) args K w := callV_of Try.func5 (by kernel_rfl) (by kernel_rfl) h hk
theorem cv6 {args : Array Value} {K : Value → World → Prop} {w : World} {v : Value} {R : World → Prop} (h : Calls Try.prog 6 args w fun e w' => e = .returned v ∧ R w') (hk : ∀ w', R w' → K v w') : CallV Try.prog (.func (.func 6) #[] #[]) args K w := callV_of Try.func6 (by kernel_rfl) (by kernel_rfl) h hk
theorem cv7 {args : Array Value} {K : Value → World → Prop} {w : World} {v : Value} {R : World → Prop} (h : Calls Try.prog 7 args w fun e w' => e = .returned v ∧ R w') (hk : ∀ w', R w' → K v w') : CallV Try.prog (.func (.func 7) #[] #[]) args K w := callV_of Try.func7 (by kernel_rfl) (by kernel_rfl) h hk
theorem cv8 {args : Array Value} {K : Value → World → Prop} {w : World} {v : Value} {R : World → Prop} (h : Calls Try.prog 8 args w fun e w' => e = .returned v ∧ R w') (hk : ∀ w', R w' → K v w') : CallV Try.prog (.func (.func 8) #[] #[]) args K w := callV_of Try.func8 (by kernel_rfl) (by kernel_rfl) h hk
theorem cv9 {args : Array Value} {K : Value → World → Prop} {w : World} {v : Value} {R : World → Prop} (h : Calls Try.prog 9 args w fun e w' => e = .returned v ∧ R w') (hk : ∀ w', R w' → K v w') : CallV Try.prog (.func (.func 9) #[] #[]) args K w := callV_of Try.func9 (by kernel_rfl) (by kernel_rfl) h hk
theorem cv10 {args : Array Value} {K : Value → World → Prop} {w : World} {v : Value} {R : World → Prop} (h : Calls Try.prog 10 args w fun e w' => e = .returned v ∧ R w') (hk : ∀ w', R w' → K v w') : CallV Try.prog (.func (.func 10) #[] #[]) args K w := callV_of Try.func10 (by kernel_rfl) (by kernel_rfl) h hk
theorem cv11 {args : Array Value} {K : Value → World → Prop} {w : World} {v : Value} {R : World → Prop} (h : Calls Try.prog 11 args w fun e w' => e = .returned v ∧ R w') (hk : ∀ w', R w' → K v w') : CallV Try.prog (.func (.func 11) #[] #[]) args K w := callV_of Try.func11 (by kernel_rfl) (by kernel_rfl) h hk
theorem cv12 {args : Array Value} {K : Value → World → Prop} {w : World} {v : Value} {R : World → Prop} (h : Calls Try.prog 12 args w fun e w' => e = .returned v ∧ R w') (hk : ∀ w', R w' → K v w') : CallV Try.prog (.func (.func 12) #[] #[]) args K w := callV_of Try.func12 (by kernel_rfl) (by kernel_rfl) h hk
theorem cv13 {args : Array Value} {K : Value → World → Prop} {w : World} {v : Value} {R : World → Prop} (h : Calls Try.prog 13 args w fun e w' => e = .returned v ∧ R w') (hk : ∀ w', R w' → K v w') : CallV Try.prog (.func (.func 13) #[] #[]) args K w := callV_of Try.func13 (by kernel_rfl) (by kernel_rfl) h hk
theorem cv14 {args : Array Value} {K : Value → World → Prop} {w : World} {v : Value} {R : World → Prop} (h : Calls Try.prog 14 args w fun e w' => e = .returned v ∧ R w') (hk : ∀ w', R w' → K v w') : CallV Try.prog (.func (.func 14) #[] #[]) args K w := callV_of Try.func14 (by kernel_rfl) (by kernel_rfl) h hk
theorem cv15 {args : Array Value} {K : Value → World → Prop} {w : World} {v : Value} {R : World → Prop} (h : Calls Try.prog 15 args w fun e w' => e = .returned v ∧ R w') (hk : ∀ w', R w' → K v w') : CallV Try.prog (.func (.func 15) #[] #[]) args K w := callV_of Try.func15 (by kernel_rfl) (by kernel_rfl) h hk
theorem cv16 {args : Array Value} {K : Value → World → Prop} {w : World} {v : Value} {R : World → Prop} (h : Calls Try.prog 16 args w fun e w' => e = .returned v ∧ R w') (hk : ∀ w', R w' → K v w') : CallV Try.prog (.func (.func 16) #[] #[]) args K w := callV_of Try.func16 (by kernel_rfl) (by kernel_rfl) h hk
theorem cv17 {args : Array Value} {K : Value → World → Prop} {w : World} {v : Value} {R : World → Prop} (h : Calls Try.prog 17 args w fun e w' => e = .returned v ∧ R w') (hk : ∀ w', R w' → K v w') : CallV Try.prog (.func (.func 17) #[] #[]) args K w := callV_of Try.func17 (by kernel_rfl) (by kernel_rfl) h hk
theorem cv18 {args : Array Value} {K : Value → World → Prop} {w : World} {v : Value} {R : World → Prop} (h : Calls Try.prog 18 args w fun e w' => e = .returned v ∧ R w') (hk : ∀ w', R w' → K v w') : CallV Try.prog (.func (.func 18) #[] #[]) args K w := callV_of Try.func18 (by kernel_rfl) (by kernel_rfl) h hk
theorem cv19 {args : Array Value} {K : Value → World → Prop} {w : World} {v : Value} {R : World → Prop} (h : Calls Try.prog 19 args w fun e w' => e = .returned v ∧ R w') (hk : ∀ w', R w' → K v w') : CallV Try.prog (.func (.func 19) #[] #[]) args K w := callV_of Try.func19 (by kernel_rfl) (by kernel_rfl) h hk
theorem cv20 {args : Array Value} {K : Value → World → Prop} {w : World} {v : Value} {R : World → Prop} (h : Calls Try.prog 20 args w fun e w' => e = .returned v ∧ R w') (hk : ∀ w', R w' → K v w') : CallV Try.prog (.func (.func 20) #[] #[]) args K w := callV_of Try.func20 (by kernel_rfl) (by kernel_rfl) h hk
theorem cv21 {args : Array Value} {K : Value → World → Prop} {w : World} {v : Value} {R : World → Prop} (h : Calls Try.prog 21 args w fun e w' => e = .returned v ∧ R w') (hk : ∀ w', R w' → K v w') : CallV Try.prog (.func (.func 21) #[] #[]) args K w := callV_of Try.func21 (by kernel_rfl) (by kernel_rfl) h hk
theorem cv22 {args : Array Value} {K : Value → World → Prop} {w : World} {v : Value} {R : World → Prop} (h : Calls Try.prog 22 args w fun e w' => e = .returned v ∧ R w') (hk : ∀ w', R w' → K v w') : CallV Try.prog (.func (.func 22) #[] #[]) args K w := callV_of Try.func22 (by kernel_rfl) (by kernel_rfl) h hk
theorem cv23 {args : Array Value} {K : Value → World → Prop} {w : World} {v : Value} {R : World → Prop} (h : Calls Try.prog 23 args w fun e w' => e = .returned v ∧ R w') (hk : ∀ w', R w' → K v w') : CallV Try.prog (.func (.func 23) #[] #[]) args K w := callV_of Try.func23 (by kernel_rfl) (by kernel_rfl) h hk
theorem cv24 {args : Array Value} {K : Value → World → Prop} {w : World} {v : Value} {R : World → Prop} (h : Calls Try.prog 24 args w fun e w' => e = .returned v ∧ R w') (hk : ∀ w', R w' → K v w') : CallV Try.prog (.func (.func 24) #[] #[]) args K w := callV_of Try.func24 (by kernel_rfl) (by kernel_rfl) h hk
theorem cv25 {args : Array Value} {K : Value → World → Prop} {w : World} {v : Value} {R : World → Prop} (h : Calls Try.prog 25 args w fun e w' => e = .returned v ∧ R w') (hk : ∀ w', R w' → K v w') : CallV Try.prog (.func (.func 25) #[] #[]) args K w := callV_of Try.func25 (by kernel_rfl) (by kernel_rfl) h hk
theorem cv26 {args : Array Value} {K : Value → World → Prop} {w : World} {v : Value} {R : World → Prop} (h : Calls Try.prog 26 args w fun e w' => e = .returned v ∧ R w') (hk : ∀ w', R w' → K v w') : CallV Try.prog (.func (.func 26) #[] #[]) args K w := callV_of Try.func26 (by kernel_rfl) (by kernel_rfl) h hk
theorem cv27 {args : Array Value} {K : Value → World → Prop} {w : World} {v : Value} {R : World → Prop} (h : Calls Try.prog 27 args w fun e w' => e = .returned v ∧ R w') (hk : ∀ w', R w' → K v w') : CallV Try.prog (.func (.func 27) #[] #[]) args K w := callV_of Try.func27 (by kernel_rfl) (by kernel_rfl) h hk
theorem cv28 {args : Array Value} {K : Value → World → Prop} {w : World} {v : Value} {R : World → Prop} (h : Calls Try.prog 28 args w fun e w' => e = .returned v ∧ R w') (hk : ∀ w', R w' → K v w') : CallV Try.prog (.func (.func 28) #[] #[]) args K w := callV_of Try.func28 (by kernel_rfl) (by kernel_rfl) h hk
theorem cv29 {args : Array Value} {K : Value → World → Prop} {w : World} {v : Value} {R : World → Prop} (h : Calls Try.prog 29 args w fun e w' => e = .returned v ∧ R w') (hk : ∀ w', R w' → K v w') : CallV Try.prog (.func (.func 29) #[] #[]) args K w := callV_of Try.func29 (by kernel_rfl) (by kernel_rfl) h hk
theorem cv30 {args : Array Value} {K : Value → World → Prop} {w : World} {v : Value} {R : World → Prop} (h : Calls Try.prog 30 args w fun e w' => e = .returned v ∧ R w') (hk : ∀ w', R w' → K v w') : CallV Try.prog (.func (.func 30) #[] #[]) args K w := callV_of Try.func30 (by kernel_rfl) (by kernel_rfl) h hk
theorem cv31 {args : Array Value} {K : Value → World → Prop} {w : World} {v : Value} {R : World → Prop} (h : Calls Try.prog 31 args w fun e w' => e = .returned v ∧ R w') (hk : ∀ w', R w' → K v w') : CallV Try.prog (.func (.func 31) #[] #[]) args K w := callV_of Try.func31 (by kernel_rfl) (by kernel_rfl) h hk

/-- canton/cantonlaw23.BagPlays, its body as a formula. -/
def F3 (x0 x1 : Value) (R : Value → World → Prop) (w0 : World) : Prop :=
  CallV Try.prog (.func (.func 6) #[] #[]) #[] (@hid _ ⟨fun t18_1 w2 =>
  UnK Try.prog Go.UnOp.not t18_1 (@hid _ ⟨fun t19_3 w4 =>
  BrK t19_3 (@hid _ ⟨
   R (Go.Value.bool false) w4⟩) (@hid _ ⟨
   BuiltinK Try.prog Go.Builtin.len #[22] 3 #[false] #[x1] (@hid _ ⟨fun t21_5 w6 =>
   BinK Try.prog Go.BinOp.gtr 3 t21_5 (Go.Value.int Go.IntKind.i64 100) (@hid _ ⟨fun t22_7 w8 =>
   BrK t22_7 (@hid _ ⟨
    R (Go.Value.bool true) w8⟩) (@hid _ ⟨
    CallV Try.prog (.func (.func 7) #[] #[]) #[x0] (@hid _ ⟨fun t24_9 w10 =>
    BinK Try.prog Go.BinOp.eql 24 t24_9 (Go.Value.pointer none) (@hid _ ⟨fun t26_11 w12 =>
    BrK t26_11 (@hid _ ⟨
     R (Go.Value.bool false) w12⟩) (@hid _ ⟨
     CutK1 (@hid _ ⟨fun R13 =>
      BinK Try.prog Go.BinOp.lss 3 x0 (Go.Value.int Go.IntKind.i64 1) (@hid _ ⟨fun t28_16 w17 =>
      BrK t28_16 (@hid _ ⟨
       R13 (Go.Value.int Go.IntKind.i64 1) w17⟩) (@hid _ ⟨
       R13 x0 w17⟩)⟩) w12⟩)
     (@hid _ ⟨fun _ x0_14 w15 =>
      LoopK2 (Go.Value.slice none 0 0) (Go.Value.int Go.IntKind.i64 0) w15 (@hid _ ⟨fun _ x6_18 x7_19 w20 B21 =>
       BuiltinK Try.prog Go.Builtin.len #[22] 3 #[false] #[x1] (@hid _ ⟨fun t31_22 w23 =>
       BinK Try.prog Go.BinOp.lss 3 x7_19 t31_22 (@hid _ ⟨fun t32_24 w25 =>
       BrK t32_24 (@hid _ ⟨
        IndexAtK Try.prog 22 x1 x7_19 (@hid _ ⟨fun t37_26 w27 =>
        LoadK Try.prog 28 t37_26 (@hid _ ⟨fun t38_28 w29 =>
        AllocK Try.prog 28 (@hid _ ⟨fun t8_30 w31 =>
        StoreK Try.prog 28 t8_30 t38_28 (@hid _ ⟨fun tu_32 w33 =>
        FieldAtK Try.prog 28 t8_30 2 (@hid _ ⟨fun t39_34 w35 =>
        LoadK Try.prog 9 t39_34 (@hid _ ⟨fun t40_36 w37 =>
        BuiltinK Try.prog Go.Builtin.len #[9] 3 #[false] #[t40_36] (@hid _ ⟨fun t41_38 w39 =>
        BinK Try.prog Go.BinOp.gtr 3 t41_38 (Go.Value.int Go.IntKind.i64 100) (@hid _ ⟨fun t42_40 w41 =>
        BrK t42_40 (@hid _ ⟨
         R (Go.Value.bool true) w41⟩) (@hid _ ⟨
         CutK1 (@hid _ ⟨fun R42 =>
          BuiltinK Try.prog Go.Builtin.len #[26] 3 #[false] #[x6_18] (@hid _ ⟨fun t44_45 w46 =>
          BinK Try.prog Go.BinOp.gtr 3 t44_45 (Go.Value.int Go.IntKind.i64 0) (@hid _ ⟨fun t45_47 w48 =>
          BrK t45_47 (@hid _ ⟨
           FieldAtK Try.prog 28 t8_30 1 (@hid _ ⟨fun t46_49 w50 =>
           LoadK Try.prog 3 t46_49 (@hid _ ⟨fun t47_51 w52 =>
           BuiltinK Try.prog Go.Builtin.len #[26] 3 #[false] #[x6_18] (@hid _ ⟨fun t49_53 w54 =>
           CallV Try.prog (.func (.func 8) #[] #[]) #[t47_51, t49_53] (@hid _ ⟨fun t50_55 w56 =>
           R42 t50_55 w56⟩) w54⟩) w52⟩) w50⟩) w48⟩) (@hid _ ⟨
           R42 (Go.Value.int Go.IntKind.i64 0) w48⟩)⟩) w46⟩) w41⟩)
         (@hid _ ⟨fun _ x9_43 w44 =>
          CutK1 (@hid _ ⟨fun R57 =>
           FieldAtK Try.prog 28 t8_30 0 (@hid _ ⟨fun t51_60 w61 =>
           LoadK Try.prog 3 t51_60 (@hid _ ⟨fun t52_62 w63 =>
           BinK Try.prog Go.BinOp.eql 3 t52_62 (Go.Value.int Go.IntKind.i64 1) (@hid _ ⟨fun t54_64 w65 =>
           BrK t54_64 (@hid _ ⟨
            FieldAtK Try.prog 28 t8_30 2 (@hid _ ⟨fun t56_66 w67 =>
            LoadK Try.prog 9 t56_66 (@hid _ ⟨fun t57_68 w69 =>
            CallV Try.prog (.func (.func 9) #[] #[]) #[t24_9, t57_68] (@hid _ ⟨fun t58_70 w71 =>
            BuiltinK Try.prog Go.Builtin.len #[26] 3 #[false] #[x6_18] (@hid _ ⟨fun t60_72 w73 =>
            BinK Try.prog Go.BinOp.geq 3 t60_72 x0_14 (@hid _ ⟨fun t62_74 w75 =>
            GuardK t62_74 true (fun k w => k t58_70 w) (@hid _ ⟨fun t64_76 w77 =>
            GuardK t62_74 true (fun k w => BinK Try.prog Go.BinOp.neq 3 t64_76 (Go.Value.int Go.IntKind.i64 9) k w) (@hid _ ⟨fun t65_78 w79 =>
            PickK Try.prog t62_74 t65_78 (Go.Value.bool false) (@hid _ ⟨fun t66_80 w81 =>
            GuardK t66_80 false (fun k w => k x6_18 w) (@hid _ ⟨fun t68_82 w83 =>
            GuardK t66_80 false (fun k w => BuiltinK Try.prog Go.Builtin.len #[26] 3 #[false] #[t68_82] k w) (@hid _ ⟨fun t69_84 w85 =>
            GuardK t66_80 false (fun k w => k x0_14 w) (@hid _ ⟨fun t70_86 w87 =>
            GuardK t66_80 false (fun k w => BinK Try.prog Go.BinOp.lss 3 t69_84 t70_86 k w) (@hid _ ⟨fun t71_88 w89 =>
            GuardK t66_80 false (fun k w => k t71_88 w) (@hid _ ⟨fun t72_90 w91 =>
            GuardK t72_90 true (fun k w => k t58_70 w) (@hid _ ⟨fun t73_92 w93 =>
            GuardK t72_90 true (fun k w => BinK Try.prog Go.BinOp.neq 3 t73_92 (Go.Value.int Go.IntKind.i64 0) k w) (@hid _ ⟨fun t74_94 w95 =>
            GuardK t66_80 false (fun k w => PickK Try.prog t72_90 t74_94 (Go.Value.bool false) k w) (@hid _ ⟨fun t75_96 w97 =>
            PickK Try.prog t66_80 (Go.Value.bool true) t75_96 (@hid _ ⟨fun t76_98 w99 =>
            BrK t76_98 (@hid _ ⟨
             R (Go.Value.bool false) w99⟩) (@hid _ ⟨
             BinK Try.prog Go.BinOp.eql 3 t58_70 (Go.Value.int Go.IntKind.i64 0) (@hid _ ⟨fun t78_100 w101 =>
             BrK t78_100 (@hid _ ⟨
              DrawK (@hid _ ⟨fun S102 w103 =>
              TakeS Try.prog S102 (Instr.fieldAt 28 t8_30 2) (@hid _ ⟨fun t82_104 =>
              TakeS Try.prog S102 (Instr.loadAt 9 t82_104) (@hid _ ⟨fun t83_105 =>
              (BuildSliceK Try.prog 26 0 #[] (@hid _ ⟨fun t79_106 w107 =>
              S102 w107 ∧
              (BuiltinK Try.prog Go.Builtin.append #[26, 26] 26 #[false, false] #[t79_106, x6_18] (@hid _ ⟨fun t81_108 w109 =>
              S102 w109 ∧
              (BuildSliceK Try.prog 26 1 #[(0, t83_105)] (@hid _ ⟨fun t84_110 w111 =>
              S102 w111 ∧
              (BuiltinK Try.prog Go.Builtin.append #[26, 26] 26 #[false, false] #[t81_108, t84_110] (@hid _ ⟨fun t85_112 w113 =>
              S102 w113 ∧
              R57 t85_112 w113⟩) w111) ∧
              True⟩) w109) ∧
              True⟩) w107) ∧
              (BuildSliceK Try.prog 26 1 #[(0, t83_105)] (@hid _ ⟨fun t84_114 w115 =>
              S102 w115 ∧
              (BuiltinK Try.prog Go.Builtin.append #[26, 26] 26 #[false, false] #[t79_106, x6_18] (@hid _ ⟨fun t81_116 w117 =>
              S102 w117 ∧
              (BuiltinK Try.prog Go.Builtin.append #[26, 26] 26 #[false, false] #[t81_116, t84_114] (@hid _ ⟨fun t85_118 w119 =>
              S102 w119 ∧
              R57 t85_118 w119⟩) w117) ∧
              True⟩) w115) ∧
              True⟩) w107) ∧
              True⟩) w103) ∧
              (BuildSliceK Try.prog 26 1 #[(0, t83_105)] (@hid _ ⟨fun t84_120 w121 =>
              S102 w121 ∧
              (BuildSliceK Try.prog 26 0 #[] (@hid _ ⟨fun t79_122 w123 =>
              S102 w123 ∧
              (BuiltinK Try.prog Go.Builtin.append #[26, 26] 26 #[false, false] #[t79_122, x6_18] (@hid _ ⟨fun t81_124 w125 =>
              S102 w125 ∧
              (BuiltinK Try.prog Go.Builtin.append #[26, 26] 26 #[false, false] #[t81_124, t84_120] (@hid _ ⟨fun t85_126 w127 =>
              S102 w127 ∧
              R57 t85_126 w127⟩) w125) ∧
              True⟩) w123) ∧
              True⟩) w121) ∧
              True⟩) w103) ∧
              True⟩)⟩)⟩) w101⟩) (@hid _ ⟨
              R57 x6_18 w101⟩)⟩) w99⟩)⟩) w97⟩) w95⟩) w93⟩) w91⟩) w89⟩) w87⟩) w85⟩) w83⟩) w81⟩) w79⟩) w77⟩) w75⟩) w73⟩) w71⟩) w69⟩) w67⟩) w65⟩) (@hid _ ⟨
            CutK1 (@hid _ ⟨fun R128 =>
             BinK Try.prog Go.BinOp.eql 3 t52_62 (Go.Value.int Go.IntKind.i64 2) (@hid _ ⟨fun t87_131 w132 =>
             BrK t87_131 (@hid _ ⟨
              R128 t87_131 w132⟩) (@hid _ ⟨
              BinK Try.prog Go.BinOp.eql 3 t52_62 (Go.Value.int Go.IntKind.i64 4) (@hid _ ⟨fun t88_133 w134 =>
              R128 t88_133 w134⟩) w132⟩)⟩) w65⟩)
            (@hid _ ⟨fun _ x86_129 w130 =>
             BrK x86_129 (@hid _ ⟨
              FieldAtK Try.prog 28 t8_30 1 (@hid _ ⟨fun t91_135 w136 =>
              LoadK Try.prog 3 t91_135 (@hid _ ⟨fun t92_137 w138 =>
              CallV Try.prog (.func (.func 10) #[] #[]) #[t24_9, t92_137] (@hid _ ⟨fun t93_139 w140 =>
              ExtractK Try.prog t93_139 0 (@hid _ ⟨fun t94_141 w142 =>
              ExtractK Try.prog t93_139 1 (@hid _ ⟨fun t95_143 w144 =>
              CutK2 (@hid _ ⟨fun R145 =>
               FieldAtK Try.prog 28 t8_30 0 (@hid _ ⟨fun t96_149 w150 =>
               LoadK Try.prog 3 t96_149 (@hid _ ⟨fun t97_151 w152 =>
               BinK Try.prog Go.BinOp.eql 3 t97_151 (Go.Value.int Go.IntKind.i64 2) (@hid _ ⟨fun t98_153 w154 =>
               BrK t98_153 (@hid _ ⟨
                FieldAtK Try.prog 28 t8_30 1 (@hid _ ⟨fun t101_155 w156 =>
                LoadK Try.prog 3 t101_155 (@hid _ ⟨fun t102_157 w158 =>
                CallV Try.prog (.func (.func 11) #[] #[]) #[t24_9, t102_157] (@hid _ ⟨fun t103_159 w160 =>
                ExtractK Try.prog t103_159 0 (@hid _ ⟨fun t104_161 w162 =>
                ExtractK Try.prog t103_159 1 (@hid _ ⟨fun t105_163 w164 =>
                R145 t104_161 t105_163 w164⟩) w162⟩) w160⟩) w158⟩) w156⟩) w154⟩) (@hid _ ⟨
                R145 t94_141 t95_143 w154⟩)⟩) w152⟩) w150⟩) w144⟩)
              (@hid _ ⟨fun _ x11_146 x12_147 w148 =>
               BuiltinK Try.prog Go.Builtin.len #[26] 3 #[false] #[x6_18] (@hid _ ⟨fun t108_165 w166 =>
               BinK Try.prog Go.BinOp.gtr 3 t108_165 (Go.Value.int Go.IntKind.i64 0) (@hid _ ⟨fun t109_167 w168 =>
               BinK Try.prog Go.BinOp.neq 4 x12_147 t109_167 (@hid _ ⟨fun t110_169 w170 =>
               GuardK t110_169 false (fun k w => k x12_147 w) (@hid _ ⟨fun t112_171 w172 =>
               GuardK t110_169 false (fun k w => k t112_171 w) (@hid _ ⟨fun t113_173 w174 =>
               GuardK t113_173 true (fun k w => k x11_146 w) (@hid _ ⟨fun t114_175 w176 =>
               GuardK t113_173 true (fun k w => k x6_18 w) (@hid _ ⟨fun t115_177 w178 =>
               GuardK t113_173 true (fun k w => k x9_43 w) (@hid _ ⟨fun t116_179 w180 =>
               GuardK t113_173 true (fun k w => IndexAtK Try.prog 26 t115_177 t116_179 k w) (@hid _ ⟨fun t117_181 w182 =>
               GuardK t113_173 true (fun k w => LoadK Try.prog 9 t117_181 k w) (@hid _ ⟨fun t118_183 w184 =>
               GuardK t113_173 true (fun k w => BinK Try.prog Go.BinOp.neq 9 t114_175 t118_183 k w) (@hid _ ⟨fun t119_185 w186 =>
               GuardK t110_169 false (fun k w => PickK Try.prog t113_173 t119_185 (Go.Value.bool false) k w) (@hid _ ⟨fun t120_187 w188 =>
               PickK Try.prog t110_169 (Go.Value.bool true) t120_187 (@hid _ ⟨fun t121_189 w190 =>
               GuardK t121_189 false (fun k w => k x12_147 w) (@hid _ ⟨fun t123_191 w192 =>
               GuardK t121_189 false (fun k w => UnK Try.prog Go.UnOp.not t123_191 k w) (@hid _ ⟨fun t124_193 w194 =>
               GuardK t121_189 false (fun k w => k t124_193 w) (@hid _ ⟨fun t125_195 w196 =>
               GuardK t125_195 true (fun k w => k x11_146 w) (@hid _ ⟨fun t126_197 w198 =>
               GuardK t125_195 true (fun k w => BinK Try.prog Go.BinOp.neq 9 t126_197 (Go.Value.string { data := #[] }) k w) (@hid _ ⟨fun t127_199 w200 =>
               GuardK t121_189 false (fun k w => PickK Try.prog t125_195 t127_199 (Go.Value.bool false) k w) (@hid _ ⟨fun t128_201 w202 =>
               PickK Try.prog t121_189 (Go.Value.bool true) t128_201 (@hid _ ⟨fun t129_203 w204 =>
               BrK t129_203 (@hid _ ⟨
                R (Go.Value.bool false) w204⟩) (@hid _ ⟨
                GuardK x12_147 true (fun k w => FieldAtK Try.prog 28 t8_30 0 k w) (@hid _ ⟨fun t132_205 w206 =>
                GuardK x12_147 true (fun k w => LoadK Try.prog 3 t132_205 k w) (@hid _ ⟨fun t133_207 w208 =>
                GuardK x12_147 true (fun k w => BinK Try.prog Go.BinOp.eql 3 t133_207 (Go.Value.int Go.IntKind.i64 2) k w) (@hid _ ⟨fun t134_209 w210 =>
                PickK Try.prog x12_147 t134_209 (Go.Value.bool false) (@hid _ ⟨fun t135_211 w212 =>
                BrK t135_211 (@hid _ ⟨
                 DrawK (@hid _ ⟨fun S213 w214 =>
                 TakeS Try.prog S213 (Instr.sliceAt 26 x6_18 none (some x9_43) none) (@hid _ ⟨fun t139_215 =>
                 BinT Try.prog S213 Go.BinOp.add 3 x9_43 (Go.Value.int Go.IntKind.i64 1) (@hid _ ⟨fun t143_216 =>
                 TakeS Try.prog S213 (Instr.sliceAt 26 x6_18 (some t143_216) none none) (@hid _ ⟨fun t144_217 =>
                 (BuildSliceK Try.prog 26 0 #[] (@hid _ ⟨fun t136_218 w219 =>
                 S213 w219 ∧
                 (BuiltinK Try.prog Go.Builtin.append #[26, 26] 26 #[false, false] #[t136_218, t139_215] (@hid _ ⟨fun t140_220 w221 =>
                 S213 w221 ∧
                 (BuiltinK Try.prog Go.Builtin.append #[26, 26] 26 #[false, false] #[t140_220, t144_217] (@hid _ ⟨fun t145_222 w223 =>
                 S213 w223 ∧
                 R57 t145_222 w223⟩) w221) ∧
                 True⟩) w219) ∧
                 True⟩) w214) ∧
                 True⟩)⟩)⟩)⟩) w212⟩) (@hid _ ⟨
                 R57 x6_18 w212⟩)⟩) w210⟩) w208⟩) w206⟩) w204⟩)⟩) w202⟩) w200⟩) w198⟩) w196⟩) w194⟩) w192⟩) w190⟩) w188⟩) w186⟩) w184⟩) w182⟩) w180⟩) w178⟩) w176⟩) w174⟩) w172⟩) w170⟩) w168⟩) w166⟩) w148⟩)⟩) w142⟩) w140⟩) w138⟩) w136⟩) w130⟩) (@hid _ ⟨
              BinK Try.prog Go.BinOp.eql 3 t52_62 (Go.Value.int Go.IntKind.i64 3) (@hid _ ⟨fun t147_224 w225 =>
              BrK t147_224 (@hid _ ⟨
               FieldAtK Try.prog 28 t8_30 1 (@hid _ ⟨fun t149_226 w227 =>
               LoadK Try.prog 3 t149_226 (@hid _ ⟨fun t150_228 w229 =>
               CallV Try.prog (.func (.func 12) #[] #[]) #[t24_9, t150_228] (@hid _ ⟨fun t151_230 w231 =>
               CutK1 (@hid _ ⟨fun R232 =>
                BuiltinK Try.prog Go.Builtin.len #[26] 3 #[false] #[x6_18] (@hid _ ⟨fun t154_235 w236 =>
                BinK Try.prog Go.BinOp.eql 3 t154_235 (Go.Value.int Go.IntKind.i64 0) (@hid _ ⟨fun t155_237 w238 =>
                BrK t155_237 (@hid _ ⟨
                 R232 (Go.Value.int Go.IntKind.i64 8) w238⟩) (@hid _ ⟨
                 BuiltinK Try.prog Go.Builtin.len #[26] 3 #[false] #[x6_18] (@hid _ ⟨fun t158_239 w240 =>
                 BinK Try.prog Go.BinOp.geq 3 t158_239 x0_14 (@hid _ ⟨fun t160_241 w242 =>
                 BrK t160_241 (@hid _ ⟨
                  R232 (Go.Value.int Go.IntKind.i64 9) w242⟩) (@hid _ ⟨
                  R232 (Go.Value.int Go.IntKind.i64 0) w242⟩)⟩) w240⟩) w238⟩)⟩) w236⟩) w231⟩)
               (@hid _ ⟨fun _ x14_233 w234 =>
                BinK Try.prog Go.BinOp.neq 3 t151_230 x14_233 (@hid _ ⟨fun t163_243 w244 =>
                BrK t163_243 (@hid _ ⟨
                 R (Go.Value.bool false) w244⟩) (@hid _ ⟨
                 BinK Try.prog Go.BinOp.eql 3 x14_233 (Go.Value.int Go.IntKind.i64 0) (@hid _ ⟨fun t165_245 w246 =>
                 BrK t165_245 (@hid _ ⟨
                  DrawK (@hid _ ⟨fun S247 w248 =>
                  TakeS Try.prog S247 (Instr.indexAt 26 x6_18 x9_43) (@hid _ ⟨fun t171_249 =>
                  TakeS Try.prog S247 (Instr.loadAt 9 t171_249) (@hid _ ⟨fun t172_250 =>
                  (BuildSliceK Try.prog 26 0 #[] (@hid _ ⟨fun t166_251 w252 =>
                  S247 w252 ∧
                  (BuiltinK Try.prog Go.Builtin.append #[26, 26] 26 #[false, false] #[t166_251, x6_18] (@hid _ ⟨fun t168_253 w254 =>
                  S247 w254 ∧
                  (BuildSliceK Try.prog 26 1 #[(0, t172_250)] (@hid _ ⟨fun t173_255 w256 =>
                  S247 w256 ∧
                  (BuiltinK Try.prog Go.Builtin.append #[26, 26] 26 #[false, false] #[t168_253, t173_255] (@hid _ ⟨fun t174_257 w258 =>
                  S247 w258 ∧
                  R57 t174_257 w258⟩) w256) ∧
                  True⟩) w254) ∧
                  True⟩) w252) ∧
                  (BuildSliceK Try.prog 26 1 #[(0, t172_250)] (@hid _ ⟨fun t173_259 w260 =>
                  S247 w260 ∧
                  (BuiltinK Try.prog Go.Builtin.append #[26, 26] 26 #[false, false] #[t166_251, x6_18] (@hid _ ⟨fun t168_261 w262 =>
                  S247 w262 ∧
                  (BuiltinK Try.prog Go.Builtin.append #[26, 26] 26 #[false, false] #[t168_261, t173_259] (@hid _ ⟨fun t174_263 w264 =>
                  S247 w264 ∧
                  R57 t174_263 w264⟩) w262) ∧
                  True⟩) w260) ∧
                  True⟩) w252) ∧
                  True⟩) w248) ∧
                  (BuildSliceK Try.prog 26 1 #[(0, t172_250)] (@hid _ ⟨fun t173_265 w266 =>
                  S247 w266 ∧
                  (BuildSliceK Try.prog 26 0 #[] (@hid _ ⟨fun t166_267 w268 =>
                  S247 w268 ∧
                  (BuiltinK Try.prog Go.Builtin.append #[26, 26] 26 #[false, false] #[t166_267, x6_18] (@hid _ ⟨fun t168_269 w270 =>
                  S247 w270 ∧
                  (BuiltinK Try.prog Go.Builtin.append #[26, 26] 26 #[false, false] #[t168_269, t173_265] (@hid _ ⟨fun t174_271 w272 =>
                  S247 w272 ∧
                  R57 t174_271 w272⟩) w270) ∧
                  True⟩) w268) ∧
                  True⟩) w266) ∧
                  True⟩) w248) ∧
                  True⟩)⟩)⟩) w246⟩) (@hid _ ⟨
                  R57 x6_18 w246⟩)⟩) w244⟩)⟩) w234⟩)⟩) w229⟩) w227⟩) w225⟩) (@hid _ ⟨
               BinK Try.prog Go.BinOp.eql 3 t52_62 (Go.Value.int Go.IntKind.i64 5) (@hid _ ⟨fun t176_273 w274 =>
               BrK t176_273 (@hid _ ⟨
                CallV Try.prog (.func (.func 13) #[] #[]) #[t24_9] (@hid _ ⟨fun t178_275 w276 =>
                BuiltinK Try.prog Go.Builtin.len #[26] 3 #[false] #[x6_18] (@hid _ ⟨fun t180_277 w278 =>
                BinK Try.prog Go.BinOp.neq 3 t178_275 t180_277 (@hid _ ⟨fun t181_279 w280 =>
                BrK t181_279 (@hid _ ⟨
                 R (Go.Value.bool false) w280⟩) (@hid _ ⟨
                 R57 (Go.Value.slice none 0 0) w280⟩)⟩) w278⟩) w276⟩) w274⟩) (@hid _ ⟨
                R57 x6_18 w274⟩)⟩) w225⟩)⟩) w130⟩)⟩)⟩)⟩) w63⟩) w61⟩) w44⟩)
          (@hid _ ⟨fun _ x6_58 w59 =>
           CallV Try.prog (.func (.func 14) #[] #[]) #[t24_9] (@hid _ ⟨fun t183_281 w282 =>
           BuiltinK Try.prog Go.Builtin.len #[26] 3 #[false] #[x6_58] (@hid _ ⟨fun t185_283 w284 =>
           BinK Try.prog Go.BinOp.neq 3 t183_281 t185_283 (@hid _ ⟨fun t186_285 w286 =>
           BrK t186_285 (@hid _ ⟨
            R (Go.Value.bool false) w286⟩) (@hid _ ⟨
            BinK Try.prog Go.BinOp.add 3 x7_19 (Go.Value.int Go.IntKind.i64 1) (@hid _ ⟨fun t34_287 w288 =>
            B21 x6_58 t34_287 w288⟩) w286⟩)⟩) w284⟩) w282⟩) w59⟩)⟩)⟩)⟩) w39⟩) w37⟩) w35⟩) w33⟩) w31⟩) w29⟩) w27⟩) w25⟩) (@hid _ ⟨
        LoopK1 (Go.Value.int Go.IntKind.i64 0) w25 (@hid _ ⟨fun _ x15_289 w290 B291 =>
         BuiltinK Try.prog Go.Builtin.len #[26] 3 #[false] #[x6_18] (@hid _ ⟨fun t189_292 w293 =>
         BinK Try.prog Go.BinOp.lss 3 x15_289 t189_292 (@hid _ ⟨fun t190_294 w295 =>
         BrK t190_294 (@hid _ ⟨
          CallV Try.prog (.func (.func 10) #[] #[]) #[t24_9, x15_289] (@hid _ ⟨fun t196_296 w297 =>
          ExtractK Try.prog t196_296 0 (@hid _ ⟨fun t197_298 w299 =>
          ExtractK Try.prog t196_296 1 (@hid _ ⟨fun t198_300 w301 =>
          UnK Try.prog Go.UnOp.not t198_300 (@hid _ ⟨fun t200_302 w303 =>
          GuardK t200_302 false (fun k w => k t197_298 w) (@hid _ ⟨fun t202_304 w305 =>
          GuardK t200_302 false (fun k w => k x6_18 w) (@hid _ ⟨fun t203_306 w307 =>
          GuardK t200_302 false (fun k w => k x15_289 w) (@hid _ ⟨fun t204_308 w309 =>
          GuardK t200_302 false (fun k w => IndexAtK Try.prog 26 t203_306 t204_308 k w) (@hid _ ⟨fun t205_310 w311 =>
          GuardK t200_302 false (fun k w => LoadK Try.prog 9 t205_310 k w) (@hid _ ⟨fun t206_312 w313 =>
          GuardK t200_302 false (fun k w => BinK Try.prog Go.BinOp.neq 9 t202_304 t206_312 k w) (@hid _ ⟨fun t207_314 w315 =>
          PickK Try.prog t200_302 (Go.Value.bool true) t207_314 (@hid _ ⟨fun t208_316 w317 =>
          BrK t208_316 (@hid _ ⟨
           R (Go.Value.bool false) w317⟩) (@hid _ ⟨
           BinK Try.prog Go.BinOp.add 3 x15_289 (Go.Value.int Go.IntKind.i64 1) (@hid _ ⟨fun t192_318 w319 =>
           B291 t192_318 w319⟩) w317⟩)⟩) w315⟩) w313⟩) w311⟩) w309⟩) w307⟩) w305⟩) w303⟩) w301⟩) w299⟩) w297⟩) w295⟩) (@hid _ ⟨
          R (Go.Value.bool true) w295⟩)⟩) w293⟩) w290⟩)⟩)⟩) w23⟩) w20⟩)⟩)⟩)⟩) w10⟩) w8⟩)⟩) w6⟩) w4⟩)⟩) w2⟩) w0
def a3 : Ann := (.seq .no (.seq (.seq .no (.cond (.seq .no .no) .no)) (.seq (.seq .no (.cond (.seq .no .no) .no)) (.seq .no (.seq (.seq .no (.cond (.seq .no .no) .no)) (.cut [0] [(27, 28)] (.seq .no (.cond .no .no)) (.seq .no (.seq (.seq .no (.block (.loop [6, 7] [(4, 4), (8, 14), (29, 186)] (.seq (.seq .no (.cond .no .no)) (.seq (.block (.seq .no (.seq (.seq .no (.cond (.seq .no .no) .no)) (.seq .no (.cut [9] [(43, 50)] (.seq .no (.cond .no .no)) (.cut [6] [(4, 4), (10, 14), (51, 181)] (.seq .no (.block (.seq .no (.cond (.seq .no (.seq (.seq .no (.cond (.seq .no .no) .no)) (.seq .no (.cond (.plan (.take 1 (.take 3 (.take 4 (.alt 0 (.alt 2 (.alt 5 (.alt 6 (.take 7 .done) .nil) .nil) (.alt 5 (.alt 2 (.alt 6 (.take 7 .done) .nil) .nil) .nil)) (.alt 5 (.alt 0 (.alt 2 (.alt 6 (.take 7 .done) .nil) .nil) .nil) .nil)))))) .no)))) (.cut [86] [(87, 88)] (.seq .no (.cond .no .no)) (.cond (.seq .no (.cut [11, 12] [(96, 105)] (.seq .no (.cond .no .no)) (.seq (.seq .no (.cond (.seq .no .no) .no)) (.seq .no (.cond (.plan (.take 1 (.take 2 (.take 3 (.take 5 (.take 6 (.take 7 (.take 8 (.alt 0 (.alt 4 (.alt 9 (.take 10 .done) .nil) .nil) .nil))))))))) .no))))) (.seq .no (.cond (.seq .no (.seq .no (.cut [14] [(152, 160)] (.block (.seq .no (.cond .no (.seq .no (.cond .no .no))))) (.seq (.seq .no (.cond (.seq .no .no) .no)) (.seq .no (.cond (.plan (.take 1 (.take 3 (.take 4 (.take 5 (.take 6 (.alt 0 (.alt 2 (.alt 7 (.alt 8 (.take 9 .done) .nil) .nil) (.alt 7 (.alt 2 (.alt 8 (.take 9 .done) .nil) .nil) .nil)) (.alt 7 (.alt 0 (.alt 2 (.alt 8 (.take 9 .done) .nil) .nil) .nil) .nil)))))))) .no)))))) (.seq .no (.cond (.seq (.seq .no (.cond (.seq .no .no) .no)) .no) .no)))))))))) (.seq .no (.cond (.seq .no .no) .no)))))))) .no))))) (.seq (.seq .no (.block (.loop [15] [(4, 4), (16, 17), (187, 208)] (.seq (.seq .no (.cond .no .no)) (.seq (.block (.seq .no (.seq .no (.cond (.seq .no .no) .no)))) .no))))) (.seq .no .no))))))))))
theorem F3_eq (x0 x1 : Value) (R : Value → World → Prop) (w0 : World) : F3 x0 x1 R w0 = vc Try.prog (bodyOf Try.f3) a3 (retQ Try.prog Try.f3 R) (envOf 0 [x0, x1]) w0 := by kernel_rfl
theorem F3_calls (x0 x1 : Value) (R : Value → World → Prop) (w0 : World) (h : F3 x0 x1 R w0) : CallK Try.prog 3 #[x0, x1] R w0 :=
  calls_vc (c := bodyOf Try.f3) Try.func3 (by kernel_rfl) (by kernel_rfl) a3 (by kernel_rfl) (by kernel_rfl) [x0, x1] (by rw [Try.ntmps3]; exact Nat.le_of_ble_eq_true rfl) w0 R ((F3_eq x0 x1 R w0).mp h)

/-- canton/cantonlaw23.BagNumbers, its body as a formula. -/
def F4 (x0 x1 : Value) (R : Value → World → Prop) (w0 : World) : Prop :=
  CallV Try.prog (.func (.func 6) #[] #[]) #[] (@hid _ ⟨fun t15_1 w2 =>
  UnK Try.prog Go.UnOp.not t15_1 (@hid _ ⟨fun t16_3 w4 =>
  BrK t16_3 (@hid _ ⟨
   R (Go.Value.bool false) w4⟩) (@hid _ ⟨
   BuiltinK Try.prog Go.Builtin.len #[37] 3 #[false] #[x0] (@hid _ ⟨fun t18_5 w6 =>
   BinK Try.prog Go.BinOp.gtr 3 t18_5 (Go.Value.int Go.IntKind.i64 60) (@hid _ ⟨fun t19_7 w8 =>
   BrK t19_7 (@hid _ ⟨
    R (Go.Value.bool true) w8⟩) (@hid _ ⟨
    CallV Try.prog (.func (.func 15) #[] #[]) #[(Go.Value.int Go.IntKind.i64 100)] (@hid _ ⟨fun t20_9 w10 =>
    BuildSliceK Try.prog 37 0 #[] (@hid _ ⟨fun t21_11 w12 =>
    BuiltinK Try.prog Go.Builtin.append #[37, 37] 37 #[false, false] #[t21_11, x0] (@hid _ ⟨fun t23_13 w14 =>
    LoopK1 (Go.Value.int Go.IntKind.i64 0) w14 (@hid _ ⟨fun _ x7_15 w16 B17 =>
     BuiltinK Try.prog Go.Builtin.len #[37] 3 #[false] #[x0] (@hid _ ⟨fun t26_18 w19 =>
     BinK Try.prog Go.BinOp.lss 3 x7_15 t26_18 (@hid _ ⟨fun t27_20 w21 =>
     BrK t27_20 (@hid _ ⟨
      IndexAtK Try.prog 37 x0 x7_15 (@hid _ ⟨fun t33_22 w23 =>
      LoadK Try.prog 2 t33_22 (@hid _ ⟨fun t34_24 w25 =>
      CallV Try.prog (.func (.func 16) #[] #[]) #[t20_9, t34_24] (@hid _ ⟨fun t35_26 w27 =>
      BinK Try.prog Go.BinOp.neq 3 t35_26 (Go.Value.int Go.IntKind.i64 0) (@hid _ ⟨fun t36_28 w29 =>
      BrK t36_28 (@hid _ ⟨
       R (Go.Value.bool false) w29⟩) (@hid _ ⟨
       BinK Try.prog Go.BinOp.add 3 x7_15 (Go.Value.int Go.IntKind.i64 1) (@hid _ ⟨fun t29_30 w31 =>
       B17 t29_30 w31⟩) w29⟩)⟩) w27⟩) w25⟩) w23⟩) w21⟩) (@hid _ ⟨
      LoopK2 t23_13 (Go.Value.int Go.IntKind.i64 0) w21 (@hid _ ⟨fun _ x6_32 x8_33 w34 B35 =>
       BuiltinK Try.prog Go.Builtin.len #[37] 3 #[false] #[x0] (@hid _ ⟨fun t39_36 w37 =>
       BinK Try.prog Go.BinOp.lss 3 x8_33 t39_36 (@hid _ ⟨fun t40_38 w39 =>
       BrK t40_38 (@hid _ ⟨
        CutK1 (@hid _ ⟨fun R40 =>
         BuiltinK Try.prog Go.Builtin.len #[38] 3 #[false] #[x1] (@hid _ ⟨fun t45_43 w44 =>
         BinK Try.prog Go.BinOp.lss 3 x8_33 t45_43 (@hid _ ⟨fun t46_45 w46 =>
         BrK t46_45 (@hid _ ⟨
          IndexAtK Try.prog 38 x1 x8_33 (@hid _ ⟨fun t49_47 w48 =>
          LoadK Try.prog 3 t49_47 (@hid _ ⟨fun t50_49 w50 =>
          R40 t50_49 w50⟩) w48⟩) w46⟩) (@hid _ ⟨
          R40 (Go.Value.int Go.IntKind.i64 0) w46⟩)⟩) w44⟩) w39⟩)
        (@hid _ ⟨fun _ x9_41 w42 =>
         CallV Try.prog (.func (.func 17) #[] #[]) #[t20_9, x9_41] (@hid _ ⟨fun t54_51 w52 =>
         ExtractK Try.prog t54_51 0 (@hid _ ⟨fun t55_53 w54 =>
         ExtractK Try.prog t54_51 1 (@hid _ ⟨fun t56_55 w56 =>
         BuiltinK Try.prog Go.Builtin.len #[37] 3 #[false] #[x6_32] (@hid _ ⟨fun t59_57 w58 =>
         CallV Try.prog (.func (.func 8) #[] #[]) #[x9_41, t59_57] (@hid _ ⟨fun t60_59 w60 =>
         UnK Try.prog Go.UnOp.not t56_55 (@hid _ ⟨fun t62_61 w62 =>
         GuardK t62_61 false (fun k w => k t55_53 w) (@hid _ ⟨fun t64_63 w64 =>
         GuardK t62_61 false (fun k w => k x6_32 w) (@hid _ ⟨fun t65_65 w66 =>
         GuardK t62_61 false (fun k w => k t60_59 w) (@hid _ ⟨fun t66_67 w68 =>
         GuardK t62_61 false (fun k w => IndexAtK Try.prog 37 t65_65 t66_67 k w) (@hid _ ⟨fun t67_69 w70 =>
         GuardK t62_61 false (fun k w => LoadK Try.prog 2 t67_69 k w) (@hid _ ⟨fun t68_71 w72 =>
         GuardK t62_61 false (fun k w => BinK Try.prog Go.BinOp.neq 2 t64_63 t68_71 k w) (@hid _ ⟨fun t69_73 w74 =>
         PickK Try.prog t62_61 (Go.Value.bool true) t69_73 (@hid _ ⟨fun t70_75 w76 =>
         BrK t70_75 (@hid _ ⟨
          R (Go.Value.bool false) w76⟩) (@hid _ ⟨
          DrawK (@hid _ ⟨fun S77 w78 =>
          TakeS Try.prog S77 (Instr.sliceAt 37 x6_32 none (some t60_59) none) (@hid _ ⟨fun t74_79 =>
          BinT Try.prog S77 Go.BinOp.add 3 t60_59 (Go.Value.int Go.IntKind.i64 1) (@hid _ ⟨fun t78_80 =>
          TakeS Try.prog S77 (Instr.sliceAt 37 x6_32 (some t78_80) none none) (@hid _ ⟨fun t79_81 =>
          (BuildSliceK Try.prog 37 0 #[] (@hid _ ⟨fun t71_82 w83 =>
          S77 w83 ∧
          (BuiltinK Try.prog Go.Builtin.append #[37, 37] 37 #[false, false] #[t71_82, t74_79] (@hid _ ⟨fun t75_84 w85 =>
          S77 w85 ∧
          (BuiltinK Try.prog Go.Builtin.append #[37, 37] 37 #[false, false] #[t75_84, t79_81] (@hid _ ⟨fun t80_86 w87 =>
          S77 w87 ∧
          BinK Try.prog Go.BinOp.add 3 x8_33 (Go.Value.int Go.IntKind.i64 1) (@hid _ ⟨fun t42_88 w89 =>
          B35 t80_86 t42_88 w89⟩) w87⟩) w85) ∧
          True⟩) w83) ∧
          True⟩) w78) ∧
          True⟩)⟩)⟩)⟩) w76⟩)⟩) w74⟩) w72⟩) w70⟩) w68⟩) w66⟩) w64⟩) w62⟩) w60⟩) w58⟩) w56⟩) w54⟩) w52⟩) w42⟩)⟩) (@hid _ ⟨
        CallV Try.prog (.func (.func 17) #[] #[]) #[t20_9, (Go.Value.int Go.IntKind.i64 0)] (@hid _ ⟨fun t83_90 w91 =>
        ExtractK Try.prog t83_90 0 (@hid _ ⟨fun t84_92 w93 =>
        ExtractK Try.prog t83_90 1 (@hid _ ⟨fun t85_94 w95 =>
        UnK Try.prog Go.UnOp.not t85_94 (@hid _ ⟨fun t87_96 w97 =>
        R t87_96 w97⟩) w95⟩) w93⟩) w91⟩) w39⟩)⟩) w37⟩) w34⟩)⟩)⟩) w19⟩) w16⟩)⟩) w12⟩) w10⟩) w8⟩)⟩) w6⟩) w4⟩)⟩) w2⟩) w0
def a4 : Ann := (.seq .no (.seq (.seq .no (.cond (.seq .no .no) .no)) (.seq (.seq .no (.cond (.seq .no .no) .no)) (.seq .no (.seq .no (.seq (.seq .no (.block (.loop [7] [(4, 4), (24, 36)] (.seq (.seq .no (.cond .no .no)) (.seq (.block (.seq .no (.cond (.seq .no .no) .no))) .no))))) (.seq (.seq .no (.block (.loop [6, 8] [(4, 4), (9, 12), (37, 80)] (.seq (.seq .no (.cond .no .no)) (.seq (.block (.seq .no (.cut [9] [(43, 50)] (.seq .no (.cond .no .no)) (.seq .no (.seq .no (.seq (.seq .no (.cond (.seq .no .no) .no)) (.plan (.take 1 (.take 2 (.take 3 (.take 5 (.take 6 (.take 7 (.take 8 (.alt 0 (.alt 4 (.alt 9 (.take 10 .done) .nil) .nil) .nil))))))))))))))) .no))))) (.seq .no (.seq .no .no)))))))))
theorem F4_eq (x0 x1 : Value) (R : Value → World → Prop) (w0 : World) : F4 x0 x1 R w0 = vc Try.prog (bodyOf Try.f4) a4 (retQ Try.prog Try.f4 R) (envOf 0 [x0, x1]) w0 := by kernel_rfl
theorem F4_calls (x0 x1 : Value) (R : Value → World → Prop) (w0 : World) (h : F4 x0 x1 R w0) : CallK Try.prog 4 #[x0, x1] R w0 :=
  calls_vc (c := bodyOf Try.f4) Try.func4 (by kernel_rfl) (by kernel_rfl) a4 (by kernel_rfl) (by kernel_rfl) [x0, x1] (by rw [Try.ntmps4]; exact Nat.le_of_ble_eq_true rfl) w0 R ((F4_eq x0 x1 R w0).mp h)

/-- canton/cantonlaw23.BagFull, its body as a formula. -/
def F5 (x0 x1 : Value) (R : Value → World → Prop) (w0 : World) : Prop :=
  CallV Try.prog (.func (.func 6) #[] #[]) #[] (@hid _ ⟨fun t15_1 w2 =>
  UnK Try.prog Go.UnOp.not t15_1 (@hid _ ⟨fun t16_3 w4 =>
  BrK t16_3 (@hid _ ⟨
   R (Go.Value.bool false) w4⟩) (@hid _ ⟨
   BinK Try.prog Go.BinOp.rem 5 x0 (Go.Value.int Go.IntKind.u8 40) (@hid _ ⟨fun t18_5 w6 =>
   ConvK Try.prog 5 3 t18_5 (@hid _ ⟨fun t19_7 w8 =>
   BinK Try.prog Go.BinOp.add 3 (Go.Value.int Go.IntKind.i64 1) t19_7 (@hid _ ⟨fun t20_9 w10 =>
   CallV Try.prog (.func (.func 18) #[] #[]) #[t20_9] (@hid _ ⟨fun t22_11 w12 =>
   LoopK1 (Go.Value.int Go.IntKind.i64 0) w12 (@hid _ ⟨fun _ x7_13 w14 B15 =>
    BinK Try.prog Go.BinOp.rem 5 x1 (Go.Value.int Go.IntKind.u8 5) (@hid _ ⟨fun t26_16 w17 =>
    ConvK Try.prog 5 3 t26_16 (@hid _ ⟨fun t27_18 w19 =>
    BinK Try.prog Go.BinOp.add 3 t20_9 t27_18 (@hid _ ⟨fun t28_20 w21 =>
    BinK Try.prog Go.BinOp.lss 3 x7_13 t28_20 (@hid _ ⟨fun t29_22 w23 =>
    BrK t29_22 (@hid _ ⟨
     CallV Try.prog (.func (.func 19) #[] #[]) #[t22_11, x7_13] (@hid _ ⟨fun t34_24 w25 =>
     BinK Try.prog Go.BinOp.eql 3 t34_24 (Go.Value.int Go.IntKind.i64 0) (@hid _ ⟨fun t36_26 w27 =>
     BinK Try.prog Go.BinOp.lss 3 x7_13 t20_9 (@hid _ ⟨fun t39_28 w29 =>
     BinK Try.prog Go.BinOp.neq 4 t36_26 t39_28 (@hid _ ⟨fun t40_30 w31 =>
     GuardK t40_30 false (fun k w => k t34_24 w) (@hid _ ⟨fun t42_32 w33 =>
     GuardK t40_30 false (fun k w => BinK Try.prog Go.BinOp.neq 3 t42_32 (Go.Value.int Go.IntKind.i64 0) k w) (@hid _ ⟨fun t43_34 w35 =>
     GuardK t40_30 false (fun k w => k t43_34 w) (@hid _ ⟨fun t44_36 w37 =>
     GuardK t44_36 true (fun k w => k t34_24 w) (@hid _ ⟨fun t45_38 w39 =>
     GuardK t44_36 true (fun k w => BinK Try.prog Go.BinOp.neq 3 t45_38 (Go.Value.int Go.IntKind.i64 9) k w) (@hid _ ⟨fun t46_40 w41 =>
     GuardK t40_30 false (fun k w => PickK Try.prog t44_36 t46_40 (Go.Value.bool false) k w) (@hid _ ⟨fun t47_42 w43 =>
     PickK Try.prog t40_30 (Go.Value.bool true) t47_42 (@hid _ ⟨fun t48_44 w45 =>
     BrK t48_44 (@hid _ ⟨
      R (Go.Value.bool false) w45⟩) (@hid _ ⟨
      BinK Try.prog Go.BinOp.add 3 x7_13 (Go.Value.int Go.IntKind.i64 1) (@hid _ ⟨fun t31_46 w47 =>
      B15 t31_46 w47⟩) w45⟩)⟩) w43⟩) w41⟩) w39⟩) w37⟩) w35⟩) w33⟩) w31⟩) w29⟩) w27⟩) w25⟩) w23⟩) (@hid _ ⟨
     CallV Try.prog (.func (.func 20) #[] #[]) #[t22_11, (Go.Value.int Go.IntKind.i64 0)] (@hid _ ⟨fun t50_48 w49 =>
     BinK Try.prog Go.BinOp.sub 3 t20_9 (Go.Value.int Go.IntKind.i64 1) (@hid _ ⟨fun t54_50 w51 =>
     CallV Try.prog (.func (.func 21) #[] #[]) #[t22_11, t54_50] (@hid _ ⟨fun t55_52 w53 =>
     ExtractK Try.prog t55_52 0 (@hid _ ⟨fun t56_54 w55 =>
     ExtractK Try.prog t55_52 1 (@hid _ ⟨fun t57_56 w57 =>
     CallV Try.prog (.func (.func 20) #[] #[]) #[t22_11, (Go.Value.int Go.IntKind.i64 0)] (@hid _ ⟨fun t59_58 w59 =>
     BinK Try.prog Go.BinOp.sub 3 t20_9 (Go.Value.int Go.IntKind.i64 1) (@hid _ ⟨fun t63_60 w61 =>
     CallV Try.prog (.func (.func 22) #[] #[]) #[t22_11, t63_60] (@hid _ ⟨fun t64_62 w63 =>
     ExtractK Try.prog t64_62 0 (@hid _ ⟨fun t65_64 w65 =>
     ExtractK Try.prog t64_62 1 (@hid _ ⟨fun t66_66 w67 =>
     BinK Try.prog Go.BinOp.eql 3 t50_48 (Go.Value.int Go.IntKind.i64 9) (@hid _ ⟨fun t68_68 w69 =>
     GuardK t68_68 true (fun k w => k t57_56 w) (@hid _ ⟨fun t70_70 w71 =>
     PickK Try.prog t68_68 t70_70 (Go.Value.bool false) (@hid _ ⟨fun t71_72 w73 =>
     GuardK t71_72 true (fun k w => k t56_54 w) (@hid _ ⟨fun t73_74 w75 =>
     GuardK t71_72 true (fun k w => k t20_9 w) (@hid _ ⟨fun t74_76 w77 =>
     GuardK t71_72 true (fun k w => BinK Try.prog Go.BinOp.sub 3 t74_76 (Go.Value.int Go.IntKind.i64 1) k w) (@hid _ ⟨fun t75_78 w79 =>
     GuardK t71_72 true (fun k w => BinK Try.prog Go.BinOp.eql 3 t73_74 t75_78 k w) (@hid _ ⟨fun t76_80 w81 =>
     PickK Try.prog t71_72 t76_80 (Go.Value.bool false) (@hid _ ⟨fun t77_82 w83 =>
     GuardK t77_82 true (fun k w => k t59_58 w) (@hid _ ⟨fun t79_84 w85 =>
     GuardK t77_82 true (fun k w => BinK Try.prog Go.BinOp.eql 3 t79_84 (Go.Value.int Go.IntKind.i64 0) k w) (@hid _ ⟨fun t80_86 w87 =>
     GuardK t77_82 true (fun k w => k t20_9 w) (@hid _ ⟨fun t81_88 w89 =>
     GuardK t77_82 true (fun k w => BinK Try.prog Go.BinOp.gtr 3 t81_88 (Go.Value.int Go.IntKind.i64 1) k w) (@hid _ ⟨fun t82_90 w91 =>
     GuardK t77_82 true (fun k w => BinK Try.prog Go.BinOp.eql 4 t80_86 t82_90 k w) (@hid _ ⟨fun t83_92 w93 =>
     PickK Try.prog t77_82 t83_92 (Go.Value.bool false) (@hid _ ⟨fun t84_94 w95 =>
     GuardK t84_94 true (fun k w => k t20_9 w) (@hid _ ⟨fun t86_96 w97 =>
     GuardK t84_94 true (fun k w => BinK Try.prog Go.BinOp.eql 3 t86_96 (Go.Value.int Go.IntKind.i64 1) k w) (@hid _ ⟨fun t87_98 w99 =>
     GuardK t84_94 true (fun k w => k t87_98 w) (@hid _ ⟨fun t88_100 w101 =>
     GuardK t88_100 true (fun k w => k t66_66 w) (@hid _ ⟨fun t89_102 w103 =>
     GuardK t88_100 true (fun k w => UnK Try.prog Go.UnOp.not t89_102 k w) (@hid _ ⟨fun t90_104 w105 =>
     GuardK t84_94 true (fun k w => PickK Try.prog t88_100 t90_104 (Go.Value.bool false) k w) (@hid _ ⟨fun t91_106 w107 =>
     GuardK t84_94 true (fun k w => k t91_106 w) (@hid _ ⟨fun t92_108 w109 =>
     GuardK t92_108 false (fun k w => k t66_66 w) (@hid _ ⟨fun t93_110 w111 =>
     GuardK t92_108 false (fun k w => k t93_110 w) (@hid _ ⟨fun t94_112 w113 =>
     GuardK t94_112 true (fun k w => k t65_64 w) (@hid _ ⟨fun t95_114 w115 =>
     GuardK t94_112 true (fun k w => BinK Try.prog Go.BinOp.eql 3 t95_114 (Go.Value.int Go.IntKind.i64 0) k w) (@hid _ ⟨fun t96_116 w117 =>
     GuardK t92_108 false (fun k w => PickK Try.prog t94_112 t96_116 (Go.Value.bool false) k w) (@hid _ ⟨fun t97_118 w119 =>
     GuardK t84_94 true (fun k w => PickK Try.prog t92_108 (Go.Value.bool true) t97_118 k w) (@hid _ ⟨fun t98_120 w121 =>
     PickK Try.prog t84_94 t98_120 (Go.Value.bool false) (@hid _ ⟨fun t99_122 w123 =>
     GuardK t99_122 true (fun k w => k t22_11 w) (@hid _ ⟨fun t101_124 w125 =>
     GuardK t99_122 true (fun k w => CallV Try.prog (.func (.func 23) #[] #[]) #[t101_124] k w) (@hid _ ⟨fun t102_126 w127 =>
     GuardK t99_122 true (fun k w => k t20_9 w) (@hid _ ⟨fun t103_128 w129 =>
     GuardK t99_122 true (fun k w => CallV Try.prog (.func (.func 24) #[] #[]) #[t103_128] k w) (@hid _ ⟨fun t104_130 w131 =>
     GuardK t99_122 true (fun k w => BinK Try.prog Go.BinOp.eql 3 t102_126 t104_130 k w) (@hid _ ⟨fun t105_132 w133 =>
     PickK Try.prog t99_122 t105_132 (Go.Value.bool false) (@hid _ ⟨fun t106_134 w135 =>
     R t106_134 w135⟩) w133⟩) w131⟩) w129⟩) w127⟩) w125⟩) w123⟩) w121⟩) w119⟩) w117⟩) w115⟩) w113⟩) w111⟩) w109⟩) w107⟩) w105⟩) w103⟩) w101⟩) w99⟩) w97⟩) w95⟩) w93⟩) w91⟩) w89⟩) w87⟩) w85⟩) w83⟩) w81⟩) w79⟩) w77⟩) w75⟩) w73⟩) w71⟩) w69⟩) w67⟩) w65⟩) w63⟩) w61⟩) w59⟩) w57⟩) w55⟩) w53⟩) w51⟩) w49⟩) w23⟩)⟩) w21⟩) w19⟩) w17⟩) w14⟩)⟩) w10⟩) w8⟩) w6⟩) w4⟩)⟩) w2⟩) w0
def a5 : Ann := (.seq .no (.seq (.seq .no (.cond (.seq .no .no) .no)) (.seq .no (.seq .no (.seq (.seq .no (.block (.loop [7] [(4, 4), (8, 8), (23, 48)] (.seq (.seq .no (.cond .no .no)) (.seq (.block (.seq .no (.seq .no (.cond (.seq .no .no) .no)))) .no))))) (.seq .no (.seq .no (.seq .no (.seq .no (.seq .no .no))))))))))
theorem F5_eq (x0 x1 : Value) (R : Value → World → Prop) (w0 : World) : F5 x0 x1 R w0 = vc Try.prog (bodyOf Try.f5) a5 (retQ Try.prog Try.f5 R) (envOf 0 [x0, x1]) w0 := by kernel_rfl
theorem F5_calls (x0 x1 : Value) (R : Value → World → Prop) (w0 : World) (h : F5 x0 x1 R w0) : CallK Try.prog 5 #[x0, x1] R w0 :=
  calls_vc (c := bodyOf Try.f5) Try.func5 (by kernel_rfl) (by kernel_rfl) a5 (by kernel_rfl) (by kernel_rfl) [x0, x1] (by rw [Try.ntmps5]; exact Nat.le_of_ble_eq_true rfl) w0 R ((F5_eq x0 x1 R w0).mp h)

/-- canton/cantonlaw23.known, its body as a formula. -/
def F6 (R : Value → World → Prop) (w0 : World) : Prop :=
  CallV Try.prog (.func (.func 7) #[] #[]) #[(Go.Value.int Go.IntKind.i64 3)] (@hid _ ⟨fun t13_1 w2 =>
  BinK Try.prog Go.BinOp.eql 24 t13_1 (Go.Value.pointer none) (@hid _ ⟨fun t15_3 w4 =>
  BrK t15_3 (@hid _ ⟨
   R (Go.Value.bool false) w4⟩) (@hid _ ⟨
   CallV Try.prog (.func (.func 9) #[] #[]) #[t13_1, (Go.Value.string { data := #[120] })] (@hid _ ⟨fun t17_5 w6 =>
   CallV Try.prog (.func (.func 9) #[] #[]) #[t13_1, (Go.Value.string { data := #[121] })] (@hid _ ⟨fun t19_7 w8 =>
   CallV Try.prog (.func (.func 12) #[] #[]) #[t13_1, (Go.Value.int Go.IntKind.i64 0)] (@hid _ ⟨fun t21_9 w10 =>
   CallV Try.prog (.func (.func 9) #[] #[]) #[t13_1, (Go.Value.string { data := #[122] })] (@hid _ ⟨fun t23_11 w12 =>
   CallV Try.prog (.func (.func 10) #[] #[]) #[t13_1, (Go.Value.int Go.IntKind.i64 4)] (@hid _ ⟨fun t26_13 w14 =>
   ExtractK Try.prog t26_13 0 (@hid _ ⟨fun t27_15 w16 =>
   ExtractK Try.prog t26_13 1 (@hid _ ⟨fun t28_17 w18 =>
   CallV Try.prog (.func (.func 11) #[] #[]) #[t13_1, (Go.Value.int Go.IntKind.i64 0)] (@hid _ ⟨fun t31_19 w20 =>
   ExtractK Try.prog t31_19 0 (@hid _ ⟨fun t32_21 w22 =>
   ExtractK Try.prog t31_19 1 (@hid _ ⟨fun t33_23 w24 =>
   CallV Try.prog (.func (.func 13) #[] #[]) #[t13_1] (@hid _ ⟨fun t35_25 w26 =>
   CallV Try.prog (.func (.func 11) #[] #[]) #[t13_1, (Go.Value.int Go.IntKind.i64 0)] (@hid _ ⟨fun t38_27 w28 =>
   ExtractK Try.prog t38_27 0 (@hid _ ⟨fun t39_29 w30 =>
   ExtractK Try.prog t38_27 1 (@hid _ ⟨fun t40_31 w32 =>
   BinK Try.prog Go.BinOp.add 3 t17_5 t19_7 (@hid _ ⟨fun t43_33 w34 =>
   BinK Try.prog Go.BinOp.add 3 t43_33 t21_9 (@hid _ ⟨fun t45_35 w36 =>
   BinK Try.prog Go.BinOp.eql 3 t45_35 (Go.Value.int Go.IntKind.i64 0) (@hid _ ⟨fun t46_37 w38 =>
   GuardK t46_37 true (fun k w => k t23_11 w) (@hid _ ⟨fun t48_39 w40 =>
   GuardK t46_37 true (fun k w => BinK Try.prog Go.BinOp.eql 3 t48_39 (Go.Value.int Go.IntKind.i64 9) k w) (@hid _ ⟨fun t49_41 w42 =>
   PickK Try.prog t46_37 t49_41 (Go.Value.bool false) (@hid _ ⟨fun t50_43 w44 =>
   GuardK t50_43 true (fun k w => k t27_15 w) (@hid _ ⟨fun t52_45 w46 =>
   GuardK t50_43 true (fun k w => BinK Try.prog Go.BinOp.eql 9 t52_45 (Go.Value.string { data := #[121] }) k w) (@hid _ ⟨fun t53_47 w48 =>
   PickK Try.prog t50_43 t53_47 (Go.Value.bool false) (@hid _ ⟨fun t54_49 w50 =>
   GuardK t54_49 true (fun k w => k t28_17 w) (@hid _ ⟨fun t56_51 w52 =>
   PickK Try.prog t54_49 t56_51 (Go.Value.bool false) (@hid _ ⟨fun t57_53 w54 =>
   GuardK t57_53 true (fun k w => k t32_21 w) (@hid _ ⟨fun t59_55 w56 =>
   GuardK t57_53 true (fun k w => BinK Try.prog Go.BinOp.eql 9 t59_55 (Go.Value.string { data := #[120] }) k w) (@hid _ ⟨fun t60_57 w58 =>
   PickK Try.prog t57_53 t60_57 (Go.Value.bool false) (@hid _ ⟨fun t61_59 w60 =>
   GuardK t61_59 true (fun k w => k t33_23 w) (@hid _ ⟨fun t63_61 w62 =>
   PickK Try.prog t61_59 t63_61 (Go.Value.bool false) (@hid _ ⟨fun t64_63 w64 =>
   GuardK t64_63 true (fun k w => k t35_25 w) (@hid _ ⟨fun t66_65 w66 =>
   GuardK t64_63 true (fun k w => BinK Try.prog Go.BinOp.eql 3 t66_65 (Go.Value.int Go.IntKind.i64 2) k w) (@hid _ ⟨fun t67_67 w68 =>
   PickK Try.prog t64_63 t67_67 (Go.Value.bool false) (@hid _ ⟨fun t68_69 w70 =>
   GuardK t68_69 true (fun k w => k t40_31 w) (@hid _ ⟨fun t70_71 w72 =>
   GuardK t68_69 true (fun k w => UnK Try.prog Go.UnOp.not t70_71 k w) (@hid _ ⟨fun t71_73 w74 =>
   PickK Try.prog t68_69 t71_73 (Go.Value.bool false) (@hid _ ⟨fun t72_75 w76 =>
   GuardK t72_75 true (fun k w => k t13_1 w) (@hid _ ⟨fun t74_77 w78 =>
   GuardK t72_75 true (fun k w => CallV Try.prog (.func (.func 12) #[] #[]) #[t74_77, (Go.Value.int Go.IntKind.i64 0)] k w) (@hid _ ⟨fun t75_79 w80 =>
   GuardK t72_75 true (fun k w => BinK Try.prog Go.BinOp.eql 3 t75_79 (Go.Value.int Go.IntKind.i64 8) k w) (@hid _ ⟨fun t76_81 w82 =>
   PickK Try.prog t72_75 t76_81 (Go.Value.bool false) (@hid _ ⟨fun t77_83 w84 =>
   GuardK t77_83 true (fun k w => k t13_1 w) (@hid _ ⟨fun t79_85 w86 =>
   GuardK t77_83 true (fun k w => CallV Try.prog (.func (.func 14) #[] #[]) #[t79_85] k w) (@hid _ ⟨fun t80_87 w88 =>
   GuardK t77_83 true (fun k w => BinK Try.prog Go.BinOp.eql 3 t80_87 (Go.Value.int Go.IntKind.i64 0) k w) (@hid _ ⟨fun t81_89 w90 =>
   PickK Try.prog t77_83 t81_89 (Go.Value.bool false) (@hid _ ⟨fun t82_91 w92 =>
   R t82_91 w92⟩) w90⟩) w88⟩) w86⟩) w84⟩) w82⟩) w80⟩) w78⟩) w76⟩) w74⟩) w72⟩) w70⟩) w68⟩) w66⟩) w64⟩) w62⟩) w60⟩) w58⟩) w56⟩) w54⟩) w52⟩) w50⟩) w48⟩) w46⟩) w44⟩) w42⟩) w40⟩) w38⟩) w36⟩) w34⟩) w32⟩) w30⟩) w28⟩) w26⟩) w24⟩) w22⟩) w20⟩) w18⟩) w16⟩) w14⟩) w12⟩) w10⟩) w8⟩) w6⟩) w4⟩)⟩) w2⟩) w0
def a6 : Ann := (.seq .no (.seq .no (.seq (.seq .no (.cond (.seq .no .no) .no)) (.seq .no (.seq .no (.seq .no (.seq .no (.seq .no (.seq .no (.seq .no (.seq .no (.seq .no .no))))))))))))
theorem F6_eq (R : Value → World → Prop) (w0 : World) : F6  R w0 = vc Try.prog (bodyOf Try.f6) a6 (retQ Try.prog Try.f6 R) (envOf 0 []) w0 := by kernel_rfl
theorem F6_calls (R : Value → World → Prop) (w0 : World) (h : F6  R w0) : CallK Try.prog 6 #[] R w0 :=
  calls_vc (c := bodyOf Try.f6) Try.func6 (by kernel_rfl) (by kernel_rfl) a6 (by kernel_rfl) (by kernel_rfl) [] (by rw [Try.ntmps6]; exact Nat.le_of_ble_eq_true rfl) w0 R ((F6_eq  R w0).mp h)

/-- canton/bag.New[string], its body as a formula. -/
def F7 (x0 : Value) (R : Value → World → Prop) (w0 : World) : Prop :=
  BuiltinK Try.prog Go.Builtin.max #[3, 3] 3 #[false, true] #[x0, (Go.Value.int Go.IntKind.i64 1)] (@hid _ ⟨fun t4_1 w2 =>
  BuildK Try.prog 52 #[(0, t4_1)] (@hid _ ⟨fun t5_3 w4 =>
  BoxK Try.prog 52 t5_3 (@hid _ ⟨fun t6_5 w6 =>
  R t6_5 w6⟩) w4⟩) w2⟩) w0
def a7 : Ann := (.seq .no (.seq .no .no))
theorem F7_eq (x0 : Value) (R : Value → World → Prop) (w0 : World) : F7 x0 R w0 = vc Try.prog (bodyOf Try.f7) a7 (retQ Try.prog Try.f7 R) (envOf 0 [x0]) w0 := by kernel_rfl
theorem F7_calls (x0 : Value) (R : Value → World → Prop) (w0 : World) (h : F7 x0 R w0) : CallK Try.prog 7 #[x0] R w0 :=
  calls_vc (c := bodyOf Try.f7) Try.func7 (by kernel_rfl) (by kernel_rfl) a7 (by kernel_rfl) (by kernel_rfl) [x0] (by rw [Try.ntmps7]; exact Nat.le_of_ble_eq_true rfl) w0 R ((F7_eq x0 R w0).mp h)

/-- canton/cantonlaw23.place, its body as a formula. -/
def F8 (x0 x1 : Value) (R : Value → World → Prop) (w0 : World) : Prop :=
  BinK Try.prog Go.BinOp.lss 3 x0 (Go.Value.int Go.IntKind.i64 0) (@hid _ ⟨fun t6_1 w2 =>
  BrK t6_1 (@hid _ ⟨
   R (Go.Value.int Go.IntKind.i64 0) w2⟩) (@hid _ ⟨
   BinK Try.prog Go.BinOp.rem 3 x0 x1 (@hid _ ⟨fun t9_3 w4 =>
   R t9_3 w4⟩) w2⟩)⟩) w0
def a8 : Ann := (.seq .no (.seq (.seq .no (.cond (.seq .no .no) .no)) (.seq .no .no)))
theorem F8_eq (x0 x1 : Value) (R : Value → World → Prop) (w0 : World) : F8 x0 x1 R w0 = vc Try.prog (bodyOf Try.f8) a8 (retQ Try.prog Try.f8 R) (envOf 0 [x0, x1]) w0 := by kernel_rfl
theorem F8_calls (x0 x1 : Value) (R : Value → World → Prop) (w0 : World) (h : F8 x0 x1 R w0) : CallK Try.prog 8 #[x0, x1] R w0 :=
  calls_vc (c := bodyOf Try.f8) Try.func8 (by kernel_rfl) (by kernel_rfl) a8 (by kernel_rfl) (by kernel_rfl) [x0, x1] (by rw [Try.ntmps8]; exact Nat.le_of_ble_eq_true rfl) w0 R ((F8_eq x0 x1 R w0).mp h)

/-- (*canton/bag.Bag[string]).Put, its body as a formula. -/
def F9 (x0 x1 : Value) (R : Value → World → Prop) (w0 : World) : Prop :=
  DrawK (@hid _ ⟨fun S1 w2 =>
  TakeO Try.prog S1 (nilSem x0) (@hid _ ⟨fun t6_3 =>
  TakeS Try.prog S1 (Instr.fieldAt 52 t6_3 1) (@hid _ ⟨fun t7_4 =>
  TakeS Try.prog S1 (Instr.loadAt 26 t7_4) (@hid _ ⟨fun t8_5 =>
  TakeO Try.prog S1 (builtin Go.Builtin.len #[26] 3 #[false] #[t8_5]) (@hid _ ⟨fun t9_6 =>
  TakeO Try.prog S1 (nilSem x0) (@hid _ ⟨fun t11_7 =>
  TakeS Try.prog S1 (Instr.fieldAt 52 t11_7 0) (@hid _ ⟨fun t12_8 =>
  TakeS Try.prog S1 (Instr.loadAt 3 t12_8) (@hid _ ⟨fun t13_9 =>
  BinT Try.prog S1 Go.BinOp.geq 3 t9_6 t13_9 (@hid _ ⟨fun t14_10 =>
  BrK t14_10 (@hid _ ⟨
   R (Go.Value.int Go.IntKind.i64 9) w2⟩) (@hid _ ⟨
   NilK Try.prog x0 (@hid _ ⟨fun t17_11 w12 =>
   FieldAtK Try.prog 52 t17_11 1 (@hid _ ⟨fun t18_13 w14 =>
   LoadK Try.prog 26 t18_13 (@hid _ ⟨fun t19_15 w16 =>
   BuildSliceK Try.prog 26 1 #[(0, x1)] (@hid _ ⟨fun t21_17 w18 =>
   BuiltinK Try.prog Go.Builtin.append #[26, 26] 26 #[false, false] #[t19_15, t21_17] (@hid _ ⟨fun t22_19 w20 =>
   NilK Try.prog x0 (@hid _ ⟨fun t23_21 w22 =>
   FieldAtK Try.prog 52 t23_21 1 (@hid _ ⟨fun t24_23 w24 =>
   StoreK Try.prog 26 t24_23 t22_19 (@hid _ ⟨fun tu_25 w26 =>
   R (Go.Value.int Go.IntKind.i64 0) w26⟩) w24⟩) w22⟩) w20⟩) w18⟩) w16⟩) w14⟩) w12⟩) w2⟩)⟩)⟩)⟩)⟩)⟩)⟩)⟩)⟩)⟩) w0
def a9 : Ann := (.seq .no (.seq (.seq (.plan (.take 0 (.take 1 (.take 2 (.take 3 (.take 4 (.take 5 (.take 6 (.take 7 (.take 8 (.take 9 .done))))))))))) (.cond (.seq .no .no) .no)) (.seq .no (.seq .no .no))))
theorem F9_eq (x0 x1 : Value) (R : Value → World → Prop) (w0 : World) : F9 x0 x1 R w0 = vc Try.prog (bodyOf Try.f9) a9 (retQ Try.prog Try.f9 R) (envOf 0 [x0, x1]) w0 := by kernel_rfl
theorem F9_calls (x0 x1 : Value) (R : Value → World → Prop) (w0 : World) (h : F9 x0 x1 R w0) : CallK Try.prog 9 #[x0, x1] R w0 :=
  calls_vc (c := bodyOf Try.f9) Try.func9 (by kernel_rfl) (by kernel_rfl) a9 (by kernel_rfl) (by kernel_rfl) [x0, x1] (by rw [Try.ntmps9]; exact Nat.le_of_ble_eq_true rfl) w0 R ((F9_eq x0 x1 R w0).mp h)

/-- (*canton/bag.Bag[string]).See, its body as a formula. -/
def F10 (x0 x1 : Value) (R : Value → World → Prop) (w0 : World) : Prop :=
  NilK Try.prog x0 (@hid _ ⟨fun t8_1 w2 =>
  FieldAtK Try.prog 52 t8_1 1 (@hid _ ⟨fun t9_3 w4 =>
  LoadK Try.prog 26 t9_3 (@hid _ ⟨fun t10_5 w6 =>
  BuiltinK Try.prog Go.Builtin.len #[26] 3 #[false] #[t10_5] (@hid _ ⟨fun t11_7 w8 =>
  BinK Try.prog Go.BinOp.eql 3 t11_7 (Go.Value.int Go.IntKind.i64 0) (@hid _ ⟨fun t12_9 w10 =>
  BrK t12_9 (@hid _ ⟨
   R (.tuple #[(Go.Value.string { data := #[] }), (Go.Value.bool false)]) w10⟩) (@hid _ ⟨
   DrawK (@hid _ ⟨fun S11 w12 =>
   TakeO Try.prog S11 (nilSem x0) (@hid _ ⟨fun t15_13 =>
   TakeS Try.prog S11 (Instr.fieldAt 52 t15_13 1) (@hid _ ⟨fun t16_14 =>
   TakeS Try.prog S11 (Instr.loadAt 26 t16_14) (@hid _ ⟨fun t17_15 =>
   (CallV Try.prog (.func (.func 25) #[] #[]) #[x0, x1] (@hid _ ⟨fun t20_16 w17 =>
   S11 w17 ∧
   TakeS Try.prog S11 (Instr.indexAt 26 t17_15 t20_16) (@hid _ ⟨fun t21_18 =>
   TakeS Try.prog S11 (Instr.loadAt 9 t21_18) (@hid _ ⟨fun t22_19 =>
   R (.tuple #[t22_19, (Go.Value.bool true)]) w17⟩)⟩)⟩) w12) ∧
   True⟩)⟩)⟩)⟩) w10⟩)⟩) w8⟩) w6⟩) w4⟩) w2⟩) w0
def a10 : Ann := (.seq .no (.seq (.seq .no (.cond (.seq .no (.seq .no .no)) .no)) (.seq (.plan (.take 0 (.take 1 (.take 2 (.take 3 (.take 4 (.take 5 (.alt 6 (.take 7 (.take 8 (.take 9 (.take 10 .done)))) .nil)))))))) .no)))
theorem F10_eq (x0 x1 : Value) (R : Value → World → Prop) (w0 : World) : F10 x0 x1 R w0 = vc Try.prog (bodyOf Try.f10) a10 (retQ Try.prog Try.f10 R) (envOf 0 [x0, x1]) w0 := by kernel_rfl
theorem F10_calls (x0 x1 : Value) (R : Value → World → Prop) (w0 : World) (h : F10 x0 x1 R w0) : CallK Try.prog 10 #[x0, x1] R w0 :=
  calls_vc (c := bodyOf Try.f10) Try.func10 (by kernel_rfl) (by kernel_rfl) a10 (by kernel_rfl) (by kernel_rfl) [x0, x1] (by rw [Try.ntmps10]; exact Nat.le_of_ble_eq_true rfl) w0 R ((F10_eq x0 x1 R w0).mp h)

/-- (*canton/bag.Bag[string]).Take, its body as a formula. -/
def F11 (x0 x1 : Value) (R : Value → World → Prop) (w0 : World) : Prop :=
  CallV Try.prog (.func (.func 10) #[] #[]) #[x0, x1] (@hid _ ⟨fun t12_1 w2 =>
  ExtractK Try.prog t12_1 0 (@hid _ ⟨fun t13_3 w4 =>
  ExtractK Try.prog t12_1 1 (@hid _ ⟨fun t14_5 w6 =>
  CutK0 (@hid _ ⟨fun R7 =>
   BrK t14_5 (@hid _ ⟨
    CallV Try.prog (.func (.func 25) #[] #[]) #[x0, x1] (@hid _ ⟨fun t18_9 w10 =>
    NilK Try.prog x0 (@hid _ ⟨fun t21_11 w12 =>
    FieldAtK Try.prog 52 t21_11 1 (@hid _ ⟨fun t22_13 w14 =>
    LoadK Try.prog 26 t22_13 (@hid _ ⟨fun t23_15 w16 =>
    BinK Try.prog Go.BinOp.add 3 t18_9 (Go.Value.int Go.IntKind.i64 1) (@hid _ ⟨fun t26_17 w18 =>
    CallV Try.prog (.func (.func 26) #[] #[]) #[t23_15, t18_9, t26_17] (@hid _ ⟨fun t27_19 w20 =>
    NilK Try.prog x0 (@hid _ ⟨fun t28_21 w22 =>
    FieldAtK Try.prog 52 t28_21 1 (@hid _ ⟨fun t29_23 w24 =>
    StoreK Try.prog 26 t29_23 t27_19 (@hid _ ⟨fun tu_25 w26 =>
    R7 w26⟩) w24⟩) w22⟩) w20⟩) w18⟩) w16⟩) w14⟩) w12⟩) w10⟩) w6⟩) (@hid _ ⟨
    R7 w6⟩)⟩)
  (@hid _ ⟨fun _ w8 =>
   R (.tuple #[t13_3, t14_5]) w8⟩)⟩) w4⟩) w2⟩) w0
def a11 : Ann := (.seq .no (.seq .no (.cut [] [(8, 8), (15, 29)] (.seq .no (.cond (.seq .no .no) .no)) (.seq .no .no))))
theorem F11_eq (x0 x1 : Value) (R : Value → World → Prop) (w0 : World) : F11 x0 x1 R w0 = vc Try.prog (bodyOf Try.f11) a11 (retQ Try.prog Try.f11 R) (envOf 0 [x0, x1]) w0 := by kernel_rfl
theorem F11_calls (x0 x1 : Value) (R : Value → World → Prop) (w0 : World) (h : F11 x0 x1 R w0) : CallK Try.prog 11 #[x0, x1] R w0 :=
  calls_vc (c := bodyOf Try.f11) Try.func11 (by kernel_rfl) (by kernel_rfl) a11 (by kernel_rfl) (by kernel_rfl) [x0, x1] (by rw [Try.ntmps11]; exact Nat.le_of_ble_eq_true rfl) w0 R ((F11_eq x0 x1 R w0).mp h)

/-- (*canton/bag.Bag[string]).Copy, its body as a formula. -/
def F12 (x0 x1 : Value) (R : Value → World → Prop) (w0 : World) : Prop :=
  CallV Try.prog (.func (.func 10) #[] #[]) #[x0, x1] (@hid _ ⟨fun t10_1 w2 =>
  ExtractK Try.prog t10_1 0 (@hid _ ⟨fun t11_3 w4 =>
  ExtractK Try.prog t10_1 1 (@hid _ ⟨fun t12_5 w6 =>
  UnK Try.prog Go.UnOp.not t12_5 (@hid _ ⟨fun t14_7 w8 =>
  BrK t14_7 (@hid _ ⟨
   R (Go.Value.int Go.IntKind.i64 8) w8⟩) (@hid _ ⟨
   CallV Try.prog (.func (.func 9) #[] #[]) #[x0, t11_3] (@hid _ ⟨fun t17_9 w10 =>
   R t17_9 w10⟩) w8⟩)⟩) w6⟩) w4⟩) w2⟩) w0
def a12 : Ann := (.seq .no (.seq .no (.seq (.seq .no (.cond (.seq .no .no) .no)) (.seq .no .no))))
theorem F12_eq (x0 x1 : Value) (R : Value → World → Prop) (w0 : World) : F12 x0 x1 R w0 = vc Try.prog (bodyOf Try.f12) a12 (retQ Try.prog Try.f12 R) (envOf 0 [x0, x1]) w0 := by kernel_rfl
theorem F12_calls (x0 x1 : Value) (R : Value → World → Prop) (w0 : World) (h : F12 x0 x1 R w0) : CallK Try.prog 12 #[x0, x1] R w0 :=
  calls_vc (c := bodyOf Try.f12) Try.func12 (by kernel_rfl) (by kernel_rfl) a12 (by kernel_rfl) (by kernel_rfl) [x0, x1] (by rw [Try.ntmps12]; exact Nat.le_of_ble_eq_true rfl) w0 R ((F12_eq x0 x1 R w0).mp h)

/-- (*canton/bag.Bag[string]).Clear, its body as a formula. -/
def F13 (x0 : Value) (R : Value → World → Prop) (w0 : World) : Prop :=
  NilK Try.prog x0 (@hid _ ⟨fun t5_1 w2 =>
  FieldAtK Try.prog 52 t5_1 1 (@hid _ ⟨fun t6_3 w4 =>
  LoadK Try.prog 26 t6_3 (@hid _ ⟨fun t7_5 w6 =>
  BuiltinK Try.prog Go.Builtin.len #[26] 3 #[false] #[t7_5] (@hid _ ⟨fun t8_7 w8 =>
  NilK Try.prog x0 (@hid _ ⟨fun t10_9 w10 =>
  FieldAtK Try.prog 52 t10_9 1 (@hid _ ⟨fun t11_11 w12 =>
  StoreK Try.prog 26 t11_11 (Go.Value.slice none 0 0) (@hid _ ⟨fun tu_13 w14 =>
  R t8_7 w14⟩) w12⟩) w10⟩) w8⟩) w6⟩) w4⟩) w2⟩) w0
def a13 : Ann := (.seq .no (.seq .no (.seq .no (.seq .no .no))))
theorem F13_eq (x0 : Value) (R : Value → World → Prop) (w0 : World) : F13 x0 R w0 = vc Try.prog (bodyOf Try.f13) a13 (retQ Try.prog Try.f13 R) (envOf 0 [x0]) w0 := by kernel_rfl
theorem F13_calls (x0 : Value) (R : Value → World → Prop) (w0 : World) (h : F13 x0 R w0) : CallK Try.prog 13 #[x0] R w0 :=
  calls_vc (c := bodyOf Try.f13) Try.func13 (by kernel_rfl) (by kernel_rfl) a13 (by kernel_rfl) (by kernel_rfl) [x0] (by rw [Try.ntmps13]; exact Nat.le_of_ble_eq_true rfl) w0 R ((F13_eq x0 R w0).mp h)

/-- (*canton/bag.Bag[string]).Len, its body as a formula. -/
def F14 (x0 : Value) (R : Value → World → Prop) (w0 : World) : Prop :=
  NilK Try.prog x0 (@hid _ ⟨fun t4_1 w2 =>
  FieldAtK Try.prog 52 t4_1 1 (@hid _ ⟨fun t5_3 w4 =>
  LoadK Try.prog 26 t5_3 (@hid _ ⟨fun t6_5 w6 =>
  BuiltinK Try.prog Go.Builtin.len #[26] 3 #[false] #[t6_5] (@hid _ ⟨fun t7_7 w8 =>
  R t7_7 w8⟩) w6⟩) w4⟩) w2⟩) w0
def a14 : Ann := (.seq .no (.seq .no .no))
theorem F14_eq (x0 : Value) (R : Value → World → Prop) (w0 : World) : F14 x0 R w0 = vc Try.prog (bodyOf Try.f14) a14 (retQ Try.prog Try.f14 R) (envOf 0 [x0]) w0 := by kernel_rfl
theorem F14_calls (x0 : Value) (R : Value → World → Prop) (w0 : World) (h : F14 x0 R w0) : CallK Try.prog 14 #[x0] R w0 :=
  calls_vc (c := bodyOf Try.f14) Try.func14 (by kernel_rfl) (by kernel_rfl) a14 (by kernel_rfl) (by kernel_rfl) [x0] (by rw [Try.ntmps14]; exact Nat.le_of_ble_eq_true rfl) w0 R ((F14_eq x0 R w0).mp h)

/-- canton/bag.New[int64], its body as a formula. -/
def F15 (x0 : Value) (R : Value → World → Prop) (w0 : World) : Prop :=
  BuiltinK Try.prog Go.Builtin.max #[3, 3] 3 #[false, true] #[x0, (Go.Value.int Go.IntKind.i64 1)] (@hid _ ⟨fun t4_1 w2 =>
  BuildK Try.prog 55 #[(0, t4_1)] (@hid _ ⟨fun t5_3 w4 =>
  BoxK Try.prog 55 t5_3 (@hid _ ⟨fun t6_5 w6 =>
  R t6_5 w6⟩) w4⟩) w2⟩) w0
def a15 : Ann := (.seq .no (.seq .no .no))
theorem F15_eq (x0 : Value) (R : Value → World → Prop) (w0 : World) : F15 x0 R w0 = vc Try.prog (bodyOf Try.f15) a15 (retQ Try.prog Try.f15 R) (envOf 0 [x0]) w0 := by kernel_rfl
theorem F15_calls (x0 : Value) (R : Value → World → Prop) (w0 : World) (h : F15 x0 R w0) : CallK Try.prog 15 #[x0] R w0 :=
  calls_vc (c := bodyOf Try.f15) Try.func15 (by kernel_rfl) (by kernel_rfl) a15 (by kernel_rfl) (by kernel_rfl) [x0] (by rw [Try.ntmps15]; exact Nat.le_of_ble_eq_true rfl) w0 R ((F15_eq x0 R w0).mp h)

/-- (*canton/bag.Bag[int64]).Put, its body as a formula. -/
def F16 (x0 x1 : Value) (R : Value → World → Prop) (w0 : World) : Prop :=
  DrawK (@hid _ ⟨fun S1 w2 =>
  TakeO Try.prog S1 (nilSem x0) (@hid _ ⟨fun t6_3 =>
  TakeS Try.prog S1 (Instr.fieldAt 55 t6_3 1) (@hid _ ⟨fun t7_4 =>
  TakeS Try.prog S1 (Instr.loadAt 37 t7_4) (@hid _ ⟨fun t8_5 =>
  TakeO Try.prog S1 (builtin Go.Builtin.len #[37] 3 #[false] #[t8_5]) (@hid _ ⟨fun t9_6 =>
  TakeO Try.prog S1 (nilSem x0) (@hid _ ⟨fun t11_7 =>
  TakeS Try.prog S1 (Instr.fieldAt 55 t11_7 0) (@hid _ ⟨fun t12_8 =>
  TakeS Try.prog S1 (Instr.loadAt 3 t12_8) (@hid _ ⟨fun t13_9 =>
  BinT Try.prog S1 Go.BinOp.geq 3 t9_6 t13_9 (@hid _ ⟨fun t14_10 =>
  BrK t14_10 (@hid _ ⟨
   R (Go.Value.int Go.IntKind.i64 9) w2⟩) (@hid _ ⟨
   NilK Try.prog x0 (@hid _ ⟨fun t17_11 w12 =>
   FieldAtK Try.prog 55 t17_11 1 (@hid _ ⟨fun t18_13 w14 =>
   LoadK Try.prog 37 t18_13 (@hid _ ⟨fun t19_15 w16 =>
   BuildSliceK Try.prog 37 1 #[(0, x1)] (@hid _ ⟨fun t21_17 w18 =>
   BuiltinK Try.prog Go.Builtin.append #[37, 37] 37 #[false, false] #[t19_15, t21_17] (@hid _ ⟨fun t22_19 w20 =>
   NilK Try.prog x0 (@hid _ ⟨fun t23_21 w22 =>
   FieldAtK Try.prog 55 t23_21 1 (@hid _ ⟨fun t24_23 w24 =>
   StoreK Try.prog 37 t24_23 t22_19 (@hid _ ⟨fun tu_25 w26 =>
   R (Go.Value.int Go.IntKind.i64 0) w26⟩) w24⟩) w22⟩) w20⟩) w18⟩) w16⟩) w14⟩) w12⟩) w2⟩)⟩)⟩)⟩)⟩)⟩)⟩)⟩)⟩)⟩) w0
def a16 : Ann := (.seq .no (.seq (.seq (.plan (.take 0 (.take 1 (.take 2 (.take 3 (.take 4 (.take 5 (.take 6 (.take 7 (.take 8 (.take 9 .done))))))))))) (.cond (.seq .no .no) .no)) (.seq .no (.seq .no .no))))
theorem F16_eq (x0 x1 : Value) (R : Value → World → Prop) (w0 : World) : F16 x0 x1 R w0 = vc Try.prog (bodyOf Try.f16) a16 (retQ Try.prog Try.f16 R) (envOf 0 [x0, x1]) w0 := by kernel_rfl
theorem F16_calls (x0 x1 : Value) (R : Value → World → Prop) (w0 : World) (h : F16 x0 x1 R w0) : CallK Try.prog 16 #[x0, x1] R w0 :=
  calls_vc (c := bodyOf Try.f16) Try.func16 (by kernel_rfl) (by kernel_rfl) a16 (by kernel_rfl) (by kernel_rfl) [x0, x1] (by rw [Try.ntmps16]; exact Nat.le_of_ble_eq_true rfl) w0 R ((F16_eq x0 x1 R w0).mp h)

/-- (*canton/bag.Bag[int64]).Take, its body as a formula. -/
def F17 (x0 x1 : Value) (R : Value → World → Prop) (w0 : World) : Prop :=
  CallV Try.prog (.func (.func 27) #[] #[]) #[x0, x1] (@hid _ ⟨fun t12_1 w2 =>
  ExtractK Try.prog t12_1 0 (@hid _ ⟨fun t13_3 w4 =>
  ExtractK Try.prog t12_1 1 (@hid _ ⟨fun t14_5 w6 =>
  CutK0 (@hid _ ⟨fun R7 =>
   BrK t14_5 (@hid _ ⟨
    CallV Try.prog (.func (.func 28) #[] #[]) #[x0, x1] (@hid _ ⟨fun t18_9 w10 =>
    NilK Try.prog x0 (@hid _ ⟨fun t21_11 w12 =>
    FieldAtK Try.prog 55 t21_11 1 (@hid _ ⟨fun t22_13 w14 =>
    LoadK Try.prog 37 t22_13 (@hid _ ⟨fun t23_15 w16 =>
    BinK Try.prog Go.BinOp.add 3 t18_9 (Go.Value.int Go.IntKind.i64 1) (@hid _ ⟨fun t26_17 w18 =>
    CallV Try.prog (.func (.func 29) #[] #[]) #[t23_15, t18_9, t26_17] (@hid _ ⟨fun t27_19 w20 =>
    NilK Try.prog x0 (@hid _ ⟨fun t28_21 w22 =>
    FieldAtK Try.prog 55 t28_21 1 (@hid _ ⟨fun t29_23 w24 =>
    StoreK Try.prog 37 t29_23 t27_19 (@hid _ ⟨fun tu_25 w26 =>
    R7 w26⟩) w24⟩) w22⟩) w20⟩) w18⟩) w16⟩) w14⟩) w12⟩) w10⟩) w6⟩) (@hid _ ⟨
    R7 w6⟩)⟩)
  (@hid _ ⟨fun _ w8 =>
   R (.tuple #[t13_3, t14_5]) w8⟩)⟩) w4⟩) w2⟩) w0
def a17 : Ann := (.seq .no (.seq .no (.cut [] [(8, 8), (15, 29)] (.seq .no (.cond (.seq .no .no) .no)) (.seq .no .no))))
theorem F17_eq (x0 x1 : Value) (R : Value → World → Prop) (w0 : World) : F17 x0 x1 R w0 = vc Try.prog (bodyOf Try.f17) a17 (retQ Try.prog Try.f17 R) (envOf 0 [x0, x1]) w0 := by kernel_rfl
theorem F17_calls (x0 x1 : Value) (R : Value → World → Prop) (w0 : World) (h : F17 x0 x1 R w0) : CallK Try.prog 17 #[x0, x1] R w0 :=
  calls_vc (c := bodyOf Try.f17) Try.func17 (by kernel_rfl) (by kernel_rfl) a17 (by kernel_rfl) (by kernel_rfl) [x0, x1] (by rw [Try.ntmps17]; exact Nat.le_of_ble_eq_true rfl) w0 R ((F17_eq x0 x1 R w0).mp h)

/-- canton/bag.New[int], its body as a formula. -/
def F18 (x0 : Value) (R : Value → World → Prop) (w0 : World) : Prop :=
  BuiltinK Try.prog Go.Builtin.max #[3, 3] 3 #[false, true] #[x0, (Go.Value.int Go.IntKind.i64 1)] (@hid _ ⟨fun t4_1 w2 =>
  BuildK Try.prog 58 #[(0, t4_1)] (@hid _ ⟨fun t5_3 w4 =>
  BoxK Try.prog 58 t5_3 (@hid _ ⟨fun t6_5 w6 =>
  R t6_5 w6⟩) w4⟩) w2⟩) w0
def a18 : Ann := (.seq .no (.seq .no .no))
theorem F18_eq (x0 : Value) (R : Value → World → Prop) (w0 : World) : F18 x0 R w0 = vc Try.prog (bodyOf Try.f18) a18 (retQ Try.prog Try.f18 R) (envOf 0 [x0]) w0 := by kernel_rfl
theorem F18_calls (x0 : Value) (R : Value → World → Prop) (w0 : World) (h : F18 x0 R w0) : CallK Try.prog 18 #[x0] R w0 :=
  calls_vc (c := bodyOf Try.f18) Try.func18 (by kernel_rfl) (by kernel_rfl) a18 (by kernel_rfl) (by kernel_rfl) [x0] (by rw [Try.ntmps18]; exact Nat.le_of_ble_eq_true rfl) w0 R ((F18_eq x0 R w0).mp h)

/-- (*canton/bag.Bag[int]).Put, its body as a formula. -/
def F19 (x0 x1 : Value) (R : Value → World → Prop) (w0 : World) : Prop :=
  DrawK (@hid _ ⟨fun S1 w2 =>
  TakeO Try.prog S1 (nilSem x0) (@hid _ ⟨fun t6_3 =>
  TakeS Try.prog S1 (Instr.fieldAt 58 t6_3 1) (@hid _ ⟨fun t7_4 =>
  TakeS Try.prog S1 (Instr.loadAt 38 t7_4) (@hid _ ⟨fun t8_5 =>
  TakeO Try.prog S1 (builtin Go.Builtin.len #[38] 3 #[false] #[t8_5]) (@hid _ ⟨fun t9_6 =>
  TakeO Try.prog S1 (nilSem x0) (@hid _ ⟨fun t11_7 =>
  TakeS Try.prog S1 (Instr.fieldAt 58 t11_7 0) (@hid _ ⟨fun t12_8 =>
  TakeS Try.prog S1 (Instr.loadAt 3 t12_8) (@hid _ ⟨fun t13_9 =>
  BinT Try.prog S1 Go.BinOp.geq 3 t9_6 t13_9 (@hid _ ⟨fun t14_10 =>
  BrK t14_10 (@hid _ ⟨
   R (Go.Value.int Go.IntKind.i64 9) w2⟩) (@hid _ ⟨
   NilK Try.prog x0 (@hid _ ⟨fun t17_11 w12 =>
   FieldAtK Try.prog 58 t17_11 1 (@hid _ ⟨fun t18_13 w14 =>
   LoadK Try.prog 38 t18_13 (@hid _ ⟨fun t19_15 w16 =>
   BuildSliceK Try.prog 38 1 #[(0, x1)] (@hid _ ⟨fun t21_17 w18 =>
   BuiltinK Try.prog Go.Builtin.append #[38, 38] 38 #[false, false] #[t19_15, t21_17] (@hid _ ⟨fun t22_19 w20 =>
   NilK Try.prog x0 (@hid _ ⟨fun t23_21 w22 =>
   FieldAtK Try.prog 58 t23_21 1 (@hid _ ⟨fun t24_23 w24 =>
   StoreK Try.prog 38 t24_23 t22_19 (@hid _ ⟨fun tu_25 w26 =>
   R (Go.Value.int Go.IntKind.i64 0) w26⟩) w24⟩) w22⟩) w20⟩) w18⟩) w16⟩) w14⟩) w12⟩) w2⟩)⟩)⟩)⟩)⟩)⟩)⟩)⟩)⟩)⟩) w0
def a19 : Ann := (.seq .no (.seq (.seq (.plan (.take 0 (.take 1 (.take 2 (.take 3 (.take 4 (.take 5 (.take 6 (.take 7 (.take 8 (.take 9 .done))))))))))) (.cond (.seq .no .no) .no)) (.seq .no (.seq .no .no))))
theorem F19_eq (x0 x1 : Value) (R : Value → World → Prop) (w0 : World) : F19 x0 x1 R w0 = vc Try.prog (bodyOf Try.f19) a19 (retQ Try.prog Try.f19 R) (envOf 0 [x0, x1]) w0 := by kernel_rfl
theorem F19_calls (x0 x1 : Value) (R : Value → World → Prop) (w0 : World) (h : F19 x0 x1 R w0) : CallK Try.prog 19 #[x0, x1] R w0 :=
  calls_vc (c := bodyOf Try.f19) Try.func19 (by kernel_rfl) (by kernel_rfl) a19 (by kernel_rfl) (by kernel_rfl) [x0, x1] (by rw [Try.ntmps19]; exact Nat.le_of_ble_eq_true rfl) w0 R ((F19_eq x0 x1 R w0).mp h)

/-- (*canton/bag.Bag[int]).Copy, its body as a formula. -/
def F20 (x0 x1 : Value) (R : Value → World → Prop) (w0 : World) : Prop :=
  CallV Try.prog (.func (.func 22) #[] #[]) #[x0, x1] (@hid _ ⟨fun t10_1 w2 =>
  ExtractK Try.prog t10_1 0 (@hid _ ⟨fun t11_3 w4 =>
  ExtractK Try.prog t10_1 1 (@hid _ ⟨fun t12_5 w6 =>
  UnK Try.prog Go.UnOp.not t12_5 (@hid _ ⟨fun t14_7 w8 =>
  BrK t14_7 (@hid _ ⟨
   R (Go.Value.int Go.IntKind.i64 8) w8⟩) (@hid _ ⟨
   CallV Try.prog (.func (.func 19) #[] #[]) #[x0, t11_3] (@hid _ ⟨fun t17_9 w10 =>
   R t17_9 w10⟩) w8⟩)⟩) w6⟩) w4⟩) w2⟩) w0
def a20 : Ann := (.seq .no (.seq .no (.seq (.seq .no (.cond (.seq .no .no) .no)) (.seq .no .no))))
theorem F20_eq (x0 x1 : Value) (R : Value → World → Prop) (w0 : World) : F20 x0 x1 R w0 = vc Try.prog (bodyOf Try.f20) a20 (retQ Try.prog Try.f20 R) (envOf 0 [x0, x1]) w0 := by kernel_rfl
theorem F20_calls (x0 x1 : Value) (R : Value → World → Prop) (w0 : World) (h : F20 x0 x1 R w0) : CallK Try.prog 20 #[x0, x1] R w0 :=
  calls_vc (c := bodyOf Try.f20) Try.func20 (by kernel_rfl) (by kernel_rfl) a20 (by kernel_rfl) (by kernel_rfl) [x0, x1] (by rw [Try.ntmps20]; exact Nat.le_of_ble_eq_true rfl) w0 R ((F20_eq x0 x1 R w0).mp h)

/-- (*canton/bag.Bag[int]).Take, its body as a formula. -/
def F21 (x0 x1 : Value) (R : Value → World → Prop) (w0 : World) : Prop :=
  CallV Try.prog (.func (.func 22) #[] #[]) #[x0, x1] (@hid _ ⟨fun t12_1 w2 =>
  ExtractK Try.prog t12_1 0 (@hid _ ⟨fun t13_3 w4 =>
  ExtractK Try.prog t12_1 1 (@hid _ ⟨fun t14_5 w6 =>
  CutK0 (@hid _ ⟨fun R7 =>
   BrK t14_5 (@hid _ ⟨
    CallV Try.prog (.func (.func 30) #[] #[]) #[x0, x1] (@hid _ ⟨fun t18_9 w10 =>
    NilK Try.prog x0 (@hid _ ⟨fun t21_11 w12 =>
    FieldAtK Try.prog 58 t21_11 1 (@hid _ ⟨fun t22_13 w14 =>
    LoadK Try.prog 38 t22_13 (@hid _ ⟨fun t23_15 w16 =>
    BinK Try.prog Go.BinOp.add 3 t18_9 (Go.Value.int Go.IntKind.i64 1) (@hid _ ⟨fun t26_17 w18 =>
    CallV Try.prog (.func (.func 31) #[] #[]) #[t23_15, t18_9, t26_17] (@hid _ ⟨fun t27_19 w20 =>
    NilK Try.prog x0 (@hid _ ⟨fun t28_21 w22 =>
    FieldAtK Try.prog 58 t28_21 1 (@hid _ ⟨fun t29_23 w24 =>
    StoreK Try.prog 38 t29_23 t27_19 (@hid _ ⟨fun tu_25 w26 =>
    R7 w26⟩) w24⟩) w22⟩) w20⟩) w18⟩) w16⟩) w14⟩) w12⟩) w10⟩) w6⟩) (@hid _ ⟨
    R7 w6⟩)⟩)
  (@hid _ ⟨fun _ w8 =>
   R (.tuple #[t13_3, t14_5]) w8⟩)⟩) w4⟩) w2⟩) w0
def a21 : Ann := (.seq .no (.seq .no (.cut [] [(8, 8), (15, 29)] (.seq .no (.cond (.seq .no .no) .no)) (.seq .no .no))))
theorem F21_eq (x0 x1 : Value) (R : Value → World → Prop) (w0 : World) : F21 x0 x1 R w0 = vc Try.prog (bodyOf Try.f21) a21 (retQ Try.prog Try.f21 R) (envOf 0 [x0, x1]) w0 := by kernel_rfl
theorem F21_calls (x0 x1 : Value) (R : Value → World → Prop) (w0 : World) (h : F21 x0 x1 R w0) : CallK Try.prog 21 #[x0, x1] R w0 :=
  calls_vc (c := bodyOf Try.f21) Try.func21 (by kernel_rfl) (by kernel_rfl) a21 (by kernel_rfl) (by kernel_rfl) [x0, x1] (by rw [Try.ntmps21]; exact Nat.le_of_ble_eq_true rfl) w0 R ((F21_eq x0 x1 R w0).mp h)

/-- (*canton/bag.Bag[int]).See, its body as a formula. -/
def F22 (x0 x1 : Value) (R : Value → World → Prop) (w0 : World) : Prop :=
  NilK Try.prog x0 (@hid _ ⟨fun t8_1 w2 =>
  FieldAtK Try.prog 58 t8_1 1 (@hid _ ⟨fun t9_3 w4 =>
  LoadK Try.prog 38 t9_3 (@hid _ ⟨fun t10_5 w6 =>
  BuiltinK Try.prog Go.Builtin.len #[38] 3 #[false] #[t10_5] (@hid _ ⟨fun t11_7 w8 =>
  BinK Try.prog Go.BinOp.eql 3 t11_7 (Go.Value.int Go.IntKind.i64 0) (@hid _ ⟨fun t12_9 w10 =>
  BrK t12_9 (@hid _ ⟨
   R (.tuple #[(Go.Value.int Go.IntKind.i64 0), (Go.Value.bool false)]) w10⟩) (@hid _ ⟨
   DrawK (@hid _ ⟨fun S11 w12 =>
   TakeO Try.prog S11 (nilSem x0) (@hid _ ⟨fun t15_13 =>
   TakeS Try.prog S11 (Instr.fieldAt 58 t15_13 1) (@hid _ ⟨fun t16_14 =>
   TakeS Try.prog S11 (Instr.loadAt 38 t16_14) (@hid _ ⟨fun t17_15 =>
   (CallV Try.prog (.func (.func 30) #[] #[]) #[x0, x1] (@hid _ ⟨fun t20_16 w17 =>
   S11 w17 ∧
   TakeS Try.prog S11 (Instr.indexAt 38 t17_15 t20_16) (@hid _ ⟨fun t21_18 =>
   TakeS Try.prog S11 (Instr.loadAt 3 t21_18) (@hid _ ⟨fun t22_19 =>
   R (.tuple #[t22_19, (Go.Value.bool true)]) w17⟩)⟩)⟩) w12) ∧
   True⟩)⟩)⟩)⟩) w10⟩)⟩) w8⟩) w6⟩) w4⟩) w2⟩) w0
def a22 : Ann := (.seq .no (.seq (.seq .no (.cond (.seq .no (.seq .no .no)) .no)) (.seq (.plan (.take 0 (.take 1 (.take 2 (.take 3 (.take 4 (.take 5 (.alt 6 (.take 7 (.take 8 (.take 9 (.take 10 .done)))) .nil)))))))) .no)))
theorem F22_eq (x0 x1 : Value) (R : Value → World → Prop) (w0 : World) : F22 x0 x1 R w0 = vc Try.prog (bodyOf Try.f22) a22 (retQ Try.prog Try.f22 R) (envOf 0 [x0, x1]) w0 := by kernel_rfl
theorem F22_calls (x0 x1 : Value) (R : Value → World → Prop) (w0 : World) (h : F22 x0 x1 R w0) : CallK Try.prog 22 #[x0, x1] R w0 :=
  calls_vc (c := bodyOf Try.f22) Try.func22 (by kernel_rfl) (by kernel_rfl) a22 (by kernel_rfl) (by kernel_rfl) [x0, x1] (by rw [Try.ntmps22]; exact Nat.le_of_ble_eq_true rfl) w0 R ((F22_eq x0 x1 R w0).mp h)

/-- (*canton/bag.Bag[int]).Clear, its body as a formula. -/
def F23 (x0 : Value) (R : Value → World → Prop) (w0 : World) : Prop :=
  NilK Try.prog x0 (@hid _ ⟨fun t5_1 w2 =>
  FieldAtK Try.prog 58 t5_1 1 (@hid _ ⟨fun t6_3 w4 =>
  LoadK Try.prog 38 t6_3 (@hid _ ⟨fun t7_5 w6 =>
  BuiltinK Try.prog Go.Builtin.len #[38] 3 #[false] #[t7_5] (@hid _ ⟨fun t8_7 w8 =>
  NilK Try.prog x0 (@hid _ ⟨fun t10_9 w10 =>
  FieldAtK Try.prog 58 t10_9 1 (@hid _ ⟨fun t11_11 w12 =>
  StoreK Try.prog 38 t11_11 (Go.Value.slice none 0 0) (@hid _ ⟨fun tu_13 w14 =>
  R t8_7 w14⟩) w12⟩) w10⟩) w8⟩) w6⟩) w4⟩) w2⟩) w0
def a23 : Ann := (.seq .no (.seq .no (.seq .no (.seq .no .no))))
theorem F23_eq (x0 : Value) (R : Value → World → Prop) (w0 : World) : F23 x0 R w0 = vc Try.prog (bodyOf Try.f23) a23 (retQ Try.prog Try.f23 R) (envOf 0 [x0]) w0 := by kernel_rfl
theorem F23_calls (x0 : Value) (R : Value → World → Prop) (w0 : World) (h : F23 x0 R w0) : CallK Try.prog 23 #[x0] R w0 :=
  calls_vc (c := bodyOf Try.f23) Try.func23 (by kernel_rfl) (by kernel_rfl) a23 (by kernel_rfl) (by kernel_rfl) [x0] (by rw [Try.ntmps23]; exact Nat.le_of_ble_eq_true rfl) w0 R ((F23_eq x0 R w0).mp h)

/-- canton/cantonlaw23.b0, its body as a formula. -/
def F24 (x0 : Value) (R : Value → World → Prop) (w0 : World) : Prop :=
  BinK Try.prog Go.BinOp.eql 3 x0 (Go.Value.int Go.IntKind.i64 1) (@hid _ ⟨fun t4_1 w2 =>
  BrK t4_1 (@hid _ ⟨
   R (Go.Value.int Go.IntKind.i64 0) w2⟩) (@hid _ ⟨
   R x0 w2⟩)⟩) w0
def a24 : Ann := (.seq .no (.seq (.seq .no (.cond (.seq .no .no) .no)) (.seq .no .no)))
theorem F24_eq (x0 : Value) (R : Value → World → Prop) (w0 : World) : F24 x0 R w0 = vc Try.prog (bodyOf Try.f24) a24 (retQ Try.prog Try.f24 R) (envOf 0 [x0]) w0 := by kernel_rfl
theorem F24_calls (x0 : Value) (R : Value → World → Prop) (w0 : World) (h : F24 x0 R w0) : CallK Try.prog 24 #[x0] R w0 :=
  calls_vc (c := bodyOf Try.f24) Try.func24 (by kernel_rfl) (by kernel_rfl) a24 (by kernel_rfl) (by kernel_rfl) [x0] (by rw [Try.ntmps24]; exact Nat.le_of_ble_eq_true rfl) w0 R ((F24_eq x0 R w0).mp h)

/-- (*canton/bag.Bag[string]).at, its body as a formula. -/
def F25 (x0 x1 : Value) (R : Value → World → Prop) (w0 : World) : Prop :=
  BuiltinK Try.prog Go.Builtin.max #[3, 3] 3 #[false, true] #[x1, (Go.Value.int Go.IntKind.i64 0)] (@hid _ ⟨fun t6_1 w2 =>
  NilK Try.prog x0 (@hid _ ⟨fun t8_3 w4 =>
  FieldAtK Try.prog 52 t8_3 1 (@hid _ ⟨fun t9_5 w6 =>
  LoadK Try.prog 26 t9_5 (@hid _ ⟨fun t10_7 w8 =>
  BuiltinK Try.prog Go.Builtin.len #[26] 3 #[false] #[t10_7] (@hid _ ⟨fun t11_9 w10 =>
  BinK Try.prog Go.BinOp.rem 3 t6_1 t11_9 (@hid _ ⟨fun t12_11 w12 =>
  R t12_11 w12⟩) w10⟩) w8⟩) w6⟩) w4⟩) w2⟩) w0
def a25 : Ann := (.seq .no (.seq .no .no))
theorem F25_eq (x0 x1 : Value) (R : Value → World → Prop) (w0 : World) : F25 x0 x1 R w0 = vc Try.prog (bodyOf Try.f25) a25 (retQ Try.prog Try.f25 R) (envOf 0 [x0, x1]) w0 := by kernel_rfl
theorem F25_calls (x0 x1 : Value) (R : Value → World → Prop) (w0 : World) (h : F25 x0 x1 R w0) : CallK Try.prog 25 #[x0, x1] R w0 :=
  calls_vc (c := bodyOf Try.f25) Try.func25 (by kernel_rfl) (by kernel_rfl) a25 (by kernel_rfl) (by kernel_rfl) [x0, x1] (by rw [Try.ntmps25]; exact Nat.le_of_ble_eq_true rfl) w0 R ((F25_eq x0 x1 R w0).mp h)

/-- slices.Delete[[]string,string], its body as a formula. -/
def F26 (x0 x1 x2 : Value) (R : Value → World → Prop) (w0 : World) : Prop :=
  BuiltinK Try.prog Go.Builtin.len #[26] 3 #[false] #[x0] (@hid _ ⟨fun t12_1 w2 =>
  SliceK Try.prog 26 x0 (some x1) (some x2) (some t12_1) (@hid _ ⟨fun t13_3 w4 =>
  BinK Try.prog Go.BinOp.eql 3 x1 x2 (@hid _ ⟨fun t16_5 w6 =>
  BrK t16_5 (@hid _ ⟨
   R x0 w6⟩) (@hid _ ⟨
   BuiltinK Try.prog Go.Builtin.len #[26] 3 #[false] #[x0] (@hid _ ⟨fun t19_7 w8 =>
   DrawK (@hid _ ⟨fun S9 w10 =>
   TakeS Try.prog S9 (Instr.sliceAt 26 x0 none (some x1) none) (@hid _ ⟨fun t22_11 =>
   TakeS Try.prog S9 (Instr.sliceAt 26 x0 (some x2) none none) (@hid _ ⟨fun t25_12 =>
   (BuiltinK Try.prog Go.Builtin.append #[26, 26] 26 #[false, false] #[t22_11, t25_12] (@hid _ ⟨fun t26_13 w14 =>
   S9 w14 ∧
   BuiltinK Try.prog Go.Builtin.len #[26] 3 #[false] #[t26_13] (@hid _ ⟨fun t29_15 w16 =>
   SliceK Try.prog 26 t26_13 (some t29_15) (some t19_7) none (@hid _ ⟨fun t31_17 w18 =>
   BuiltinK Try.prog Go.Builtin.clear #[26] 0 #[false] #[t31_17] (@hid _ ⟨fun tu_19 w20 =>
   R t26_13 w20⟩) w18⟩) w16⟩) w14⟩) w10) ∧
   True⟩)⟩)⟩) w8⟩) w6⟩)⟩) w4⟩) w2⟩) w0
def a26 : Ann := (.seq .no (.seq .no (.seq (.seq .no (.cond (.seq .no .no) .no)) (.seq .no (.seq (.plan (.take 0 (.take 1 (.take 2 (.take 3 (.take 4 (.take 5 (.alt 6 (.take 7 .done) .nil)))))))) (.seq .no (.seq .no .no)))))))
theorem F26_eq (x0 x1 x2 : Value) (R : Value → World → Prop) (w0 : World) : F26 x0 x1 x2 R w0 = vc Try.prog (bodyOf Try.f26) a26 (retQ Try.prog Try.f26 R) (envOf 0 [x0, x1, x2]) w0 := by kernel_rfl
theorem F26_calls (x0 x1 x2 : Value) (R : Value → World → Prop) (w0 : World) (h : F26 x0 x1 x2 R w0) : CallK Try.prog 26 #[x0, x1, x2] R w0 :=
  calls_vc (c := bodyOf Try.f26) Try.func26 (by kernel_rfl) (by kernel_rfl) a26 (by kernel_rfl) (by kernel_rfl) [x0, x1, x2] (by rw [Try.ntmps26]; exact Nat.le_of_ble_eq_true rfl) w0 R ((F26_eq x0 x1 x2 R w0).mp h)

/-- (*canton/bag.Bag[int64]).See, its body as a formula. -/
def F27 (x0 x1 : Value) (R : Value → World → Prop) (w0 : World) : Prop :=
  NilK Try.prog x0 (@hid _ ⟨fun t8_1 w2 =>
  FieldAtK Try.prog 55 t8_1 1 (@hid _ ⟨fun t9_3 w4 =>
  LoadK Try.prog 37 t9_3 (@hid _ ⟨fun t10_5 w6 =>
  BuiltinK Try.prog Go.Builtin.len #[37] 3 #[false] #[t10_5] (@hid _ ⟨fun t11_7 w8 =>
  BinK Try.prog Go.BinOp.eql 3 t11_7 (Go.Value.int Go.IntKind.i64 0) (@hid _ ⟨fun t12_9 w10 =>
  BrK t12_9 (@hid _ ⟨
   R (.tuple #[(Go.Value.int Go.IntKind.i64 0), (Go.Value.bool false)]) w10⟩) (@hid _ ⟨
   DrawK (@hid _ ⟨fun S11 w12 =>
   TakeO Try.prog S11 (nilSem x0) (@hid _ ⟨fun t15_13 =>
   TakeS Try.prog S11 (Instr.fieldAt 55 t15_13 1) (@hid _ ⟨fun t16_14 =>
   TakeS Try.prog S11 (Instr.loadAt 37 t16_14) (@hid _ ⟨fun t17_15 =>
   (CallV Try.prog (.func (.func 28) #[] #[]) #[x0, x1] (@hid _ ⟨fun t20_16 w17 =>
   S11 w17 ∧
   TakeS Try.prog S11 (Instr.indexAt 37 t17_15 t20_16) (@hid _ ⟨fun t21_18 =>
   TakeS Try.prog S11 (Instr.loadAt 2 t21_18) (@hid _ ⟨fun t22_19 =>
   R (.tuple #[t22_19, (Go.Value.bool true)]) w17⟩)⟩)⟩) w12) ∧
   True⟩)⟩)⟩)⟩) w10⟩)⟩) w8⟩) w6⟩) w4⟩) w2⟩) w0
def a27 : Ann := (.seq .no (.seq (.seq .no (.cond (.seq .no (.seq .no .no)) .no)) (.seq (.plan (.take 0 (.take 1 (.take 2 (.take 3 (.take 4 (.take 5 (.alt 6 (.take 7 (.take 8 (.take 9 (.take 10 .done)))) .nil)))))))) .no)))
theorem F27_eq (x0 x1 : Value) (R : Value → World → Prop) (w0 : World) : F27 x0 x1 R w0 = vc Try.prog (bodyOf Try.f27) a27 (retQ Try.prog Try.f27 R) (envOf 0 [x0, x1]) w0 := by kernel_rfl
theorem F27_calls (x0 x1 : Value) (R : Value → World → Prop) (w0 : World) (h : F27 x0 x1 R w0) : CallK Try.prog 27 #[x0, x1] R w0 :=
  calls_vc (c := bodyOf Try.f27) Try.func27 (by kernel_rfl) (by kernel_rfl) a27 (by kernel_rfl) (by kernel_rfl) [x0, x1] (by rw [Try.ntmps27]; exact Nat.le_of_ble_eq_true rfl) w0 R ((F27_eq x0 x1 R w0).mp h)

/-- (*canton/bag.Bag[int64]).at, its body as a formula. -/
def F28 (x0 x1 : Value) (R : Value → World → Prop) (w0 : World) : Prop :=
  BuiltinK Try.prog Go.Builtin.max #[3, 3] 3 #[false, true] #[x1, (Go.Value.int Go.IntKind.i64 0)] (@hid _ ⟨fun t6_1 w2 =>
  NilK Try.prog x0 (@hid _ ⟨fun t8_3 w4 =>
  FieldAtK Try.prog 55 t8_3 1 (@hid _ ⟨fun t9_5 w6 =>
  LoadK Try.prog 37 t9_5 (@hid _ ⟨fun t10_7 w8 =>
  BuiltinK Try.prog Go.Builtin.len #[37] 3 #[false] #[t10_7] (@hid _ ⟨fun t11_9 w10 =>
  BinK Try.prog Go.BinOp.rem 3 t6_1 t11_9 (@hid _ ⟨fun t12_11 w12 =>
  R t12_11 w12⟩) w10⟩) w8⟩) w6⟩) w4⟩) w2⟩) w0
def a28 : Ann := (.seq .no (.seq .no .no))
theorem F28_eq (x0 x1 : Value) (R : Value → World → Prop) (w0 : World) : F28 x0 x1 R w0 = vc Try.prog (bodyOf Try.f28) a28 (retQ Try.prog Try.f28 R) (envOf 0 [x0, x1]) w0 := by kernel_rfl
theorem F28_calls (x0 x1 : Value) (R : Value → World → Prop) (w0 : World) (h : F28 x0 x1 R w0) : CallK Try.prog 28 #[x0, x1] R w0 :=
  calls_vc (c := bodyOf Try.f28) Try.func28 (by kernel_rfl) (by kernel_rfl) a28 (by kernel_rfl) (by kernel_rfl) [x0, x1] (by rw [Try.ntmps28]; exact Nat.le_of_ble_eq_true rfl) w0 R ((F28_eq x0 x1 R w0).mp h)

/-- slices.Delete[[]int64,int64], its body as a formula. -/
def F29 (x0 x1 x2 : Value) (R : Value → World → Prop) (w0 : World) : Prop :=
  BuiltinK Try.prog Go.Builtin.len #[37] 3 #[false] #[x0] (@hid _ ⟨fun t12_1 w2 =>
  SliceK Try.prog 37 x0 (some x1) (some x2) (some t12_1) (@hid _ ⟨fun t13_3 w4 =>
  BinK Try.prog Go.BinOp.eql 3 x1 x2 (@hid _ ⟨fun t16_5 w6 =>
  BrK t16_5 (@hid _ ⟨
   R x0 w6⟩) (@hid _ ⟨
   BuiltinK Try.prog Go.Builtin.len #[37] 3 #[false] #[x0] (@hid _ ⟨fun t19_7 w8 =>
   DrawK (@hid _ ⟨fun S9 w10 =>
   TakeS Try.prog S9 (Instr.sliceAt 37 x0 none (some x1) none) (@hid _ ⟨fun t22_11 =>
   TakeS Try.prog S9 (Instr.sliceAt 37 x0 (some x2) none none) (@hid _ ⟨fun t25_12 =>
   (BuiltinK Try.prog Go.Builtin.append #[37, 37] 37 #[false, false] #[t22_11, t25_12] (@hid _ ⟨fun t26_13 w14 =>
   S9 w14 ∧
   BuiltinK Try.prog Go.Builtin.len #[37] 3 #[false] #[t26_13] (@hid _ ⟨fun t29_15 w16 =>
   SliceK Try.prog 37 t26_13 (some t29_15) (some t19_7) none (@hid _ ⟨fun t31_17 w18 =>
   BuiltinK Try.prog Go.Builtin.clear #[37] 0 #[false] #[t31_17] (@hid _ ⟨fun tu_19 w20 =>
   R t26_13 w20⟩) w18⟩) w16⟩) w14⟩) w10) ∧
   True⟩)⟩)⟩) w8⟩) w6⟩)⟩) w4⟩) w2⟩) w0
def a29 : Ann := (.seq .no (.seq .no (.seq (.seq .no (.cond (.seq .no .no) .no)) (.seq .no (.seq (.plan (.take 0 (.take 1 (.take 2 (.take 3 (.take 4 (.take 5 (.alt 6 (.take 7 .done) .nil)))))))) (.seq .no (.seq .no .no)))))))
theorem F29_eq (x0 x1 x2 : Value) (R : Value → World → Prop) (w0 : World) : F29 x0 x1 x2 R w0 = vc Try.prog (bodyOf Try.f29) a29 (retQ Try.prog Try.f29 R) (envOf 0 [x0, x1, x2]) w0 := by kernel_rfl
theorem F29_calls (x0 x1 x2 : Value) (R : Value → World → Prop) (w0 : World) (h : F29 x0 x1 x2 R w0) : CallK Try.prog 29 #[x0, x1, x2] R w0 :=
  calls_vc (c := bodyOf Try.f29) Try.func29 (by kernel_rfl) (by kernel_rfl) a29 (by kernel_rfl) (by kernel_rfl) [x0, x1, x2] (by rw [Try.ntmps29]; exact Nat.le_of_ble_eq_true rfl) w0 R ((F29_eq x0 x1 x2 R w0).mp h)

/-- (*canton/bag.Bag[int]).at, its body as a formula. -/
def F30 (x0 x1 : Value) (R : Value → World → Prop) (w0 : World) : Prop :=
  BuiltinK Try.prog Go.Builtin.max #[3, 3] 3 #[false, true] #[x1, (Go.Value.int Go.IntKind.i64 0)] (@hid _ ⟨fun t6_1 w2 =>
  NilK Try.prog x0 (@hid _ ⟨fun t8_3 w4 =>
  FieldAtK Try.prog 58 t8_3 1 (@hid _ ⟨fun t9_5 w6 =>
  LoadK Try.prog 38 t9_5 (@hid _ ⟨fun t10_7 w8 =>
  BuiltinK Try.prog Go.Builtin.len #[38] 3 #[false] #[t10_7] (@hid _ ⟨fun t11_9 w10 =>
  BinK Try.prog Go.BinOp.rem 3 t6_1 t11_9 (@hid _ ⟨fun t12_11 w12 =>
  R t12_11 w12⟩) w10⟩) w8⟩) w6⟩) w4⟩) w2⟩) w0
def a30 : Ann := (.seq .no (.seq .no .no))
theorem F30_eq (x0 x1 : Value) (R : Value → World → Prop) (w0 : World) : F30 x0 x1 R w0 = vc Try.prog (bodyOf Try.f30) a30 (retQ Try.prog Try.f30 R) (envOf 0 [x0, x1]) w0 := by kernel_rfl
theorem F30_calls (x0 x1 : Value) (R : Value → World → Prop) (w0 : World) (h : F30 x0 x1 R w0) : CallK Try.prog 30 #[x0, x1] R w0 :=
  calls_vc (c := bodyOf Try.f30) Try.func30 (by kernel_rfl) (by kernel_rfl) a30 (by kernel_rfl) (by kernel_rfl) [x0, x1] (by rw [Try.ntmps30]; exact Nat.le_of_ble_eq_true rfl) w0 R ((F30_eq x0 x1 R w0).mp h)

/-- slices.Delete[[]int,int], its body as a formula. -/
def F31 (x0 x1 x2 : Value) (R : Value → World → Prop) (w0 : World) : Prop :=
  BuiltinK Try.prog Go.Builtin.len #[38] 3 #[false] #[x0] (@hid _ ⟨fun t12_1 w2 =>
  SliceK Try.prog 38 x0 (some x1) (some x2) (some t12_1) (@hid _ ⟨fun t13_3 w4 =>
  BinK Try.prog Go.BinOp.eql 3 x1 x2 (@hid _ ⟨fun t16_5 w6 =>
  BrK t16_5 (@hid _ ⟨
   R x0 w6⟩) (@hid _ ⟨
   BuiltinK Try.prog Go.Builtin.len #[38] 3 #[false] #[x0] (@hid _ ⟨fun t19_7 w8 =>
   DrawK (@hid _ ⟨fun S9 w10 =>
   TakeS Try.prog S9 (Instr.sliceAt 38 x0 none (some x1) none) (@hid _ ⟨fun t22_11 =>
   TakeS Try.prog S9 (Instr.sliceAt 38 x0 (some x2) none none) (@hid _ ⟨fun t25_12 =>
   (BuiltinK Try.prog Go.Builtin.append #[38, 38] 38 #[false, false] #[t22_11, t25_12] (@hid _ ⟨fun t26_13 w14 =>
   S9 w14 ∧
   BuiltinK Try.prog Go.Builtin.len #[38] 3 #[false] #[t26_13] (@hid _ ⟨fun t29_15 w16 =>
   SliceK Try.prog 38 t26_13 (some t29_15) (some t19_7) none (@hid _ ⟨fun t31_17 w18 =>
   BuiltinK Try.prog Go.Builtin.clear #[38] 0 #[false] #[t31_17] (@hid _ ⟨fun tu_19 w20 =>
   R t26_13 w20⟩) w18⟩) w16⟩) w14⟩) w10) ∧
   True⟩)⟩)⟩) w8⟩) w6⟩)⟩) w4⟩) w2⟩) w0
def a31 : Ann := (.seq .no (.seq .no (.seq (.seq .no (.cond (.seq .no .no) .no)) (.seq .no (.seq (.plan (.take 0 (.take 1 (.take 2 (.take 3 (.take 4 (.take 5 (.alt 6 (.take 7 .done) .nil)))))))) (.seq .no (.seq .no .no)))))))
theorem F31_eq (x0 x1 x2 : Value) (R : Value → World → Prop) (w0 : World) : F31 x0 x1 x2 R w0 = vc Try.prog (bodyOf Try.f31) a31 (retQ Try.prog Try.f31 R) (envOf 0 [x0, x1, x2]) w0 := by kernel_rfl
theorem F31_calls (x0 x1 x2 : Value) (R : Value → World → Prop) (w0 : World) (h : F31 x0 x1 x2 R w0) : CallK Try.prog 31 #[x0, x1, x2] R w0 :=
  calls_vc (c := bodyOf Try.f31) Try.func31 (by kernel_rfl) (by kernel_rfl) a31 (by kernel_rfl) (by kernel_rfl) [x0, x1, x2] (by rw [Try.ntmps31]; exact Nat.le_of_ble_eq_true rfl) w0 R ((F31_eq x0 x1 x2 R w0).mp h)

end Go.Proofs.Ytgnekfifdmjeaaa
