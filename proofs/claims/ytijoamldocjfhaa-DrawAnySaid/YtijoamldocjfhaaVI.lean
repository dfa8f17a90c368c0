import Derived.Test.YtijoamldocjfhaaRows
import Derived.Test.YtijoamldocjfhaaV2
set_option linter.unusedVariables false
set_option linter.unusedSimpArgs false
set_option maxRecDepth 100000
namespace Go.Proofs.Ytijoamldocjfhaa
open Go.RowKit Go.Cn
theorem klen23 (A : Option Addr) (n c : Nat) (K : Value → World → Prop) (w : World) : BuiltinK Try.prog .len #[23] 3 #[false] #[(.slice A n c)] K w = K (.int .i64 (n : Int)) w := by
  unfold BuiltinK; (first | (go_simp; rfl) | (go_simp; done))

theorem hlen23 (A : Option Addr) (n c : Nat) {K : Value → Prop} {w1 : World} : TakeO Try.prog (fun w' => w' = w1) (builtin .len #[23] 3 #[false] #[(.slice A n c)]) K = K (.int .i64 (n : Int)) := by
  exact here_o (fun w => by (first | (go_simp; rfl) | (go_simp; done)))

theorem kbgtr3 (x y : Int) (K : Value → World → Prop) (w : World) : BinK Try.prog .gtr 3 (.int .i64 x) (.int .i64 y) K w = K (.bool (decide (y < x))) w := by
  unfold BinK; (first | (go_simp; rfl) | (go_simp; done))

theorem kbs22_0  (K : Value → World → Prop) (w : World) : BuildSliceK Try.prog 22 0 #[] K w = K (.slice (some ⟨w.heap.size, 0, none⟩) 0 0) (w.alloc (.cells #[] 9)) := by
  unfold BuildSliceK; (first | (go_simp; rfl) | (go_simp; done))

theorem kbneq9 (x y : ByteArray) (K : Value → World → Prop) (w : World) : BinK Try.prog .neq 9 (.string x) (.string y) K w = K (.bool (!(x.toList == y.toList))) w := by
  unfold BinK; (first | (go_simp; rfl) | (go_simp; done))

theorem kbneq4 (x y : Bool) (K : Value → World → Prop) (w : World) : BinK Try.prog .neq 4 (.bool x) (.bool y) K w = K (.bool (x != y)) w := by
  cases x <;> cases y <;> (unfold BinK; (first | (go_simp; rfl) | (go_simp; done)))

theorem klen22 (A : Option Addr) (n c : Nat) (K : Value → World → Prop) (w : World) : BuiltinK Try.prog .len #[22] 3 #[false] #[(.slice A n c)] K w = K (.int .i64 (n : Int)) w := by
  unfold BuiltinK; (first | (go_simp; rfl) | (go_simp; done))

theorem hlen22 (A : Option Addr) (n c : Nat) {K : Value → Prop} {w1 : World} : TakeO Try.prog (fun w' => w' = w1) (builtin .len #[22] 3 #[false] #[(.slice A n c)]) K = K (.int .i64 (n : Int)) := by
  exact here_o (fun w => by (first | (go_simp; rfl) | (go_simp; done)))

theorem kblss3 (x y : Int) (K : Value → World → Prop) (w : World) : BinK Try.prog .lss 3 (.int .i64 x) (.int .i64 y) K w = K (.bool (decide (x < y))) w := by
  unfold BinK; (first | (go_simp; rfl) | (go_simp; done))

theorem kia23 (g o n c : Nat) (i : Int) (h : 0 ≤ i ∧ i < (n : Int)) (K : Value → World → Prop) (w : World) : IndexAtK Try.prog 23 (.slice (some ⟨g, o, none⟩) n c) (.int .i64 i) K w = K (.pointer (some ⟨g, o + i.toNat, none⟩)) w := by
  obtain ⟨h0, h1⟩ := h
  unfold IndexAtK; (first | (go_simp; rfl) | (go_simp; done))

theorem kld2 (a : Addr) (K : Value → World → Prop) (w : World) : LoadK Try.prog 2 (.pointer (some a)) K w = OptK (w.cell? a) (@hid _ ⟨fun v => K v w⟩) (LoadRaw Try.prog 2 a K w) := by
  exact loadK_eq Try.underlying2 rfl a K w

theorem kbgtr2 (x y : Int) (K : Value → World → Prop) (w : World) : BinK Try.prog .gtr 2 (.int .i64 x) (.int .i64 y) K w = K (.bool (decide (y < x))) w := by
  unfold BinK; (first | (go_simp; rfl) | (go_simp; done))

theorem kbrem2 (x y : Int) (h : 0 ≤ x ∧ 1 ≤ y ∧ x ≤ 9223372036854775807) (K : Value → World → Prop) (w : World) : BinK Try.prog .rem 2 (.int .i64 x) (.int .i64 y) K w = K (.int .i64 (x % y)) w := by
  obtain ⟨h0, h1, h2⟩ := h
  have h3 : ¬ y = 0 := by omega
  have h4 : x.tmod y = x % y := Int.tmod_eq_emod_of_nonneg h0
  have h5 : x.tdiv y = x / y := Int.tdiv_eq_ediv_of_nonneg h0
  unfold BinK; (first | (go_simp; rfl) | (go_simp; done))

theorem kia22 (g o n c : Nat) (i : Int) (h : 0 ≤ i ∧ i < (n : Int)) (K : Value → World → Prop) (w : World) : IndexAtK Try.prog 22 (.slice (some ⟨g, o, none⟩) n c) (.int .i64 i) K w = K (.pointer (some ⟨g, o + i.toNat, none⟩)) w := by
  obtain ⟨h0, h1⟩ := h
  unfold IndexAtK; (first | (go_simp; rfl) | (go_simp; done))

theorem kld9 (a : Addr) (K : Value → World → Prop) (w : World) : LoadK Try.prog 9 (.pointer (some a)) K w = OptK (w.cell? a) (@hid _ ⟨fun v => K v w⟩) (LoadRaw Try.prog 9 a K w) := by
  exact loadK_eq Try.underlying9 rfl a K w

theorem kbs22_1_0 (v0 : ByteArray) (K : Value → World → Prop) (w : World) : BuildSliceK Try.prog 22 1 #[(0, (.string v0))] K w = K (.slice (some ⟨w.heap.size, 0, none⟩) 1 1) (w.alloc (.cells #[(.string v0)] 9)) := by
  unfold BuildSliceK; (first | (go_simp; rfl) | (go_simp; done))

theorem ksl22_010 (g o n c : Nat) (h : Int) (hb : 0 ≤ h ∧ h ≤ (c : Int)) (K : Value → World → Prop) (w : World) : SliceK Try.prog 22 (.slice (some ⟨g, o, none⟩) n c) none (some (.int .i64 h)) none K w = K (.slice (some ⟨g, o, none⟩) h.toNat c) w := by
  obtain ⟨q0, q1⟩ := hb
  unfold SliceK; (first | (go_simp; rfl) | (go_simp; done) | (go_simp; split <;> simp_all))

theorem kbadd3 (x y : Int) (K : Value → World → Prop) (w : World) : BinK Try.prog .add 3 (.int .i64 x) (.int .i64 y) K w = K (.int .i64 (IntKind.i64.wrap (x + y))) w := by
  unfold BinK; (first | (go_simp; rfl) | (go_simp; done))

theorem ksl22_100 (g o n c : Nat) (l : Int) (hb : 0 ≤ l ∧ l ≤ (n : Int)) (K : Value → World → Prop) (w : World) : SliceK Try.prog 22 (.slice (some ⟨g, o, none⟩) n c) (some (.int .i64 l)) none none K w = K (.slice (if c = l.toNat then some ⟨g, o, none⟩ else some ⟨g, o + l.toNat, none⟩) (n - l.toNat) (c - l.toNat)) w := by
  obtain ⟨q0, q1⟩ := hb
  unfold SliceK; (first | (go_simp; rfl) | (go_simp; done) | (go_simp; split <;> simp_all))

theorem kblss2 (x y : Int) (K : Value → World → Prop) (w : World) : BinK Try.prog .lss 2 (.int .i64 x) (.int .i64 y) K w = K (.bool (decide (x < y))) w := by
  unfold BinK; (first | (go_simp; rfl) | (go_simp; done))

theorem kia32 (g o n c : Nat) (i : Int) (h : 0 ≤ i ∧ i < (n : Int)) (K : Value → World → Prop) (w : World) : IndexAtK Try.prog 32 (.slice (some ⟨g, o, none⟩) n c) (.int .i64 i) K w = K (.pointer (some ⟨g, o + i.toNat, none⟩)) w := by
  obtain ⟨h0, h1⟩ := h
  unfold IndexAtK; (first | (go_simp; rfl) | (go_simp; done))

theorem kld4 (a : Addr) (K : Value → World → Prop) (w : World) : LoadK Try.prog 4 (.pointer (some a)) K w = OptK (w.cell? a) (@hid _ ⟨fun v => K v w⟩) (LoadRaw Try.prog 4 a K w) := by
  exact loadK_eq Try.underlying4 rfl a K w

theorem kbsub3 (x y : Int) (K : Value → World → Prop) (w : World) : BinK Try.prog .sub 3 (.int .i64 x) (.int .i64 y) K w = K (.int .i64 (IntKind.i64.wrap (x - y))) w := by
  unfold BinK; (first | (go_simp; rfl) | (go_simp; done))

theorem kst4 (g o : Nat) (v : Bool) (K : Value → World → Prop) (w : World) : StoreK Try.prog 4 (.pointer (some ⟨g, o, none⟩)) (.bool v) K w = OptK (w.cell? ⟨g, o, none⟩) (@hid _ ⟨fun _ => FzK (w.frozen? ⟨g, o, none⟩) (@hid _ ⟨K undef (w.setCell ⟨g, o, none⟩ (.bool v))⟩) (StoreRaw Try.prog 4 ⟨g, o, none⟩ (.bool v) K w)⟩) (StoreRaw Try.prog 4 ⟨g, o, none⟩ (.bool v) K w) := by
  cases h0 : w.cell? ⟨g, o, none⟩ with
  | none => rfl
  | some x =>
  cases f0 : w.frozen? ⟨g, o, none⟩ with
  | true => rfl
  | false =>
  simp only [optK_some, fzK_false]
  unfold StoreK; (first | (go_simp; rfl) | (go_simp; done))

theorem kbeql3 (x y : Int) (K : Value → World → Prop) (w : World) : BinK Try.prog .eql 3 (.int .i64 x) (.int .i64 y) K w = K (.bool (x == y)) w := by
  unfold BinK; (first | (go_simp; rfl) | (go_simp; done))

theorem kbeql4 (x y : Bool) (K : Value → World → Prop) (w : World) : BinK Try.prog .eql 4 (.bool x) (.bool y) K w = K (.bool (x == y)) w := by
  cases x <;> cases y <;> (unfold BinK; (first | (go_simp; rfl) | (go_simp; done)))

theorem kbneq3 (x y : Int) (K : Value → World → Prop) (w : World) : BinK Try.prog .neq 3 (.int .i64 x) (.int .i64 y) K w = K (.bool (x != y)) w := by
  unfold BinK; (first | (go_simp; rfl) | (go_simp; done))

theorem kbgeq3 (x y : Int) (K : Value → World → Prop) (w : World) : BinK Try.prog .geq 3 (.int .i64 x) (.int .i64 y) K w = K (.bool (decide (y ≤ x))) w := by
  unfold BinK; (first | (go_simp; rfl) | (go_simp; done))

theorem kbrem3 (x y : Int) (h : 0 ≤ x ∧ 1 ≤ y ∧ x ≤ 9223372036854775807) (K : Value → World → Prop) (w : World) : BinK Try.prog .rem 3 (.int .i64 x) (.int .i64 y) K w = K (.int .i64 (x % y)) w := by
  obtain ⟨h0, h1, h2⟩ := h
  have h3 : ¬ y = 0 := by omega
  have h4 : x.tmod y = x % y := Int.tmod_eq_emod_of_nonneg h0
  have h5 : x.tdiv y = x / y := Int.tdiv_eq_ediv_of_nonneg h0
  unfold BinK; (first | (go_simp; rfl) | (go_simp; done))

theorem kbneq2 (x y : Int) (K : Value → World → Prop) (w : World) : BinK Try.prog .neq 2 (.int .i64 x) (.int .i64 y) K w = K (.bool (x != y)) w := by
  unfold BinK; (first | (go_simp; rfl) | (go_simp; done))

theorem kbeql9 (x y : ByteArray) (K : Value → World → Prop) (w : World) : BinK Try.prog .eql 9 (.string x) (.string y) K w = K (.bool (x.toList == y.toList)) w := by
  unfold BinK; (first | (go_simp; rfl) | (go_simp; done))

theorem kbs22_3_0_1_2 (v0 : ByteArray) (v1 : ByteArray) (v2 : ByteArray) (K : Value → World → Prop) (w : World) : BuildSliceK Try.prog 22 3 #[(0, (.string v0)), (1, (.string v1)), (2, (.string v2))] K w = K (.slice (some ⟨w.heap.size, 0, none⟩) 3 3) (w.alloc (.cells #[(.string v0), (.string v1), (.string v2)] 9)) := by
  unfold BuildSliceK; (first | (go_simp; rfl) | (go_simp; done))

theorem kbs23_2_0_1 (v0 : Int) (v1 : Int) (K : Value → World → Prop) (w : World) : BuildSliceK Try.prog 23 2 #[(0, (.int .i64 v0)), (1, (.int .i64 v1))] K w = K (.slice (some ⟨w.heap.size, 0, none⟩) 2 2) (w.alloc (.cells #[(.int .i64 v0), (.int .i64 v1)] 2)) := by
  unfold BuildSliceK; (first | (go_simp; rfl) | (go_simp; done))

theorem kbeql2 (x y : Int) (K : Value → World → Prop) (w : World) : BinK Try.prog .eql 2 (.int .i64 x) (.int .i64 y) K w = K (.bool (x == y)) w := by
  unfold BinK; (first | (go_simp; rfl) | (go_simp; done))

theorem klen9 (s : ByteArray) (K : Value → World → Prop) (w : World) : BuiltinK Try.prog .len #[9] 3 #[false] #[(.string s)] K w = K (.int .i64 (s.size : Int)) w := by
  unfold BuiltinK; (first | (go_simp; rfl) | (go_simp; done))

theorem hlen9 (s : ByteArray) {K : Value → Prop} {w1 : World} : TakeO Try.prog (fun w' => w' = w1) (builtin .len #[9] 3 #[false] #[(.string s)]) K = K (.int .i64 (s.size : Int)) := by
  exact here_o (fun w => by (first | (go_simp; rfl) | (go_simp; done)))

theorem kmax3_ft (x y : Int) (K : Value → World → Prop) (w : World) : BuiltinK Try.prog .max #[3, 3] 3 #[false, true] #[.int .i64 x, .int .i64 y] K w = K (.int .i64 (if x < y then y else x)) w := by
  unfold BuiltinK; by_cases h : x < y <;> by_cases h2 : y < x <;> (first | (exfalso; omega) | (simp only [h, h2, if_true, if_false]; go_simp; rfl) | (go_simp; done) | (go_simp; omega))

theorem kmin3_ft (x y : Int) (K : Value → World → Prop) (w : World) : BuiltinK Try.prog .min #[3, 3] 3 #[false, true] #[.int .i64 x, .int .i64 y] K w = K (.int .i64 (if y < x then y else x)) w := by
  unfold BuiltinK; by_cases h : x < y <;> by_cases h2 : y < x <;> (first | (exfalso; omega) | (simp only [h, h2, if_true, if_false]; go_simp; rfl) | (go_simp; done) | (go_simp; omega))

theorem kbs23_1_0 (v0 : Int) (K : Value → World → Prop) (w : World) : BuildSliceK Try.prog 23 1 #[(0, (.int .i64 v0))] K w = K (.slice (some ⟨w.heap.size, 0, none⟩) 1 1) (w.alloc (.cells #[(.int .i64 v0)] 2)) := by
  unfold BuildSliceK; (first | (go_simp; rfl) | (go_simp; done))

theorem kbeql22n (a : Addr) (n c : Nat) (K : Value → World → Prop) (w : World) : BinK Try.prog .eql 22 (.slice (some a) n c) (.slice none 0 0) K w = K (.bool false) w := by
  unfold BinK; (first | (go_simp; rfl) | (go_simp; done))

theorem kbeql22z (n c : Nat) (K : Value → World → Prop) (w : World) : BinK Try.prog .eql 22 (.slice none n c) (.slice none 0 0) K w = K (.bool true) w := by
  unfold BinK; (first | (go_simp; rfl) | (go_simp; done))

theorem kmax2_ft (x y : Int) (K : Value → World → Prop) (w : World) : BuiltinK Try.prog .max #[2, 2] 2 #[false, true] #[.int .i64 x, .int .i64 y] K w = K (.int .i64 (if x < y then y else x)) w := by
  unfold BuiltinK; by_cases h : x < y <;> by_cases h2 : y < x <;> (first | (exfalso; omega) | (simp only [h, h2, if_true, if_false]; go_simp; rfl) | (go_simp; done) | (go_simp; omega))

theorem ksl22_111 (g o n c : Nat) (l h m : Int) (hb : 0 ≤ l ∧ l ≤ h ∧ h ≤ m ∧ m ≤ (c : Int)) (K : Value → World → Prop) (w : World) : SliceK Try.prog 22 (.slice (some ⟨g, o, none⟩) n c) (some (.int .i64 l)) (some (.int .i64 h)) (some (.int .i64 m)) K w = K (.slice (if m.toNat = l.toNat then some ⟨g, o, none⟩ else some ⟨g, o + l.toNat, none⟩) (h.toNat - l.toNat) (m.toNat - l.toNat)) w := by
  obtain ⟨q0, q1, q2, q3⟩ := hb
  unfold SliceK; (first | (go_simp; rfl) | (go_simp; done) | (go_simp; split <;> simp_all))

theorem ksl22_110 (g o n c : Nat) (l : Int) (h : Int) (hb : 0 ≤ l ∧ l ≤ h ∧ h ≤ (c : Int)) (K : Value → World → Prop) (w : World) : SliceK Try.prog 22 (.slice (some ⟨g, o, none⟩) n c) (some (.int .i64 l)) (some (.int .i64 h)) none K w = K (.slice (if c = l.toNat then some ⟨g, o, none⟩ else some ⟨g, o + l.toNat, none⟩) (h.toNat - l.toNat) (c - l.toNat)) w := by
  obtain ⟨q0, q1, q2⟩ := hb
  unfold SliceK; (first | (go_simp; rfl) | (go_simp; done) | (go_simp; split <;> simp_all))

theorem ksl22_011 (g o n c : Nat) (h m : Int) (hb : 0 ≤ h ∧ h ≤ m ∧ m ≤ (c : Int)) (K : Value → World → Prop) (w : World) : SliceK Try.prog 22 (.slice (some ⟨g, o, none⟩) n c) none (some (.int .i64 h)) (some (.int .i64 m)) K w = K (.slice (some ⟨g, o, none⟩) h.toNat m.toNat) w := by
  obtain ⟨q0, q1, q2⟩ := hb
  unfold SliceK; (first | (go_simp; rfl) | (go_simp; done) | (go_simp; split <;> simp_all))

theorem ksl22_011z (K : Value → World → Prop) (w : World) : SliceK Try.prog 22 (.slice none 0 0) none (some (.int .i64 0)) (some (.int .i64 0)) K w = K (.slice none 0 0) w := by
  unfold SliceK; (first | (go_simp; rfl) | (go_simp; done) | (go_simp; split <;> simp_all))

theorem ksl23_011 (g o n c : Nat) (h m : Int) (hb : 0 ≤ h ∧ h ≤ m ∧ m ≤ (c : Int)) (K : Value → World → Prop) (w : World) : SliceK Try.prog 23 (.slice (some ⟨g, o, none⟩) n c) none (some (.int .i64 h)) (some (.int .i64 m)) K w = K (.slice (some ⟨g, o, none⟩) h.toNat m.toNat) w := by
  obtain ⟨q0, q1, q2⟩ := hb
  unfold SliceK; (first | (go_simp; rfl) | (go_simp; done) | (go_simp; split <;> simp_all))

theorem ksl23_011z (K : Value → World → Prop) (w : World) : SliceK Try.prog 23 (.slice none 0 0) none (some (.int .i64 0)) (some (.int .i64 0)) K w = K (.slice none 0 0) w := by
  unfold SliceK; (first | (go_simp; rfl) | (go_simp; done) | (go_simp; split <;> simp_all))

theorem ck3 {args : Array Value} {K : Value → World → Prop} {w : World} (h : CallK Try.prog 3 args K w) : CallV Try.prog (.func (.func 3) #[] #[]) args K w := callV_func Try.func3 (by kernel_rfl) (by kernel_rfl) h
theorem ck4 {args : Array Value} {K : Value → World → Prop} {w : World} (h : CallK Try.prog 4 args K w) : CallV Try.prog (.func (.func 4) #[] #[]) args K w := callV_func Try.func4 (by kernel_rfl) (by kernel_rfl) h
theorem ck5 {args : Array Value} {K : Value → World → Prop} {w : World} (h : CallK Try.prog 5 args K w) : CallV Try.prog (.func (.func 5) #[] #[]) args K w := callV_func Try.func5 (by kernel_rfl) (by kernel_rfl) h
theorem ck6 {args : Array Value} {K : Value → World → Prop} {w : World} (h : CallK Try.prog 6 args K w) : CallV Try.prog (.func (.func 6) #[] #[]) args K w := callV_func Try.func6 (by kernel_rfl) (by kernel_rfl) h
theorem ck7 {args : Array Value} {K : Value → World → Prop} {w : World} (h : CallK Try.prog 7 args K w) : CallV Try.prog (.func (.func 7) #[] #[]) args K w := callV_func Try.func7 (by kernel_rfl) (by kernel_rfl) h
theorem ck8 {args : Array Value} {K : Value → World → Prop} {w : World} (h : CallK Try.prog 8 args K w) : CallV Try.prog (.func (.func 8) #[] #[]) args K w := callV_func Try.func8 (by kernel_rfl) (by kernel_rfl) h
theorem ck10 {args : Array Value} {K : Value → World → Prop} {w : World} (h : CallK Try.prog 10 args K w) : CallV Try.prog (.func (.func 10) #[] #[]) args K w := callV_func Try.func10 (by kernel_rfl) (by kernel_rfl) h
theorem ck11 {args : Array Value} {K : Value → World → Prop} {w : World} (h : CallK Try.prog 11 args K w) : CallV Try.prog (.func (.func 11) #[] #[]) args K w := callV_func Try.func11 (by kernel_rfl) (by kernel_rfl) h
theorem ck12 {args : Array Value} {K : Value → World → Prop} {w : World} (h : CallK Try.prog 12 args K w) : CallV Try.prog (.func (.func 12) #[] #[]) args K w := callV_func Try.func12 (by kernel_rfl) (by kernel_rfl) h
theorem ck13 {args : Array Value} {K : Value → World → Prop} {w : World} (h : CallK Try.prog 13 args K w) : CallV Try.prog (.func (.func 13) #[] #[]) args K w := callV_func Try.func13 (by kernel_rfl) (by kernel_rfl) h
theorem ck14 {args : Array Value} {K : Value → World → Prop} {w : World} (h : CallK Try.prog 14 args K w) : CallV Try.prog (.func (.func 14) #[] #[]) args K w := callV_func Try.func14 (by kernel_rfl) (by kernel_rfl) h
theorem ck16 {args : Array Value} {K : Value → World → Prop} {w : World} (h : CallK Try.prog 16 args K w) : CallV Try.prog (.func (.func 16) #[] #[]) args K w := callV_func Try.func16 (by kernel_rfl) (by kernel_rfl) h
theorem ck17 {args : Array Value} {K : Value → World → Prop} {w : World} (h : CallK Try.prog 17 args K w) : CallV Try.prog (.func (.func 17) #[] #[]) args K w := callV_func Try.func17 (by kernel_rfl) (by kernel_rfl) h
theorem ck18 {args : Array Value} {K : Value → World → Prop} {w : World} (h : CallK Try.prog 18 args K w) : CallV Try.prog (.func (.func 18) #[] #[]) args K w := callV_func Try.func18 (by kernel_rfl) (by kernel_rfl) h
theorem ck19 {args : Array Value} {K : Value → World → Prop} {w : World} (h : CallK Try.prog 19 args K w) : CallV Try.prog (.func (.func 19) #[] #[]) args K w := callV_func Try.func19 (by kernel_rfl) (by kernel_rfl) h
theorem ck20 {args : Array Value} {K : Value → World → Prop} {w : World} (h : CallK Try.prog 20 args K w) : CallV Try.prog (.func (.func 20) #[] #[]) args K w := callV_func Try.func20 (by kernel_rfl) (by kernel_rfl) h
theorem cv3 {args : Array Value} {K : Value → World → Prop} {w : World} {v : Value} {R : World → Prop} (h : Calls Try.prog 3 args w fun e w' => e = .returned v ∧ R w') (hk : ∀ w', R w' → K v w') : CallV Try.prog (.func (.func 3) #[] #[]) args K w := callV_of Try.func3 (by kernel_rfl) (by kernel_rfl) h hk
theorem cv4 {args : Array Value} {K : Value → World → Prop} {w : World} {v : Value} {R : World → Prop} (h : Calls Try.prog 4 args w fun e w' => e = .returned v ∧ R w') (hk : ∀ w', R w' → K v w') : CallV Try.prog (.func (.func 4) #[] #[]) args K w := callV_of Try.func4 (by kernel_rfl) (by kernel_rfl) h hk
theorem cv5 {args : Array Value} {K : Value → World → Prop} {w : World} {v : Value} {R : World → Prop} (h : Calls Try.prog 5 args w fun e w' => e = .returned v ∧ R w') (hk : ∀ w', R w' → K v w') : CallV Try.prog (.func (.func 5) #[] #[]) args K w := callV_of Try.func5 (by kernel_rfl) (by kernel_rfl) h hk
theorem cv6 {args : Array Value} {K : Value → World → Prop} {w : World} {v : Value} {R : World → Prop} (h : Calls Try.prog 6 args w fun e w' => e = .returned v ∧ R w') (hk : ∀ w', R w' → K v w') : CallV Try.prog (.func (.func 6) #[] #[]) args K w := callV_of Try.func6 (by kernel_rfl) (by kernel_rfl) h hk
theorem cv7 {args : Array Value} {K : Value → World → Prop} {w : World} {v : Value} {R : World → Prop} (h : Calls Try.prog 7 args w fun e w' => e = .returned v ∧ R w') (hk : ∀ w', R w' → K v w') : CallV Try.prog (.func (.func 7) #[] #[]) args K w := callV_of Try.func7 (by kernel_rfl) (by kernel_rfl) h hk
theorem cv8 {args : Array Value} {K : Value → World → Prop} {w : World} {v : Value} {R : World → Prop} (h : Calls Try.prog 8 args w fun e w' => e = .returned v ∧ R w') (hk : ∀ w', R w' → K v w') : CallV Try.prog (.func (.func 8) #[] #[]) args K w := callV_of Try.func8 (by kernel_rfl) (by kernel_rfl) h hk
theorem cv10 {args : Array Value} {K : Value → World → Prop} {w : World} {v : Value} {R : World → Prop} (h : Calls Try.prog 10 args w fun e w' => e = .returned v ∧ R w') (hk : ∀ w', R w' → K v w') : CallV Try.prog (.func (.func 10) #[] #[]) args K w := callV_of Try.func10 (by kernel_rfl) (by kernel_rfl) h hk
theorem cv11 {args : Array Value} {K : Value → World → Prop} {w : World} {v : Value} {R : World → Prop} (h : Calls Try.prog 11 args w fun e w' => e = .returned v ∧ R w') (hk : ∀ w', R w' → K v w') : CallV Try.prog (.func (.func 11) #[] #[]) args K w := callV_of Try.func11 (by kernel_rfl) (by kernel_rfl) h hk
theorem cv12 {args : Array Value} {K : Value → World → Prop} {w : World} {v : Value} {R : World → Prop} (h : Calls Try.prog 12 args w fun e w' => e = .returned v ∧ R w') (hk : ∀ w', R w' → K v w') : CallV Try.prog (.func (.func 12) #[] #[]) args K w := callV_of Try.func12 (by kernel_rfl) (by kernel_rfl) h hk
theorem cv13 {args : Array Value} {K : Value → World → Prop} {w : World} {v : Value} {R : World → Prop} (h : Calls Try.prog 13 args w fun e w' => e = .returned v ∧ R w') (hk : ∀ w', R w' → K v w') : CallV Try.prog (.func (.func 13) #[] #[]) args K w := callV_of Try.func13 (by kernel_rfl) (by kernel_rfl) h hk
theorem cv14 {args : Array Value} {K : Value → World → Prop} {w : World} {v : Value} {R : World → Prop} (h : Calls Try.prog 14 args w fun e w' => e = .returned v ∧ R w') (hk : ∀ w', R w' → K v w') : CallV Try.prog (.func (.func 14) #[] #[]) args K w := callV_of Try.func14 (by kernel_rfl) (by kernel_rfl) h hk
theorem cv16 {args : Array Value} {K : Value → World → Prop} {w : World} {v : Value} {R : World → Prop} (h : Calls Try.prog 16 args w fun e w' => e = .returned v ∧ R w') (hk : ∀ w', R w' → K v w') : CallV Try.prog (.func (.func 16) #[] #[]) args K w := callV_of Try.func16 (by kernel_rfl) (by kernel_rfl) h hk
theorem cv17 {args : Array Value} {K : Value → World → Prop} {w : World} {v : Value} {R : World → Prop} (h : Calls Try.prog 17 args w fun e w' => e = .returned v ∧ R w') (hk : ∀ w', R w' → K v w') : CallV Try.prog (.func (.func 17) #[] #[]) args K w := callV_of Try.func17 (by kernel_rfl) (by kernel_rfl) h hk
theorem cv18 {args : Array Value} {K : Value → World → Prop} {w : World} {v : Value} {R : World → Prop} (h : Calls Try.prog 18 args w fun e w' => e = .returned v ∧ R w') (hk : ∀ w', R w' → K v w') : CallV Try.prog (.func (.func 18) #[] #[]) args K w := callV_of Try.func18 (by kernel_rfl) (by kernel_rfl) h hk
theorem cv19 {args : Array Value} {K : Value → World → Prop} {w : World} {v : Value} {R : World → Prop} (h : Calls Try.prog 19 args w fun e w' => e = .returned v ∧ R w') (hk : ∀ w', R w' → K v w') : CallV Try.prog (.func (.func 19) #[] #[]) args K w := callV_of Try.func19 (by kernel_rfl) (by kernel_rfl) h hk
theorem cv20 {args : Array Value} {K : Value → World → Prop} {w : World} {v : Value} {R : World → Prop} (h : Calls Try.prog 20 args w fun e w' => e = .returned v ∧ R w') (hk : ∀ w', R w' → K v w') : CallV Try.prog (.func (.func 20) #[] #[]) args K w := callV_of Try.func20 (by kernel_rfl) (by kernel_rfl) h hk

/-- canton/cantonlaw17.DrawAny, its body as a formula. -/
def F3 (x0 x1 x2 : Value) (R : Value → World → Prop) (w0 : World) : Prop :=
  CallV Try.prog (.func (.func 7) #[] #[]) #[] (@hid _ ⟨fun t18_1 w2 =>
  UnK Try.prog Go.UnOp.not t18_1 (@hid _ ⟨fun t19_3 w4 =>
  BrK t19_3 (@hid _ ⟨
   R (Go.Value.bool false) w4⟩) (@hid _ ⟨
   CallV Try.prog (.func (.func 8) #[] #[]) #[x0] (@hid _ ⟨fun t21_5 w6 =>
   UnK Try.prog Go.UnOp.not t21_5 (@hid _ ⟨fun t22_7 w8 =>
   GuardK t22_7 false (fun k w => k x2 w) (@hid _ ⟨fun t24_9 w10 =>
   GuardK t22_7 false (fun k w => BuiltinK Try.prog Go.Builtin.len #[23] 3 #[false] #[t24_9] k w) (@hid _ ⟨fun t25_11 w12 =>
   GuardK t22_7 false (fun k w => BinK Try.prog Go.BinOp.gtr 3 t25_11 (Go.Value.int Go.IntKind.i64 60) k w) (@hid _ ⟨fun t26_13 w14 =>
   PickK Try.prog t22_7 (Go.Value.bool true) t26_13 (@hid _ ⟨fun t27_15 w16 =>
   BrK t27_15 (@hid _ ⟨
    R (Go.Value.bool true) w16⟩) (@hid _ ⟨
    BuildSliceK Try.prog 22 0 #[] (@hid _ ⟨fun t28_17 w18 =>
    BuiltinK Try.prog Go.Builtin.append #[22, 22] 22 #[false, false] #[t28_17, x0] (@hid _ ⟨fun t30_19 w20 =>
    CallV Try.prog (.func (.func 9) #[] #[]) #[x0, x1] (@hid _ ⟨fun t34_21 w22 =>
    ExtractK Try.prog t34_21 0 (@hid _ ⟨fun t35_23 w24 =>
    ExtractK Try.prog t34_21 1 (@hid _ ⟨fun t36_25 w26 =>
    CallV Try.prog (.func (.func 10) #[] #[]) #[x0, x1] (@hid _ ⟨fun t40_27 w28 =>
    ExtractK Try.prog t40_27 0 (@hid _ ⟨fun t41_29 w30 =>
    ExtractK Try.prog t40_27 1 (@hid _ ⟨fun t42_31 w32 =>
    BinK Try.prog Go.BinOp.neq 9 t35_23 t41_29 (@hid _ ⟨fun t45_33 w34 =>
    GuardK t45_33 false (fun k w => k t36_25 w) (@hid _ ⟨fun t47_35 w36 =>
    GuardK t45_33 false (fun k w => k t42_31 w) (@hid _ ⟨fun t48_37 w38 =>
    GuardK t45_33 false (fun k w => BinK Try.prog Go.BinOp.neq 4 t47_35 t48_37 k w) (@hid _ ⟨fun t49_39 w40 =>
    PickK Try.prog t45_33 (Go.Value.bool true) t49_39 (@hid _ ⟨fun t50_41 w42 =>
    BrK t50_41 (@hid _ ⟨
     R (Go.Value.bool false) w42⟩) (@hid _ ⟨
     CallV Try.prog (.func (.func 11) #[] #[]) #[x0, x2] (@hid _ ⟨fun t53_43 w44 =>
     BuildSliceK Try.prog 22 0 #[] (@hid _ ⟨fun t54_45 w46 =>
     BuiltinK Try.prog Go.Builtin.append #[22, 22] 22 #[false, false] #[t54_45, x0] (@hid _ ⟨fun t56_47 w48 =>
     LoopK3 t56_47 (Go.Value.slice none 0 0) (Go.Value.int Go.IntKind.i64 0) w48 (@hid _ ⟨fun _ x13_49 x14_50 x15_51 w52 B53 =>
      BuiltinK Try.prog Go.Builtin.len #[22] 3 #[false] #[x13_49] (@hid _ ⟨fun t58_54 w55 =>
      BinK Try.prog Go.BinOp.gtr 3 t58_54 (Go.Value.int Go.IntKind.i64 0) (@hid _ ⟨fun t59_56 w57 =>
      BrK t59_56 (@hid _ ⟨
       CutK1 (@hid _ ⟨fun R58 =>
        BuiltinK Try.prog Go.Builtin.len #[23] 3 #[false] #[x2] (@hid _ ⟨fun t64_61 w62 =>
        BinK Try.prog Go.BinOp.lss 3 x15_51 t64_61 (@hid _ ⟨fun t65_63 w64 =>
        GuardK t65_63 true (fun k w => k x2 w) (@hid _ ⟨fun t67_65 w66 =>
        GuardK t65_63 true (fun k w => k x15_51 w) (@hid _ ⟨fun t68_67 w68 =>
        GuardK t65_63 true (fun k w => IndexAtK Try.prog 23 t67_65 t68_67 k w) (@hid _ ⟨fun t69_69 w70 =>
        GuardK t65_63 true (fun k w => LoadK Try.prog 2 t69_69 k w) (@hid _ ⟨fun t70_71 w72 =>
        GuardK t65_63 true (fun k w => BinK Try.prog Go.BinOp.gtr 2 t70_71 (Go.Value.int Go.IntKind.i64 0) k w) (@hid _ ⟨fun t71_73 w74 =>
        PickK Try.prog t65_63 t71_73 (Go.Value.bool false) (@hid _ ⟨fun t72_75 w76 =>
        BrK t72_75 (@hid _ ⟨
         IndexAtK Try.prog 23 x2 x15_51 (@hid _ ⟨fun t75_77 w78 =>
         LoadK Try.prog 2 t75_77 (@hid _ ⟨fun t76_79 w80 =>
         R58 t76_79 w80⟩) w78⟩) w76⟩) (@hid _ ⟨
         R58 (Go.Value.int Go.IntKind.i64 0) w76⟩)⟩) w74⟩) w72⟩) w70⟩) w68⟩) w66⟩) w64⟩) w62⟩) w57⟩)
       (@hid _ ⟨fun _ x16_59 w60 =>
        BuiltinK Try.prog Go.Builtin.len #[22] 3 #[false] #[x13_49] (@hid _ ⟨fun t79_81 w82 =>
        BinK Try.prog Go.BinOp.rem 2 x16_59 t79_81 (@hid _ ⟨fun t80_83 w84 =>
        IndexAtK Try.prog 22 x13_49 t80_83 (@hid _ ⟨fun t84_85 w86 =>
        LoadK Try.prog 9 t84_85 (@hid _ ⟨fun t85_87 w88 =>
        BuildSliceK Try.prog 22 1 #[(0, t85_87)] (@hid _ ⟨fun t86_89 w90 =>
        BuiltinK Try.prog Go.Builtin.append #[22, 22] 22 #[false, false] #[x14_50, t86_89] (@hid _ ⟨fun t87_91 w92 =>
        DrawK (@hid _ ⟨fun S93 w94 =>
        TakeS Try.prog S93 (Instr.sliceAt 22 x13_49 none (some t80_83) none) (@hid _ ⟨fun t91_95 =>
        BinT Try.prog S93 Go.BinOp.add 3 t80_83 (Go.Value.int Go.IntKind.i64 1) (@hid _ ⟨fun t95_96 =>
        TakeS Try.prog S93 (Instr.sliceAt 22 x13_49 (some t95_96) none none) (@hid _ ⟨fun t96_97 =>
        (BuildSliceK Try.prog 22 0 #[] (@hid _ ⟨fun t88_98 w99 =>
        S93 w99 ∧
        (BuiltinK Try.prog Go.Builtin.append #[22, 22] 22 #[false, false] #[t88_98, t91_95] (@hid _ ⟨fun t92_100 w101 =>
        S93 w101 ∧
        (BuiltinK Try.prog Go.Builtin.append #[22, 22] 22 #[false, false] #[t92_100, t96_97] (@hid _ ⟨fun t97_102 w103 =>
        S93 w103 ∧
        BinK Try.prog Go.BinOp.add 3 x15_51 (Go.Value.int Go.IntKind.i64 1) (@hid _ ⟨fun t61_104 w105 =>
        B53 t97_102 t87_91 t61_104 w105⟩) w103⟩) w101) ∧
        True⟩) w99) ∧
        True⟩) w94) ∧
        True⟩)⟩)⟩)⟩) w92⟩) w90⟩) w88⟩) w86⟩) w84⟩) w82⟩) w60⟩)⟩) (@hid _ ⟨
       CallV Try.prog (.func (.func 12) #[] #[]) #[t53_43, x14_50] (@hid _ ⟨fun t100_106 w107 =>
       GuardK t100_106 true (fun k w => k x0 w) (@hid _ ⟨fun t102_108 w109 =>
       GuardK t100_106 true (fun k w => k t30_19 w) (@hid _ ⟨fun t103_110 w111 =>
       GuardK t100_106 true (fun k w => CallV Try.prog (.func (.func 12) #[] #[]) #[t102_108, t103_110] k w) (@hid _ ⟨fun t104_112 w113 =>
       PickK Try.prog t100_106 t104_112 (Go.Value.bool false) (@hid _ ⟨fun t105_114 w115 =>
       R t105_114 w115⟩) w113⟩) w111⟩) w109⟩) w107⟩) w57⟩)⟩) w55⟩) w52⟩)⟩) w46⟩) w44⟩) w42⟩)⟩) w40⟩) w38⟩) w36⟩) w34⟩) w32⟩) w30⟩) w28⟩) w26⟩) w24⟩) w22⟩) w20⟩) w18⟩) w16⟩)⟩) w14⟩) w12⟩) w10⟩) w8⟩) w6⟩) w4⟩)⟩) w2⟩) w0
def a3 : Ann := (.seq .no (.seq (.seq .no (.cond (.seq .no .no) .no)) (.seq (.seq .no (.cond (.seq .no .no) .no)) (.seq .no (.seq .no (.seq .no (.seq (.seq .no (.cond (.seq .no .no) .no)) (.seq .no (.seq .no (.seq .no (.seq (.seq .no (.block (.loop [13, 14, 15] [(16, 17), (57, 97)] (.seq (.seq .no (.cond .no .no)) (.seq (.block (.seq .no (.cut [16] [(62, 76)] (.seq .no (.cond .no .no)) (.seq .no (.seq .no (.plan (.take 1 (.take 2 (.take 3 (.take 5 (.take 6 (.take 7 (.take 8 (.alt 0 (.alt 4 (.alt 9 (.take 10 .done) .nil) .nil) .nil)))))))))))))) .no))))) (.seq .no .no))))))))))))
theorem F3_eq (x0 x1 x2 : Value) (R : Value → World → Prop) (w0 : World) : F3 x0 x1 x2 R w0 = vc Try.prog (bodyOf Try.f3) a3 (retQ Try.prog Try.f3 R) (envOf 0 [x0, x1, x2]) w0 := by kernel_rfl
theorem F3_calls (x0 x1 x2 : Value) (R : Value → World → Prop) (w0 : World) (h : F3 x0 x1 x2 R w0) : CallK Try.prog 3 #[x0, x1, x2] R w0 :=
  calls_vc (c := bodyOf Try.f3) Try.func3 (by kernel_rfl) (by kernel_rfl) a3 (by kernel_rfl) (by kernel_rfl) [x0, x1, x2] (by rw [Try.ntmps3]; exact Nat.le_of_ble_eq_true rfl) w0 R ((F3_eq x0 x1 x2 R w0).mp h)

/-- canton/cantonlaw17.DrawCovers, its body as a formula. -/
def F4 (x0 x1 : Value) (R : Value → World → Prop) (w0 : World) : Prop :=
  CallV Try.prog (.func (.func 7) #[] #[]) #[] (@hid _ ⟨fun t11_1 w2 =>
  UnK Try.prog Go.UnOp.not t11_1 (@hid _ ⟨fun t12_3 w4 =>
  BrK t12_3 (@hid _ ⟨
   R (Go.Value.bool false) w4⟩) (@hid _ ⟨
   BinK Try.prog Go.BinOp.gtr 3 x0 (Go.Value.int Go.IntKind.i64 100) (@hid _ ⟨fun t14_5 w6 =>
   GuardK t14_5 false (fun k w => k x1 w) (@hid _ ⟨fun t16_7 w8 =>
   GuardK t14_5 false (fun k w => BuiltinK Try.prog Go.Builtin.len #[23] 3 #[false] #[t16_7] k w) (@hid _ ⟨fun t17_9 w10 =>
   GuardK t14_5 false (fun k w => BinK Try.prog Go.BinOp.gtr 3 t17_9 (Go.Value.int Go.IntKind.i64 200) k w) (@hid _ ⟨fun t18_11 w12 =>
   PickK Try.prog t14_5 (Go.Value.bool true) t18_11 (@hid _ ⟨fun t19_13 w14 =>
   BrK t19_13 (@hid _ ⟨
    R (Go.Value.bool true) w14⟩) (@hid _ ⟨
    CallV Try.prog (.func (.func 13) #[] #[]) #[x0, x1] (@hid _ ⟨fun t22_15 w16 =>
    BinK Try.prog Go.BinOp.lss 3 x0 (Go.Value.int Go.IntKind.i64 1) (@hid _ ⟨fun t24_17 w18 =>
    BrK t24_17 (@hid _ ⟨
     R t22_15 w18⟩) (@hid _ ⟨
     ValK Try.prog (Instr.makeSlice 32 x0 x0) (@hid _ ⟨fun t27_19 w20 =>
     LoopK2 x0 (Go.Value.int Go.IntKind.i64 0) w20 (@hid _ ⟨fun _ x7_21 x8_22 w23 B24 =>
      BuiltinK Try.prog Go.Builtin.len #[23] 3 #[false] #[x1] (@hid _ ⟨fun t31_25 w26 =>
      BinK Try.prog Go.BinOp.lss 3 x8_22 t31_25 (@hid _ ⟨fun t32_27 w28 =>
      BrK t32_27 (@hid _ ⟨
       IndexAtK Try.prog 23 x1 x8_22 (@hid _ ⟨fun t37_29 w30 =>
       LoadK Try.prog 2 t37_29 (@hid _ ⟨fun t38_31 w32 =>
       CutK1 (@hid _ ⟨fun R33 =>
        BinK Try.prog Go.BinOp.lss 2 t38_31 (Go.Value.int Go.IntKind.i64 0) (@hid _ ⟨fun t40_36 w37 =>
        BrK t40_36 (@hid _ ⟨
         R33 (Go.Value.int Go.IntKind.i64 0) w37⟩) (@hid _ ⟨
         R33 t38_31 w37⟩)⟩) w32⟩)
       (@hid _ ⟨fun _ x9_34 w35 =>
        BinK Try.prog Go.BinOp.rem 2 x9_34 x0 (@hid _ ⟨fun t43_38 w39 =>
        CutK1 (@hid _ ⟨fun R40 =>
         IndexAtK Try.prog 32 t27_19 t43_38 (@hid _ ⟨fun t46_43 w44 =>
         LoadK Try.prog 4 t46_43 (@hid _ ⟨fun t47_45 w46 =>
         UnK Try.prog Go.UnOp.not t47_45 (@hid _ ⟨fun t48_47 w48 =>
         BrK t48_47 (@hid _ ⟨
          BinK Try.prog Go.BinOp.sub 3 x7_21 (Go.Value.int Go.IntKind.i64 1) (@hid _ ⟨fun t50_49 w50 =>
          R40 t50_49 w50⟩) w48⟩) (@hid _ ⟨
          R40 x7_21 w48⟩)⟩) w46⟩) w44⟩) w39⟩)
        (@hid _ ⟨fun _ x7_41 w42 =>
         IndexAtK Try.prog 32 t27_19 t43_38 (@hid _ ⟨fun t53_51 w52 =>
         StoreK Try.prog 4 t53_51 (Go.Value.bool true) (@hid _ ⟨fun tu_53 w54 =>
         BinK Try.prog Go.BinOp.add 3 x8_22 (Go.Value.int Go.IntKind.i64 1) (@hid _ ⟨fun t34_55 w56 =>
         B24 x7_41 t34_55 w56⟩) w54⟩) w52⟩) w42⟩)⟩) w35⟩)⟩) w30⟩) w28⟩) (@hid _ ⟨
       BinK Try.prog Go.BinOp.eql 3 x7_21 (Go.Value.int Go.IntKind.i64 0) (@hid _ ⟨fun t56_57 w58 =>
       BinK Try.prog Go.BinOp.eql 4 t22_15 t56_57 (@hid _ ⟨fun t57_59 w60 =>
       GuardK t57_59 true (fun k w => k x0 w) (@hid _ ⟨fun t59_61 w62 =>
       GuardK t57_59 true (fun k w => k x0 w) (@hid _ ⟨fun t60_63 w64 =>
       GuardK t57_59 true (fun k w => k x0 w) (@hid _ ⟨fun t61_65 w66 =>
       GuardK t57_59 true (fun k w => CallV Try.prog (.func (.func 14) #[] #[]) #[t60_63, t61_65] k w) (@hid _ ⟨fun t62_67 w68 =>
       GuardK t57_59 true (fun k w => CallV Try.prog (.func (.func 13) #[] #[]) #[t59_61, t62_67] k w) (@hid _ ⟨fun t63_69 w70 =>
       PickK Try.prog t57_59 t63_69 (Go.Value.bool false) (@hid _ ⟨fun t64_71 w72 =>
       GuardK t64_71 true (fun k w => k x0 w) (@hid _ ⟨fun t66_73 w74 =>
       GuardK t64_71 true (fun k w => k x0 w) (@hid _ ⟨fun t67_75 w76 =>
       GuardK t64_71 true (fun k w => k x0 w) (@hid _ ⟨fun t68_77 w78 =>
       GuardK t64_71 true (fun k w => BinK Try.prog Go.BinOp.sub 3 t68_77 (Go.Value.int Go.IntKind.i64 1) k w) (@hid _ ⟨fun t69_79 w80 =>
       GuardK t64_71 true (fun k w => CallV Try.prog (.func (.func 14) #[] #[]) #[t67_75, t69_79] k w) (@hid _ ⟨fun t70_81 w82 =>
       GuardK t64_71 true (fun k w => CallV Try.prog (.func (.func 13) #[] #[]) #[t66_73, t70_81] k w) (@hid _ ⟨fun t71_83 w84 =>
       GuardK t64_71 true (fun k w => UnK Try.prog Go.UnOp.not t71_83 k w) (@hid _ ⟨fun t72_85 w86 =>
       PickK Try.prog t64_71 t72_85 (Go.Value.bool false) (@hid _ ⟨fun t73_87 w88 =>
       R t73_87 w88⟩) w86⟩) w84⟩) w82⟩) w80⟩) w78⟩) w76⟩) w74⟩) w72⟩) w70⟩) w68⟩) w66⟩) w64⟩) w62⟩) w60⟩) w58⟩) w28⟩)⟩) w26⟩) w23⟩)⟩) w18⟩)⟩) w16⟩) w14⟩)⟩) w12⟩) w10⟩) w8⟩) w6⟩) w4⟩)⟩) w2⟩) w0
def a4 : Ann := (.seq .no (.seq (.seq .no (.cond (.seq .no .no) .no)) (.seq (.seq .no (.cond (.seq .no .no) .no)) (.seq .no (.seq (.seq .no (.cond (.seq .no .no) .no)) (.seq .no (.seq .no (.seq (.seq .no (.block (.loop [7, 8] [(9, 10), (29, 53)] (.seq (.seq .no (.cond .no .no)) (.seq (.block (.seq .no (.cut [9] [(39, 40)] (.seq .no (.cond .no .no)) (.seq .no (.cut [7] [(44, 50)] (.seq .no (.cond .no .no)) .no))))) .no))))) (.seq .no .no)))))))))
theorem F4_eq (x0 x1 : Value) (R : Value → World → Prop) (w0 : World) : F4 x0 x1 R w0 = vc Try.prog (bodyOf Try.f4) a4 (retQ Try.prog Try.f4 R) (envOf 0 [x0, x1]) w0 := by kernel_rfl
theorem F4_calls (x0 x1 : Value) (R : Value → World → Prop) (w0 : World) (h : F4 x0 x1 R w0) : CallK Try.prog 4 #[x0, x1] R w0 :=
  calls_vc (c := bodyOf Try.f4) Try.func4 (by kernel_rfl) (by kernel_rfl) a4 (by kernel_rfl) (by kernel_rfl) [x0, x1] (by rw [Try.ntmps4]; exact Nat.le_of_ble_eq_true rfl) w0 R ((F4_eq x0 x1 R w0).mp h)

/-- canton/cantonlaw17.DrawTurns, its body as a formula. -/
def F5 (x0 x1 : Value) (R : Value → World → Prop) (w0 : World) : Prop :=
  CallV Try.prog (.func (.func 7) #[] #[]) #[] (@hid _ ⟨fun t9_1 w2 =>
  UnK Try.prog Go.UnOp.not t9_1 (@hid _ ⟨fun t10_3 w4 =>
  BrK t10_3 (@hid _ ⟨
   R (Go.Value.bool false) w4⟩) (@hid _ ⟨
   CallV Try.prog (.func (.func 14) #[] #[]) #[x0, x1] (@hid _ ⟨fun t13_5 w6 =>
   CutK1 (@hid _ ⟨fun R7 =>
    BinK Try.prog Go.BinOp.lss 3 x1 (Go.Value.int Go.IntKind.i64 0) (@hid _ ⟨fun t16_10 w11 =>
    BrK t16_10 (@hid _ ⟨
     R7 (Go.Value.int Go.IntKind.i64 0) w11⟩) (@hid _ ⟨
     R7 x1 w11⟩)⟩) w6⟩)
   (@hid _ ⟨fun _ x6_8 w9 =>
    CutK1 (@hid _ ⟨fun R12 =>
     BinK Try.prog Go.BinOp.gtr 3 x6_8 (Go.Value.int Go.IntKind.i64 4096) (@hid _ ⟨fun t18_15 w16 =>
     BrK t18_15 (@hid _ ⟨
      R12 (Go.Value.int Go.IntKind.i64 4096) w16⟩) (@hid _ ⟨
      R12 x6_8 w16⟩)⟩) w9⟩)
    (@hid _ ⟨fun _ x6_13 w14 =>
     BuiltinK Try.prog Go.Builtin.len #[23] 3 #[false] #[t13_5] (@hid _ ⟨fun t20_17 w18 =>
     BinK Try.prog Go.BinOp.neq 3 t20_17 x6_13 (@hid _ ⟨fun t22_19 w20 =>
     BrK t22_19 (@hid _ ⟨
      R (Go.Value.bool false) w20⟩) (@hid _ ⟨
      LoopK1 (Go.Value.int Go.IntKind.i64 0) w20 (@hid _ ⟨fun _ x7_21 w22 B23 =>
       BuiltinK Try.prog Go.Builtin.len #[23] 3 #[false] #[t13_5] (@hid _ ⟨fun t25_24 w25 =>
       BinK Try.prog Go.BinOp.lss 3 x7_21 t25_24 (@hid _ ⟨fun t26_26 w27 =>
       BrK t26_26 (@hid _ ⟨
        CutK1 (@hid _ ⟨fun R28 =>
         BinK Try.prog Go.BinOp.geq 3 x0 (Go.Value.int Go.IntKind.i64 1) (@hid _ ⟨fun t30_31 w32 =>
         BrK t30_31 (@hid _ ⟨
          BinK Try.prog Go.BinOp.rem 3 x7_21 x0 (@hid _ ⟨fun t33_33 w34 =>
          R28 t33_33 w34⟩) w32⟩) (@hid _ ⟨
          R28 (Go.Value.int Go.IntKind.i64 0) w32⟩)⟩) w27⟩)
        (@hid _ ⟨fun _ x8_29 w30 =>
         IndexAtK Try.prog 23 t13_5 x7_21 (@hid _ ⟨fun t36_35 w36 =>
         LoadK Try.prog 2 t36_35 (@hid _ ⟨fun t37_37 w38 =>
         BinK Try.prog Go.BinOp.neq 2 t37_37 x8_29 (@hid _ ⟨fun t39_39 w40 =>
         BrK t39_39 (@hid _ ⟨
          R (Go.Value.bool false) w40⟩) (@hid _ ⟨
          BinK Try.prog Go.BinOp.add 3 x7_21 (Go.Value.int Go.IntKind.i64 1) (@hid _ ⟨fun t28_41 w42 =>
          B23 t28_41 w42⟩) w40⟩)⟩) w38⟩) w36⟩) w30⟩)⟩) (@hid _ ⟨
        R (Go.Value.bool true) w27⟩)⟩) w25⟩) w22⟩)⟩)⟩) w18⟩) w14⟩)⟩)⟩) w4⟩)⟩) w2⟩) w0
def a5 : Ann := (.seq .no (.seq (.seq .no (.cond (.seq .no .no) .no)) (.seq .no (.seq .no (.cut [6] [(15, 16)] (.seq .no (.cond .no .no)) (.cut [6] [(17, 18)] (.seq .no (.cond .no .no)) (.seq (.seq .no (.cond (.seq .no .no) .no)) (.seq (.seq .no (.block (.loop [7] [(4, 4), (8, 8), (23, 39)] (.seq (.seq .no (.cond .no .no)) (.seq (.block (.seq .no (.cut [8] [(29, 33)] (.seq .no (.cond .no .no)) (.seq .no (.cond (.seq .no .no) .no))))) .no))))) (.seq .no .no)))))))))
theorem F5_eq (x0 x1 : Value) (R : Value → World → Prop) (w0 : World) : F5 x0 x1 R w0 = vc Try.prog (bodyOf Try.f5) a5 (retQ Try.prog Try.f5 R) (envOf 0 [x0, x1]) w0 := by kernel_rfl
theorem F5_calls (x0 x1 : Value) (R : Value → World → Prop) (w0 : World) (h : F5 x0 x1 R w0) : CallK Try.prog 5 #[x0, x1] R w0 :=
  calls_vc (c := bodyOf Try.f5) Try.func5 (by kernel_rfl) (by kernel_rfl) a5 (by kernel_rfl) (by kernel_rfl) [x0, x1] (by rw [Try.ntmps5]; exact Nat.le_of_ble_eq_true rfl) w0 R ((F5_eq x0 x1 R w0).mp h)

/-- canton/cantonlaw17.DrawMixes, its body as a formula. -/
def F6 (x0 x1 : Value) (R : Value → World → Prop) (w0 : World) : Prop :=
  CallV Try.prog (.func (.func 7) #[] #[]) #[] (@hid _ ⟨fun t11_1 w2 =>
  UnK Try.prog Go.UnOp.not t11_1 (@hid _ ⟨fun t12_3 w4 =>
  BrK t12_3 (@hid _ ⟨
   R (Go.Value.bool false) w4⟩) (@hid _ ⟨
   CallV Try.prog (.func (.func 8) #[] #[]) #[x0] (@hid _ ⟨fun t14_5 w6 =>
   UnK Try.prog Go.UnOp.not t14_5 (@hid _ ⟨fun t15_7 w8 =>
   GuardK t15_7 false (fun k w => k x1 w) (@hid _ ⟨fun t17_9 w10 =>
   GuardK t15_7 false (fun k w => BuiltinK Try.prog Go.Builtin.len #[23] 3 #[false] #[t17_9] k w) (@hid _ ⟨fun t18_11 w12 =>
   GuardK t15_7 false (fun k w => BinK Try.prog Go.BinOp.gtr 3 t18_11 (Go.Value.int Go.IntKind.i64 60) k w) (@hid _ ⟨fun t19_13 w14 =>
   PickK Try.prog t15_7 (Go.Value.bool true) t19_13 (@hid _ ⟨fun t20_15 w16 =>
   BrK t20_15 (@hid _ ⟨
    R (Go.Value.bool true) w16⟩) (@hid _ ⟨
    CallV Try.prog (.func (.func 11) #[] #[]) #[x0, x1] (@hid _ ⟨fun t23_17 w18 =>
    CallV Try.prog (.func (.func 11) #[] #[]) #[x0, (Go.Value.slice none 0 0)] (@hid _ ⟨fun t25_19 w20 =>
    BuiltinK Try.prog Go.Builtin.len #[22] 3 #[false] #[t23_17] (@hid _ ⟨fun t27_21 w22 =>
    BuiltinK Try.prog Go.Builtin.len #[22] 3 #[false] #[x0] (@hid _ ⟨fun t29_23 w24 =>
    BinK Try.prog Go.BinOp.neq 3 t27_21 t29_23 (@hid _ ⟨fun t30_25 w26 =>
    GuardK t30_25 false (fun k w => k t25_19 w) (@hid _ ⟨fun t32_27 w28 =>
    GuardK t30_25 false (fun k w => BuiltinK Try.prog Go.Builtin.len #[22] 3 #[false] #[t32_27] k w) (@hid _ ⟨fun t33_29 w30 =>
    GuardK t30_25 false (fun k w => k x0 w) (@hid _ ⟨fun t34_31 w32 =>
    GuardK t30_25 false (fun k w => BuiltinK Try.prog Go.Builtin.len #[22] 3 #[false] #[t34_31] k w) (@hid _ ⟨fun t35_33 w34 =>
    GuardK t30_25 false (fun k w => BinK Try.prog Go.BinOp.neq 3 t33_29 t35_33 k w) (@hid _ ⟨fun t36_35 w36 =>
    PickK Try.prog t30_25 (Go.Value.bool true) t36_35 (@hid _ ⟨fun t37_37 w38 =>
    BrK t37_37 (@hid _ ⟨
     R (Go.Value.bool false) w38⟩) (@hid _ ⟨
     LoopK1 (Go.Value.int Go.IntKind.i64 0) w38 (@hid _ ⟨fun _ x7_39 w40 B41 =>
      BuiltinK Try.prog Go.Builtin.len #[22] 3 #[false] #[x0] (@hid _ ⟨fun t40_42 w43 =>
      BinK Try.prog Go.BinOp.lss 3 x7_39 t40_42 (@hid _ ⟨fun t41_44 w45 =>
      BrK t41_44 (@hid _ ⟨
       LoopK3 (Go.Value.int Go.IntKind.i64 0) (Go.Value.int Go.IntKind.i64 0) (Go.Value.int Go.IntKind.i64 0) w45 (@hid _ ⟨fun _ x8_46 x9_47 x10_48 w49 B50 =>
        BuiltinK Try.prog Go.Builtin.len #[22] 3 #[false] #[x0] (@hid _ ⟨fun t46_51 w52 =>
        BinK Try.prog Go.BinOp.lss 3 x10_48 t46_51 (@hid _ ⟨fun t47_53 w54 =>
        BrK t47_53 (@hid _ ⟨
         CutK1 (@hid _ ⟨fun R55 =>
          DrawK (@hid _ ⟨fun S58 w59 =>
          TakeS Try.prog S58 (Instr.indexAt 22 x0 x10_48) (@hid _ ⟨fun t52_60 =>
          TakeS Try.prog S58 (Instr.loadAt 9 t52_60) (@hid _ ⟨fun t53_61 =>
          TakeS Try.prog S58 (Instr.indexAt 22 x0 x7_39) (@hid _ ⟨fun t56_62 =>
          TakeS Try.prog S58 (Instr.loadAt 9 t56_62) (@hid _ ⟨fun t57_63 =>
          BinT Try.prog S58 Go.BinOp.eql 9 t53_61 t57_63 (@hid _ ⟨fun t58_64 =>
          BrK t58_64 (@hid _ ⟨
           BinK Try.prog Go.BinOp.add 3 x8_46 (Go.Value.int Go.IntKind.i64 1) (@hid _ ⟨fun t60_65 w66 =>
           R55 t60_65 w66⟩) w59⟩) (@hid _ ⟨
           R55 x8_46 w59⟩)⟩)⟩)⟩)⟩)⟩)⟩) w54⟩)
         (@hid _ ⟨fun _ x8_56 w57 =>
          DrawK (@hid _ ⟨fun S67 w68 =>
          TakeS Try.prog S67 (Instr.indexAt 22 t23_17 x10_48) (@hid _ ⟨fun t63_69 =>
          TakeS Try.prog S67 (Instr.loadAt 9 t63_69) (@hid _ ⟨fun t64_70 =>
          TakeS Try.prog S67 (Instr.indexAt 22 x0 x7_39) (@hid _ ⟨fun t67_71 =>
          TakeS Try.prog S67 (Instr.loadAt 9 t67_71) (@hid _ ⟨fun t68_72 =>
          BinT Try.prog S67 Go.BinOp.eql 9 t64_70 t68_72 (@hid _ ⟨fun t69_73 =>
          BrK t69_73 (@hid _ ⟨
           BinK Try.prog Go.BinOp.add 3 x9_47 (Go.Value.int Go.IntKind.i64 1) (@hid _ ⟨fun t71_74 w75 =>
           BinK Try.prog Go.BinOp.add 3 x10_48 (Go.Value.int Go.IntKind.i64 1) (@hid _ ⟨fun t49_76 w77 =>
           B50 x8_56 t71_74 t49_76 w77⟩) w75⟩) w68⟩) (@hid _ ⟨
           BinK Try.prog Go.BinOp.add 3 x10_48 (Go.Value.int Go.IntKind.i64 1) (@hid _ ⟨fun t49_78 w79 =>
           B50 x8_56 x9_47 t49_78 w79⟩) w68⟩)⟩)⟩)⟩)⟩)⟩)⟩) w57⟩)⟩) (@hid _ ⟨
         DrawK (@hid _ ⟨fun S80 w81 =>
         BinT Try.prog S80 Go.BinOp.neq 3 x8_46 x9_47 (@hid _ ⟨fun t74_82 =>
         TakeG t74_82 false (fun k => k t25_19) (@hid _ ⟨fun t76_83 =>
         TakeG t74_82 false (fun k => k x7_39) (@hid _ ⟨fun t77_84 =>
         TakeG t74_82 false (fun k => TakeS Try.prog S80 (Instr.indexAt 22 t76_83 t77_84) k) (@hid _ ⟨fun t78_85 =>
         TakeG t74_82 false (fun k => TakeS Try.prog S80 (Instr.loadAt 9 t78_85) k) (@hid _ ⟨fun t79_86 =>
         TakeG t74_82 false (fun k => k x0) (@hid _ ⟨fun t80_87 =>
         TakeG t74_82 false (fun k => k x7_39) (@hid _ ⟨fun t81_88 =>
         TakeG t74_82 false (fun k => TakeS Try.prog S80 (Instr.indexAt 22 t80_87 t81_88) k) (@hid _ ⟨fun t82_89 =>
         TakeG t74_82 false (fun k => TakeS Try.prog S80 (Instr.loadAt 9 t82_89) k) (@hid _ ⟨fun t83_90 =>
         TakeG t74_82 false (fun k => BinT Try.prog S80 Go.BinOp.neq 9 t79_86 t83_90 k) (@hid _ ⟨fun t84_91 =>
         PickT t74_82 (Go.Value.bool true) t84_91 (@hid _ ⟨fun t85_92 =>
         BrK t85_92 (@hid _ ⟨
          R (Go.Value.bool false) w81⟩) (@hid _ ⟨
          BinK Try.prog Go.BinOp.add 3 x7_39 (Go.Value.int Go.IntKind.i64 1) (@hid _ ⟨fun t43_93 w94 =>
          B41 t43_93 w94⟩) w81⟩)⟩)⟩)⟩)⟩)⟩)⟩)⟩)⟩)⟩)⟩)⟩)⟩) w54⟩)⟩) w52⟩) w49⟩)⟩) (@hid _ ⟨
       R (Go.Value.bool true) w45⟩)⟩) w43⟩) w40⟩)⟩)⟩) w36⟩) w34⟩) w32⟩) w30⟩) w28⟩) w26⟩) w24⟩) w22⟩) w20⟩) w18⟩) w16⟩)⟩) w14⟩) w12⟩) w10⟩) w8⟩) w6⟩) w4⟩)⟩) w2⟩) w0
def a6 : Ann := (.seq .no (.seq (.seq .no (.cond (.seq .no .no) .no)) (.seq (.seq .no (.cond (.seq .no .no) .no)) (.seq .no (.seq .no (.seq (.seq .no (.cond (.seq .no .no) .no)) (.seq (.seq .no (.block (.loop [7] [(4, 4), (8, 10), (38, 85)] (.seq (.seq .no (.cond .no .no)) (.seq (.block (.seq .no (.seq .no (.seq (.seq .no (.block (.loop [8, 9, 10] [(44, 71)] (.seq (.seq .no (.cond .no .no)) (.seq (.block (.cut [8] [(50, 60)] (.seq (.plan (.take 0 (.take 1 (.take 2 (.take 3 (.take 4 (.take 5 (.take 6 (.take 7 (.take 8 .done)))))))))) (.cond .no .no)) (.seq (.plan (.take 0 (.take 1 (.take 2 (.take 3 (.take 4 (.take 5 (.take 6 (.take 7 (.take 8 .done)))))))))) (.cond .no .no)))) .no))))) (.seq (.plan (.take 0 (.take 1 (.take 2 (.take 3 (.take 4 (.take 5 (.take 6 (.take 7 (.take 8 (.take 9 (.take 10 (.take 11 (.take 12 (.take 13 .done))))))))))))))) (.cond (.seq .no .no) .no)))))) .no))))) (.seq .no .no))))))))
theorem F6_eq (x0 x1 : Value) (R : Value → World → Prop) (w0 : World) : F6 x0 x1 R w0 = vc Try.prog (bodyOf Try.f6) a6 (retQ Try.prog Try.f6 R) (envOf 0 [x0, x1]) w0 := by kernel_rfl
theorem F6_calls (x0 x1 : Value) (R : Value → World → Prop) (w0 : World) (h : F6 x0 x1 R w0) : CallK Try.prog 6 #[x0, x1] R w0 :=
  calls_vc (c := bodyOf Try.f6) Try.func6 (by kernel_rfl) (by kernel_rfl) a6 (by kernel_rfl) (by kernel_rfl) [x0, x1] (by rw [Try.ntmps6]; exact Nat.le_of_ble_eq_true rfl) w0 R ((F6_eq x0 x1 R w0).mp h)

/-- canton/cantonlaw17.known, its body as a formula. -/
def F7 (R : Value → World → Prop) (w0 : World) : Prop :=
  BuildSliceK Try.prog 22 3 #[(0, (Go.Value.string { data := #[97] })), (1, (Go.Value.string { data := #[98] })), (2, (Go.Value.string { data := #[99] }))] (@hid _ ⟨fun t8_1 w2 =>
  CallV Try.prog (.func (.func 9) #[] #[]) #[t8_1, (Go.Value.int Go.IntKind.i64 4)] (@hid _ ⟨fun t11_3 w4 =>
  ExtractK Try.prog t11_3 0 (@hid _ ⟨fun t12_5 w6 =>
  ExtractK Try.prog t11_3 1 (@hid _ ⟨fun t13_7 w8 =>
  CallV Try.prog (.func (.func 9) #[] #[]) #[(Go.Value.slice none 0 0), (Go.Value.int Go.IntKind.i64 4)] (@hid _ ⟨fun t15_9 w10 =>
  ExtractK Try.prog t15_9 0 (@hid _ ⟨fun t16_11 w12 =>
  ExtractK Try.prog t15_9 1 (@hid _ ⟨fun t17_13 w14 =>
  BuildSliceK Try.prog 23 2 #[(0, (Go.Value.int Go.IntKind.i64 2)), (1, (Go.Value.int Go.IntKind.i64 1))] (@hid _ ⟨fun t19_15 w16 =>
  CallV Try.prog (.func (.func 11) #[] #[]) #[t8_1, t19_15] (@hid _ ⟨fun t20_17 w18 =>
  CallV Try.prog (.func (.func 14) #[] #[]) #[(Go.Value.int Go.IntKind.i64 2), (Go.Value.int Go.IntKind.i64 5)] (@hid _ ⟨fun t21_19 w20 =>
  BinK Try.prog Go.BinOp.eql 9 t12_5 (Go.Value.string { data := #[98] }) (@hid _ ⟨fun t23_21 w22 =>
  GuardK t23_21 true (fun k w => k t13_7 w) (@hid _ ⟨fun t25_23 w24 =>
  PickK Try.prog t23_21 t25_23 (Go.Value.bool false) (@hid _ ⟨fun t26_25 w26 =>
  GuardK t26_25 true (fun k w => k t17_13 w) (@hid _ ⟨fun t28_27 w28 =>
  GuardK t26_25 true (fun k w => UnK Try.prog Go.UnOp.not t28_27 k w) (@hid _ ⟨fun t29_29 w30 =>
  PickK Try.prog t26_25 t29_29 (Go.Value.bool false) (@hid _ ⟨fun t30_31 w32 =>
  GuardK t30_31 true (fun k w => k t20_17 w) (@hid _ ⟨fun t32_33 w34 =>
  GuardK t30_31 true (fun k w => BuiltinK Try.prog Go.Builtin.len #[22] 3 #[false] #[t32_33] k w) (@hid _ ⟨fun t33_35 w36 =>
  GuardK t30_31 true (fun k w => BinK Try.prog Go.BinOp.eql 3 t33_35 (Go.Value.int Go.IntKind.i64 3) k w) (@hid _ ⟨fun t34_37 w38 =>
  PickK Try.prog t30_31 t34_37 (Go.Value.bool false) (@hid _ ⟨fun t35_39 w40 =>
  GuardK t35_39 true (fun k w => k t20_17 w) (@hid _ ⟨fun t37_41 w42 =>
  GuardK t35_39 true (fun k w => IndexAtK Try.prog 22 t37_41 (Go.Value.int Go.IntKind.i64 0) k w) (@hid _ ⟨fun t38_43 w44 =>
  GuardK t35_39 true (fun k w => LoadK Try.prog 9 t38_43 k w) (@hid _ ⟨fun t39_45 w46 =>
  GuardK t35_39 true (fun k w => BinK Try.prog Go.BinOp.eql 9 t39_45 (Go.Value.string { data := #[99] }) k w) (@hid _ ⟨fun t40_47 w48 =>
  PickK Try.prog t35_39 t40_47 (Go.Value.bool false) (@hid _ ⟨fun t41_49 w50 =>
  GuardK t41_49 true (fun k w => k t20_17 w) (@hid _ ⟨fun t43_51 w52 =>
  GuardK t41_49 true (fun k w => IndexAtK Try.prog 22 t43_51 (Go.Value.int Go.IntKind.i64 1) k w) (@hid _ ⟨fun t44_53 w54 =>
  GuardK t41_49 true (fun k w => LoadK Try.prog 9 t44_53 k w) (@hid _ ⟨fun t45_55 w56 =>
  GuardK t41_49 true (fun k w => BinK Try.prog Go.BinOp.eql 9 t45_55 (Go.Value.string { data := #[98] }) k w) (@hid _ ⟨fun t46_57 w58 =>
  PickK Try.prog t41_49 t46_57 (Go.Value.bool false) (@hid _ ⟨fun t47_59 w60 =>
  GuardK t47_59 true (fun k w => k t20_17 w) (@hid _ ⟨fun t49_61 w62 =>
  GuardK t47_59 true (fun k w => IndexAtK Try.prog 22 t49_61 (Go.Value.int Go.IntKind.i64 2) k w) (@hid _ ⟨fun t50_63 w64 =>
  GuardK t47_59 true (fun k w => LoadK Try.prog 9 t50_63 k w) (@hid _ ⟨fun t51_65 w66 =>
  GuardK t47_59 true (fun k w => BinK Try.prog Go.BinOp.eql 9 t51_65 (Go.Value.string { data := #[97] }) k w) (@hid _ ⟨fun t52_67 w68 =>
  PickK Try.prog t47_59 t52_67 (Go.Value.bool false) (@hid _ ⟨fun t53_69 w70 =>
  GuardK t53_69 true (fun k w => BuildSliceK Try.prog 23 2 #[(0, (Go.Value.int Go.IntKind.i64 4)), (1, (Go.Value.int Go.IntKind.i64 1))] k w) (@hid _ ⟨fun t55_71 w72 =>
  GuardK t53_69 true (fun k w => CallV Try.prog (.func (.func 13) #[] #[]) #[(Go.Value.int Go.IntKind.i64 2), t55_71] k w) (@hid _ ⟨fun t56_73 w74 =>
  PickK Try.prog t53_69 t56_73 (Go.Value.bool false) (@hid _ ⟨fun t57_75 w76 =>
  GuardK t57_75 true (fun k w => BuildSliceK Try.prog 23 2 #[(0, (Go.Value.int Go.IntKind.i64 0)), (1, (Go.Value.int Go.IntKind.i64 2))] k w) (@hid _ ⟨fun t59_77 w78 =>
  GuardK t57_75 true (fun k w => CallV Try.prog (.func (.func 13) #[] #[]) #[(Go.Value.int Go.IntKind.i64 2), t59_77] k w) (@hid _ ⟨fun t60_79 w80 =>
  GuardK t57_75 true (fun k w => UnK Try.prog Go.UnOp.not t60_79 k w) (@hid _ ⟨fun t61_81 w82 =>
  PickK Try.prog t57_75 t61_81 (Go.Value.bool false) (@hid _ ⟨fun t62_83 w84 =>
  GuardK t62_83 true (fun k w => k t21_19 w) (@hid _ ⟨fun t64_85 w86 =>
  GuardK t62_83 true (fun k w => BuiltinK Try.prog Go.Builtin.len #[23] 3 #[false] #[t64_85] k w) (@hid _ ⟨fun t65_87 w88 =>
  GuardK t62_83 true (fun k w => BinK Try.prog Go.BinOp.eql 3 t65_87 (Go.Value.int Go.IntKind.i64 5) k w) (@hid _ ⟨fun t66_89 w90 =>
  PickK Try.prog t62_83 t66_89 (Go.Value.bool false) (@hid _ ⟨fun t67_91 w92 =>
  GuardK t67_91 true (fun k w => k t21_19 w) (@hid _ ⟨fun t69_93 w94 =>
  GuardK t67_91 true (fun k w => IndexAtK Try.prog 23 t69_93 (Go.Value.int Go.IntKind.i64 3) k w) (@hid _ ⟨fun t70_95 w96 =>
  GuardK t67_91 true (fun k w => LoadK Try.prog 2 t70_95 k w) (@hid _ ⟨fun t71_97 w98 =>
  GuardK t67_91 true (fun k w => BinK Try.prog Go.BinOp.eql 2 t71_97 (Go.Value.int Go.IntKind.i64 1) k w) (@hid _ ⟨fun t72_99 w100 =>
  PickK Try.prog t67_91 t72_99 (Go.Value.bool false) (@hid _ ⟨fun t73_101 w102 =>
  R t73_101 w102⟩) w100⟩) w98⟩) w96⟩) w94⟩) w92⟩) w90⟩) w88⟩) w86⟩) w84⟩) w82⟩) w80⟩) w78⟩) w76⟩) w74⟩) w72⟩) w70⟩) w68⟩) w66⟩) w64⟩) w62⟩) w60⟩) w58⟩) w56⟩) w54⟩) w52⟩) w50⟩) w48⟩) w46⟩) w44⟩) w42⟩) w40⟩) w38⟩) w36⟩) w34⟩) w32⟩) w30⟩) w28⟩) w26⟩) w24⟩) w22⟩) w20⟩) w18⟩) w16⟩) w14⟩) w12⟩) w10⟩) w8⟩) w6⟩) w4⟩) w2⟩) w0
def a7 : Ann := (.seq .no (.seq .no (.seq .no (.seq .no (.seq .no (.seq .no (.seq .no .no)))))))
theorem F7_eq (R : Value → World → Prop) (w0 : World) : F7  R w0 = vc Try.prog (bodyOf Try.f7) a7 (retQ Try.prog Try.f7 R) (envOf 0 []) w0 := by kernel_rfl
theorem F7_calls (R : Value → World → Prop) (w0 : World) (h : F7  R w0) : CallK Try.prog 7 #[] R w0 :=
  calls_vc (c := bodyOf Try.f7) Try.func7 (by kernel_rfl) (by kernel_rfl) a7 (by kernel_rfl) (by kernel_rfl) [] (by rw [Try.ntmps7]; exact Nat.le_of_ble_eq_true rfl) w0 R ((F7_eq  R w0).mp h)

/-- canton/cantonlaw17.few, its body as a formula. -/
def F8 (x0 : Value) (R : Value → World → Prop) (w0 : World) : Prop :=
  BuiltinK Try.prog Go.Builtin.len #[22] 3 #[false] #[x0] (@hid _ ⟨fun t5_1 w2 =>
  BinK Try.prog Go.BinOp.gtr 3 t5_1 (Go.Value.int Go.IntKind.i64 40) (@hid _ ⟨fun t6_3 w4 =>
  BrK t6_3 (@hid _ ⟨
   R (Go.Value.bool false) w4⟩) (@hid _ ⟨
   LoopK1 (Go.Value.int Go.IntKind.i64 0) w4 (@hid _ ⟨fun _ x3_5 w6 B7 =>
    BuiltinK Try.prog Go.Builtin.len #[22] 3 #[false] #[x0] (@hid _ ⟨fun t9_8 w9 =>
    BinK Try.prog Go.BinOp.lss 3 x3_5 t9_8 (@hid _ ⟨fun t10_10 w11 =>
    BrK t10_10 (@hid _ ⟨
     IndexAtK Try.prog 22 x0 x3_5 (@hid _ ⟨fun t15_12 w13 =>
     LoadK Try.prog 9 t15_12 (@hid _ ⟨fun t16_14 w15 =>
     BuiltinK Try.prog Go.Builtin.len #[9] 3 #[false] #[t16_14] (@hid _ ⟨fun t17_16 w17 =>
     BinK Try.prog Go.BinOp.gtr 3 t17_16 (Go.Value.int Go.IntKind.i64 100) (@hid _ ⟨fun t18_18 w19 =>
     BrK t18_18 (@hid _ ⟨
      R (Go.Value.bool false) w19⟩) (@hid _ ⟨
      BinK Try.prog Go.BinOp.add 3 x3_5 (Go.Value.int Go.IntKind.i64 1) (@hid _ ⟨fun t12_20 w21 =>
      B7 t12_20 w21⟩) w19⟩)⟩) w17⟩) w15⟩) w13⟩) w11⟩) (@hid _ ⟨
     R (Go.Value.bool true) w11⟩)⟩) w9⟩) w6⟩)⟩)⟩) w2⟩) w0
def a8 : Ann := (.seq .no (.seq (.seq .no (.cond (.seq .no .no) .no)) (.seq (.seq .no (.block (.loop [3] [(2, 2), (7, 18)] (.seq (.seq .no (.cond .no .no)) (.seq (.block (.seq .no (.cond (.seq .no .no) .no))) .no))))) (.seq .no .no))))
theorem F8_eq (x0 : Value) (R : Value → World → Prop) (w0 : World) : F8 x0 R w0 = vc Try.prog (bodyOf Try.f8) a8 (retQ Try.prog Try.f8 R) (envOf 0 [x0]) w0 := by kernel_rfl
theorem F8_calls (x0 : Value) (R : Value → World → Prop) (w0 : World) (h : F8 x0 R w0) : CallK Try.prog 8 #[x0] R w0 :=
  calls_vc (c := bodyOf Try.f8) Try.func8 (by kernel_rfl) (by kernel_rfl) a8 (by kernel_rfl) (by kernel_rfl) [x0] (by rw [Try.ntmps8]; exact Nat.le_of_ble_eq_true rfl) w0 R ((F8_eq x0 R w0).mp h)

/-- canton/cantonref21.Draw, its body as a formula. -/
def F10 (x0 x1 : Value) (R : Value → World → Prop) (w0 : World) : Prop :=
  BuiltinK Try.prog Go.Builtin.len #[22] 3 #[false] #[x0] (@hid _ ⟨fun t7_1 w2 =>
  BinK Try.prog Go.BinOp.eql 3 t7_1 (Go.Value.int Go.IntKind.i64 0) (@hid _ ⟨fun t8_3 w4 =>
  BrK t8_3 (@hid _ ⟨
   R (.tuple #[(Go.Value.string { data := #[] }), (Go.Value.bool false)]) w4⟩) (@hid _ ⟨
   CutK1 (@hid _ ⟨fun R5 =>
    BinK Try.prog Go.BinOp.lss 2 x1 (Go.Value.int Go.IntKind.i64 0) (@hid _ ⟨fun t10_8 w9 =>
    BrK t10_8 (@hid _ ⟨
     R5 (Go.Value.int Go.IntKind.i64 0) w9⟩) (@hid _ ⟨
     R5 x1 w9⟩)⟩) w4⟩)
   (@hid _ ⟨fun _ x1_6 w7 =>
    BuiltinK Try.prog Go.Builtin.len #[22] 3 #[false] #[x0] (@hid _ ⟨fun t14_10 w11 =>
    BinK Try.prog Go.BinOp.rem 2 x1_6 t14_10 (@hid _ ⟨fun t15_12 w13 =>
    IndexAtK Try.prog 22 x0 t15_12 (@hid _ ⟨fun t16_14 w15 =>
    LoadK Try.prog 9 t16_14 (@hid _ ⟨fun t17_16 w17 =>
    R (.tuple #[t17_16, (Go.Value.bool true)]) w17⟩) w15⟩) w13⟩) w11⟩) w7⟩)⟩)⟩) w2⟩) w0
def a10 : Ann := (.seq .no (.seq (.seq .no (.cond (.seq .no .no) .no)) (.cut [1] [(9, 10)] (.seq .no (.cond .no .no)) (.seq .no .no))))
theorem F10_eq (x0 x1 : Value) (R : Value → World → Prop) (w0 : World) : F10 x0 x1 R w0 = vc Try.prog (bodyOf Try.f10) a10 (retQ Try.prog Try.f10 R) (envOf 0 [x0, x1]) w0 := by kernel_rfl
theorem F10_calls (x0 x1 : Value) (R : Value → World → Prop) (w0 : World) (h : F10 x0 x1 R w0) : CallK Try.prog 10 #[x0, x1] R w0 :=
  calls_vc (c := bodyOf Try.f10) Try.func10 (by kernel_rfl) (by kernel_rfl) a10 (by kernel_rfl) (by kernel_rfl) [x0, x1] (by rw [Try.ntmps10]; exact Nat.le_of_ble_eq_true rfl) w0 R ((F10_eq x0 x1 R w0).mp h)

/-- canton/draw.Mix, its body as a formula. -/
def F11 (x0 x1 : Value) (R : Value → World → Prop) (w0 : World) : Prop :=
  CallV Try.prog (.func (.func 16) #[] #[]) #[x0] (@hid _ ⟨fun t11_1 w2 =>
  BuiltinK Try.prog Go.Builtin.len #[22] 3 #[false] #[x0] (@hid _ ⟨fun t13_3 w4 =>
  LoopK3 t11_1 (Go.Value.slice none 0 0) (Go.Value.int Go.IntKind.i64 0) w4 (@hid _ ⟨fun _ x5_5 x6_6 x14_7 w8 B9 =>
   BinK Try.prog Go.BinOp.lss 3 x14_7 t13_3 (@hid _ ⟨fun t15_10 w11 =>
   BrK t15_10 (@hid _ ⟨
    CutK1 (@hid _ ⟨fun R12 =>
     BuiltinK Try.prog Go.Builtin.len #[23] 3 #[false] #[x1] (@hid _ ⟨fun t19_15 w16 =>
     BinK Try.prog Go.BinOp.lss 3 x14_7 t19_15 (@hid _ ⟨fun t20_17 w18 =>
     BrK t20_17 (@hid _ ⟨
      IndexAtK Try.prog 23 x1 x14_7 (@hid _ ⟨fun t23_19 w20 =>
      LoadK Try.prog 2 t23_19 (@hid _ ⟨fun t24_21 w22 =>
      R12 t24_21 w22⟩) w20⟩) w18⟩) (@hid _ ⟨
      R12 (Go.Value.int Go.IntKind.i64 0) w18⟩)⟩) w16⟩) w11⟩)
    (@hid _ ⟨fun _ x8_13 w14 =>
     BuiltinK Try.prog Go.Builtin.len #[22] 3 #[false] #[x5_5] (@hid _ ⟨fun t27_23 w24 =>
     CallV Try.prog (.func (.func 17) #[] #[]) #[x8_13, t27_23] (@hid _ ⟨fun t28_25 w26 =>
     IndexAtK Try.prog 22 x5_5 t28_25 (@hid _ ⟨fun t32_27 w28 =>
     LoadK Try.prog 9 t32_27 (@hid _ ⟨fun t33_29 w30 =>
     BuildSliceK Try.prog 22 1 #[(0, t33_29)] (@hid _ ⟨fun t34_31 w32 =>
     BuiltinK Try.prog Go.Builtin.append #[22, 22] 22 #[false, false] #[x6_6, t34_31] (@hid _ ⟨fun t35_33 w34 =>
     BinK Try.prog Go.BinOp.add 3 t28_25 (Go.Value.int Go.IntKind.i64 1) (@hid _ ⟨fun t39_35 w36 =>
     CallV Try.prog (.func (.func 18) #[] #[]) #[x5_5, t28_25, t39_35] (@hid _ ⟨fun t40_37 w38 =>
     BinK Try.prog Go.BinOp.add 3 x14_7 (Go.Value.int Go.IntKind.i64 1) (@hid _ ⟨fun t41_39 w40 =>
     B9 t40_37 t35_33 t41_39 w40⟩) w38⟩) w36⟩) w34⟩) w32⟩) w30⟩) w28⟩) w26⟩) w24⟩) w14⟩)⟩) (@hid _ ⟨
    CallV Try.prog (.func (.func 19) #[] #[]) #[x6_6] (@hid _ ⟨fun t43_41 w42 =>
    R t43_41 w42⟩) w11⟩)⟩) w8⟩)⟩) w2⟩) w0
def a11 : Ann := (.seq .no (.seq .no (.seq .no (.seq (.seq .no (.block (.loop [5, 6, 14] [(7, 9), (15, 41)] (.seq .no (.seq (.cond .no .no) (.seq (.block (.seq .no (.seq .no (.cut [8] [(17, 24)] (.seq .no (.cond .no .no)) (.seq .no (.seq .no .no)))))) .no)))))) (.seq .no .no)))))
theorem F11_eq (x0 x1 : Value) (R : Value → World → Prop) (w0 : World) : F11 x0 x1 R w0 = vc Try.prog (bodyOf Try.f11) a11 (retQ Try.prog Try.f11 R) (envOf 0 [x0, x1]) w0 := by kernel_rfl
theorem F11_calls (x0 x1 : Value) (R : Value → World → Prop) (w0 : World) (h : F11 x0 x1 R w0) : CallK Try.prog 11 #[x0, x1] R w0 :=
  calls_vc (c := bodyOf Try.f11) Try.func11 (by kernel_rfl) (by kernel_rfl) a11 (by kernel_rfl) (by kernel_rfl) [x0, x1] (by rw [Try.ntmps11]; exact Nat.le_of_ble_eq_true rfl) w0 R ((F11_eq x0 x1 R w0).mp h)

/-- canton/cantonlaw6.Texts, its body as a formula. -/
def F12 (x0 x1 : Value) (R : Value → World → Prop) (w0 : World) : Prop :=
  BuiltinK Try.prog Go.Builtin.len #[22] 3 #[false] #[x0] (@hid _ ⟨fun t7_1 w2 =>
  BuiltinK Try.prog Go.Builtin.len #[22] 3 #[false] #[x1] (@hid _ ⟨fun t9_3 w4 =>
  BinK Try.prog Go.BinOp.neq 3 t7_1 t9_3 (@hid _ ⟨fun t10_5 w6 =>
  BrK t10_5 (@hid _ ⟨
   R (Go.Value.bool false) w6⟩) (@hid _ ⟨
   LoopK1 (Go.Value.int Go.IntKind.i64 0) w6 (@hid _ ⟨fun _ x5_7 w8 B9 =>
    BuiltinK Try.prog Go.Builtin.len #[22] 3 #[false] #[x0] (@hid _ ⟨fun t13_10 w11 =>
    BinK Try.prog Go.BinOp.lss 3 x5_7 t13_10 (@hid _ ⟨fun t14_12 w13 =>
    BrK t14_12 (@hid _ ⟨
     DrawK (@hid _ ⟨fun S14 w15 =>
     TakeS Try.prog S14 (Instr.indexAt 22 x0 x5_7) (@hid _ ⟨fun t19_16 =>
     TakeS Try.prog S14 (Instr.loadAt 9 t19_16) (@hid _ ⟨fun t20_17 =>
     TakeS Try.prog S14 (Instr.indexAt 22 x1 x5_7) (@hid _ ⟨fun t23_18 =>
     TakeS Try.prog S14 (Instr.loadAt 9 t23_18) (@hid _ ⟨fun t24_19 =>
     BinT Try.prog S14 Go.BinOp.neq 9 t20_17 t24_19 (@hid _ ⟨fun t25_20 =>
     BrK t25_20 (@hid _ ⟨
      R (Go.Value.bool false) w15⟩) (@hid _ ⟨
      BinK Try.prog Go.BinOp.add 3 x5_7 (Go.Value.int Go.IntKind.i64 1) (@hid _ ⟨fun t16_21 w22 =>
      B9 t16_21 w22⟩) w15⟩)⟩)⟩)⟩)⟩)⟩)⟩) w13⟩) (@hid _ ⟨
     R (Go.Value.bool true) w13⟩)⟩) w11⟩) w8⟩)⟩)⟩) w4⟩) w2⟩) w0
def a12 : Ann := (.seq .no (.seq (.seq .no (.cond (.seq .no .no) .no)) (.seq (.seq .no (.block (.loop [5] [(4, 4), (11, 25)] (.seq (.seq .no (.cond .no .no)) (.seq (.block (.seq (.plan (.take 0 (.take 1 (.take 2 (.take 3 (.take 4 (.take 5 (.take 6 (.take 7 (.take 8 .done)))))))))) (.cond (.seq .no .no) .no))) .no))))) (.seq .no .no))))
theorem F12_eq (x0 x1 : Value) (R : Value → World → Prop) (w0 : World) : F12 x0 x1 R w0 = vc Try.prog (bodyOf Try.f12) a12 (retQ Try.prog Try.f12 R) (envOf 0 [x0, x1]) w0 := by kernel_rfl
theorem F12_calls (x0 x1 : Value) (R : Value → World → Prop) (w0 : World) (h : F12 x0 x1 R w0) : CallK Try.prog 12 #[x0, x1] R w0 :=
  calls_vc (c := bodyOf Try.f12) Try.func12 (by kernel_rfl) (by kernel_rfl) a12 (by kernel_rfl) (by kernel_rfl) [x0, x1] (by rw [Try.ntmps12]; exact Nat.le_of_ble_eq_true rfl) w0 R ((F12_eq x0 x1 R w0).mp h)

/-- canton/draw.Covers, its body as a formula. -/
def F13 (x0 x1 : Value) (R : Value → World → Prop) (w0 : World) : Prop :=
  ValK Try.prog (Instr.makeMap 42 none) (@hid _ ⟨fun t8_1 w2 =>
  BuiltinK Try.prog Go.Builtin.len #[23] 3 #[false] #[x1] (@hid _ ⟨fun t10_3 w4 =>
  LoopK1 (Go.Value.int Go.IntKind.i64 0) w4 (@hid _ ⟨fun _ x11_5 w6 B7 =>
   BinK Try.prog Go.BinOp.lss 3 x11_5 t10_3 (@hid _ ⟨fun t12_8 w9 =>
   BrK t12_8 (@hid _ ⟨
    IndexAtK Try.prog 23 x1 x11_5 (@hid _ ⟨fun t13_10 w11 =>
    LoadK Try.prog 2 t13_10 (@hid _ ⟨fun t14_12 w13 =>
    BinK Try.prog Go.BinOp.gtr 3 x0 (Go.Value.int Go.IntKind.i64 0) (@hid _ ⟨fun t16_14 w15 =>
    BrK t16_14 (@hid _ ⟨
     CallV Try.prog (.func (.func 17) #[] #[]) #[t14_12, x0] (@hid _ ⟨fun t20_16 w17 =>
     DoK Try.prog (Instr.mapUpdate 42 t8_1 t20_16 (Go.Value.bool true)) (@hid _ ⟨fun tu_18 w19 =>
     BinK Try.prog Go.BinOp.add 3 x11_5 (Go.Value.int Go.IntKind.i64 1) (@hid _ ⟨fun t21_20 w21 =>
     B7 t21_20 w21⟩) w19⟩) w17⟩) w15⟩) (@hid _ ⟨
     BinK Try.prog Go.BinOp.add 3 x11_5 (Go.Value.int Go.IntKind.i64 1) (@hid _ ⟨fun t21_22 w23 =>
     B7 t21_22 w23⟩) w15⟩)⟩) w13⟩) w11⟩) w9⟩) (@hid _ ⟨
    BuiltinK Try.prog Go.Builtin.len #[42] 3 #[false] #[t8_1] (@hid _ ⟨fun t23_24 w25 =>
    BinK Try.prog Go.BinOp.geq 3 t23_24 x0 (@hid _ ⟨fun t25_26 w27 =>
    R t25_26 w27⟩) w25⟩) w9⟩)⟩) w6⟩)⟩) w2⟩) w0
def a13 : Ann := (.seq .no (.seq .no (.seq (.seq .no (.block (.loop [11] [(7, 7), (12, 21)] (.seq .no (.seq (.cond .no .no) (.seq (.block (.seq .no (.seq .no (.cond .no .no)))) .no)))))) (.seq .no .no))))
theorem F13_eq (x0 x1 : Value) (R : Value → World → Prop) (w0 : World) : F13 x0 x1 R w0 = vc Try.prog (bodyOf Try.f13) a13 (retQ Try.prog Try.f13 R) (envOf 0 [x0, x1]) w0 := by kernel_rfl
theorem F13_calls (x0 x1 : Value) (R : Value → World → Prop) (w0 : World) (h : F13 x0 x1 R w0) : CallK Try.prog 13 #[x0, x1] R w0 :=
  calls_vc (c := bodyOf Try.f13) Try.func13 (by kernel_rfl) (by kernel_rfl) a13 (by kernel_rfl) (by kernel_rfl) [x0, x1] (by rw [Try.ntmps13]; exact Nat.le_of_ble_eq_true rfl) w0 R ((F13_eq x0 x1 R w0).mp h)

/-- canton/draw.Turns, its body as a formula. -/
def F14 (x0 x1 : Value) (R : Value → World → Prop) (w0 : World) : Prop :=
  BuiltinK Try.prog Go.Builtin.max #[3, 3] 3 #[false, true] #[x1, (Go.Value.int Go.IntKind.i64 0)] (@hid _ ⟨fun t8_1 w2 =>
  BuiltinK Try.prog Go.Builtin.min #[3, 3] 3 #[false, true] #[t8_1, (Go.Value.int Go.IntKind.i64 4096)] (@hid _ ⟨fun t9_3 w4 =>
  LoopK2 (Go.Value.slice none 0 0) (Go.Value.int Go.IntKind.i64 0) w4 (@hid _ ⟨fun _ x5_5 x10_6 w7 B8 =>
   BinK Try.prog Go.BinOp.lss 3 x10_6 t9_3 (@hid _ ⟨fun t11_9 w10 =>
   BrK t11_9 (@hid _ ⟨
    BuiltinK Try.prog Go.Builtin.max #[3, 3] 3 #[false, true] #[x0, (Go.Value.int Go.IntKind.i64 1)] (@hid _ ⟨fun t16_11 w12 =>
    BinK Try.prog Go.BinOp.rem 3 x10_6 t16_11 (@hid _ ⟨fun t17_13 w14 =>
    BuildSliceK Try.prog 23 1 #[(0, t17_13)] (@hid _ ⟨fun t18_15 w16 =>
    BuiltinK Try.prog Go.Builtin.append #[23, 23] 23 #[false, false] #[x5_5, t18_15] (@hid _ ⟨fun t19_17 w18 =>
    BinK Try.prog Go.BinOp.add 3 x10_6 (Go.Value.int Go.IntKind.i64 1) (@hid _ ⟨fun t20_19 w20 =>
    B8 t19_17 t20_19 w20⟩) w18⟩) w16⟩) w14⟩) w12⟩) w10⟩) (@hid _ ⟨
    CallV Try.prog (.func (.func 20) #[] #[]) #[x5_5] (@hid _ ⟨fun t22_21 w22 =>
    R t22_21 w22⟩) w10⟩)⟩) w7⟩)⟩) w2⟩) w0
def a14 : Ann := (.seq .no (.seq .no (.seq (.seq .no (.block (.loop [5, 10] [(6, 6), (11, 20)] (.seq .no (.seq (.cond .no .no) (.seq (.block (.seq .no .no)) .no)))))) (.seq .no .no))))
theorem F14_eq (x0 x1 : Value) (R : Value → World → Prop) (w0 : World) : F14 x0 x1 R w0 = vc Try.prog (bodyOf Try.f14) a14 (retQ Try.prog Try.f14 R) (envOf 0 [x0, x1]) w0 := by kernel_rfl
theorem F14_calls (x0 x1 : Value) (R : Value → World → Prop) (w0 : World) (h : F14 x0 x1 R w0) : CallK Try.prog 14 #[x0, x1] R w0 :=
  calls_vc (c := bodyOf Try.f14) Try.func14 (by kernel_rfl) (by kernel_rfl) a14 (by kernel_rfl) (by kernel_rfl) [x0, x1] (by rw [Try.ntmps14]; exact Nat.le_of_ble_eq_true rfl) w0 R ((F14_eq x0 x1 R w0).mp h)

/-- slices.Clone[[]string,string], its body as a formula. -/
def F16 (x0 : Value) (R : Value → World → Prop) (w0 : World) : Prop :=
  BinK Try.prog Go.BinOp.eql 22 x0 (Go.Value.slice none 0 0) (@hid _ ⟨fun t4_1 w2 =>
  BrK t4_1 (@hid _ ⟨
   R (Go.Value.slice none 0 0) w2⟩) (@hid _ ⟨
   BuildSliceK Try.prog 22 0 #[] (@hid _ ⟨fun t5_3 w4 =>
   BuiltinK Try.prog Go.Builtin.append #[22, 22] 22 #[false, false] #[t5_3, x0] (@hid _ ⟨fun t7_5 w6 =>
   R t7_5 w6⟩) w4⟩) w2⟩)⟩) w0
def a16 : Ann := (.seq .no (.seq (.seq .no (.cond (.seq .no .no) .no)) (.seq .no .no)))
theorem F16_eq (x0 : Value) (R : Value → World → Prop) (w0 : World) : F16 x0 R w0 = vc Try.prog (bodyOf Try.f16) a16 (retQ Try.prog Try.f16 R) (envOf 0 [x0]) w0 := by kernel_rfl
theorem F16_calls (x0 : Value) (R : Value → World → Prop) (w0 : World) (h : F16 x0 R w0) : CallK Try.prog 16 #[x0] R w0 :=
  calls_vc (c := bodyOf Try.f16) Try.func16 (by kernel_rfl) (by kernel_rfl) a16 (by kernel_rfl) (by kernel_rfl) [x0] (by rw [Try.ntmps16]; exact Nat.le_of_ble_eq_true rfl) w0 R ((F16_eq x0 R w0).mp h)

/-- canton/draw.at, its body as a formula. -/
def F17 (x0 x1 : Value) (R : Value → World → Prop) (w0 : World) : Prop :=
  BuiltinK Try.prog Go.Builtin.max #[2, 2] 2 #[false, true] #[x0, (Go.Value.int Go.IntKind.i64 0)] (@hid _ ⟨fun t6_1 w2 =>
  BinK Try.prog Go.BinOp.rem 2 t6_1 x1 (@hid _ ⟨fun t8_3 w4 =>
  R t8_3 w4⟩) w2⟩) w0
def a17 : Ann := (.seq .no (.seq .no .no))
theorem F17_eq (x0 x1 : Value) (R : Value → World → Prop) (w0 : World) : F17 x0 x1 R w0 = vc Try.prog (bodyOf Try.f17) a17 (retQ Try.prog Try.f17 R) (envOf 0 [x0, x1]) w0 := by kernel_rfl
theorem F17_calls (x0 x1 : Value) (R : Value → World → Prop) (w0 : World) (h : F17 x0 x1 R w0) : CallK Try.prog 17 #[x0, x1] R w0 :=
  calls_vc (c := bodyOf Try.f17) Try.func17 (by kernel_rfl) (by kernel_rfl) a17 (by kernel_rfl) (by kernel_rfl) [x0, x1] (by rw [Try.ntmps17]; exact Nat.le_of_ble_eq_true rfl) w0 R ((F17_eq x0 x1 R w0).mp h)

/-- slices.Delete[[]string,string], its body as a formula. -/
def F18 (x0 x1 x2 : Value) (R : Value → World → Prop) (w0 : World) : Prop :=
  BuiltinK Try.prog Go.Builtin.len #[22] 3 #[false] #[x0] (@hid _ ⟨fun t12_1 w2 =>
  SliceK Try.prog 22 x0 (some x1) (some x2) (some t12_1) (@hid _ ⟨fun t13_3 w4 =>
  BinK Try.prog Go.BinOp.eql 3 x1 x2 (@hid _ ⟨fun t16_5 w6 =>
  BrK t16_5 (@hid _ ⟨
   R x0 w6⟩) (@hid _ ⟨
   BuiltinK Try.prog Go.Builtin.len #[22] 3 #[false] #[x0] (@hid _ ⟨fun t19_7 w8 =>
   DrawK (@hid _ ⟨fun S9 w10 =>
   TakeS Try.prog S9 (Instr.sliceAt 22 x0 none (some x1) none) (@hid _ ⟨fun t22_11 =>
   TakeS Try.prog S9 (Instr.sliceAt 22 x0 (some x2) none none) (@hid _ ⟨fun t25_12 =>
   (BuiltinK Try.prog Go.Builtin.append #[22, 22] 22 #[false, false] #[t22_11, t25_12] (@hid _ ⟨fun t26_13 w14 =>
   S9 w14 ∧
   BuiltinK Try.prog Go.Builtin.len #[22] 3 #[false] #[t26_13] (@hid _ ⟨fun t29_15 w16 =>
   SliceK Try.prog 22 t26_13 (some t29_15) (some t19_7) none (@hid _ ⟨fun t31_17 w18 =>
   BuiltinK Try.prog Go.Builtin.clear #[22] 0 #[false] #[t31_17] (@hid _ ⟨fun tu_19 w20 =>
   R t26_13 w20⟩) w18⟩) w16⟩) w14⟩) w10) ∧
   True⟩)⟩)⟩) w8⟩) w6⟩)⟩) w4⟩) w2⟩) w0
def a18 : Ann := (.seq .no (.seq .no (.seq (.seq .no (.cond (.seq .no .no) .no)) (.seq .no (.seq (.plan (.take 0 (.take 1 (.take 2 (.take 3 (.take 4 (.take 5 (.alt 6 (.take 7 .done) .nil)))))))) (.seq .no (.seq .no .no)))))))
theorem F18_eq (x0 x1 x2 : Value) (R : Value → World → Prop) (w0 : World) : F18 x0 x1 x2 R w0 = vc Try.prog (bodyOf Try.f18) a18 (retQ Try.prog Try.f18 R) (envOf 0 [x0, x1, x2]) w0 := by kernel_rfl
theorem F18_calls (x0 x1 x2 : Value) (R : Value → World → Prop) (w0 : World) (h : F18 x0 x1 x2 R w0) : CallK Try.prog 18 #[x0, x1, x2] R w0 :=
  calls_vc (c := bodyOf Try.f18) Try.func18 (by kernel_rfl) (by kernel_rfl) a18 (by kernel_rfl) (by kernel_rfl) [x0, x1, x2] (by rw [Try.ntmps18]; exact Nat.le_of_ble_eq_true rfl) w0 R ((F18_eq x0 x1 x2 R w0).mp h)

/-- slices.Clip[[]string,string], its body as a formula. -/
def F19 (x0 : Value) (R : Value → World → Prop) (w0 : World) : Prop :=
  BuiltinK Try.prog Go.Builtin.len #[22] 3 #[false] #[x0] (@hid _ ⟨fun t5_1 w2 =>
  BuiltinK Try.prog Go.Builtin.len #[22] 3 #[false] #[x0] (@hid _ ⟨fun t7_3 w4 =>
  SliceK Try.prog 22 x0 none (some t5_1) (some t7_3) (@hid _ ⟨fun t8_5 w6 =>
  R t8_5 w6⟩) w4⟩) w2⟩) w0
def a19 : Ann := (.seq .no (.seq .no .no))
theorem F19_eq (x0 : Value) (R : Value → World → Prop) (w0 : World) : F19 x0 R w0 = vc Try.prog (bodyOf Try.f19) a19 (retQ Try.prog Try.f19 R) (envOf 0 [x0]) w0 := by kernel_rfl
theorem F19_calls (x0 : Value) (R : Value → World → Prop) (w0 : World) (h : F19 x0 R w0) : CallK Try.prog 19 #[x0] R w0 :=
  calls_vc (c := bodyOf Try.f19) Try.func19 (by kernel_rfl) (by kernel_rfl) a19 (by kernel_rfl) (by kernel_rfl) [x0] (by rw [Try.ntmps19]; exact Nat.le_of_ble_eq_true rfl) w0 R ((F19_eq x0 R w0).mp h)

/-- slices.Clip[[]int64,int64], its body as a formula. -/
def F20 (x0 : Value) (R : Value → World → Prop) (w0 : World) : Prop :=
  BuiltinK Try.prog Go.Builtin.len #[23] 3 #[false] #[x0] (@hid _ ⟨fun t5_1 w2 =>
  BuiltinK Try.prog Go.Builtin.len #[23] 3 #[false] #[x0] (@hid _ ⟨fun t7_3 w4 =>
  SliceK Try.prog 23 x0 none (some t5_1) (some t7_3) (@hid _ ⟨fun t8_5 w6 =>
  R t8_5 w6⟩) w4⟩) w2⟩) w0
def a20 : Ann := (.seq .no (.seq .no .no))
theorem F20_eq (x0 : Value) (R : Value → World → Prop) (w0 : World) : F20 x0 R w0 = vc Try.prog (bodyOf Try.f20) a20 (retQ Try.prog Try.f20 R) (envOf 0 [x0]) w0 := by kernel_rfl
theorem F20_calls (x0 : Value) (R : Value → World → Prop) (w0 : World) (h : F20 x0 R w0) : CallK Try.prog 20 #[x0] R w0 :=
  calls_vc (c := bodyOf Try.f20) Try.func20 (by kernel_rfl) (by kernel_rfl) a20 (by kernel_rfl) (by kernel_rfl) [x0] (by rw [Try.ntmps20]; exact Nat.le_of_ble_eq_true rfl) w0 R ((F20_eq x0 R w0).mp h)

end Go.Proofs.Ytijoamldocjfhaa