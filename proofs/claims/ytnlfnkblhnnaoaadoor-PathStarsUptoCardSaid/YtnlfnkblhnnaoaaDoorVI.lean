import Derived.Test.YtnlfnkblhnnaoaaDoorRows
import Derived.Test.YtnlfnkblhnnaoaaDoorV3
set_option linter.unusedVariables false
set_option linter.unusedSimpArgs false
set_option maxRecDepth 100000
namespace Go.Proofs.YtnlfnkblhnnaoaaDoor
open Go.RowKit Go.Cn
theorem klen9 (s : ByteArray) (K : Value → World → Prop) (w : World) : BuiltinK Tryd.prog .len #[9] 3 #[false] #[(.string s)] K w = K (.int .i64 (s.size : Int)) w := by
  unfold BuiltinK; (first | (go_simp; rfl) | (go_simp; done))

theorem hlen9 (s : ByteArray) {K : Value → Prop} {w1 : World} : TakeO Tryd.prog (fun w' => w' = w1) (builtin .len #[9] 3 #[false] #[(.string s)]) K = K (.int .i64 (s.size : Int)) := by
  exact here_o (fun w => by (first | (go_simp; rfl) | (go_simp; done)))

theorem kbgtr3 (x y : Int) (K : Value → World → Prop) (w : World) : BinK Tryd.prog .gtr 3 (.int .i64 x) (.int .i64 y) K w = K (.bool (decide (y < x))) w := by
  unfold BinK; (first | (go_simp; rfl) | (go_simp; done))

theorem kbneq3 (x y : Int) (K : Value → World → Prop) (w : World) : BinK Tryd.prog .neq 3 (.int .i64 x) (.int .i64 y) K w = K (.bool (x != y)) w := by
  unfold BinK; (first | (go_simp; rfl) | (go_simp; done))

theorem kbneq9 (x y : ByteArray) (K : Value → World → Prop) (w : World) : BinK Tryd.prog .neq 9 (.string x) (.string y) K w = K (.bool (!(x.toList == y.toList))) w := by
  unfold BinK; (first | (go_simp; rfl) | (go_simp; done))

theorem kbeql9 (x y : ByteArray) (K : Value → World → Prop) (w : World) : BinK Tryd.prog .eql 9 (.string x) (.string y) K w = K (.bool (x.toList == y.toList)) w := by
  unfold BinK; (first | (go_simp; rfl) | (go_simp; done))

theorem kbeql4 (x y : Bool) (K : Value → World → Prop) (w : World) : BinK Tryd.prog .eql 4 (.bool x) (.bool y) K w = K (.bool (x == y)) w := by
  cases x <;> cases y <;> (unfold BinK; (first | (go_simp; rfl) | (go_simp; done)))

theorem klen23 (A : Option Addr) (n c : Nat) (K : Value → World → Prop) (w : World) : BuiltinK Tryd.prog .len #[23] 3 #[false] #[(.slice A n c)] K w = K (.int .i64 (n : Int)) w := by
  unfold BuiltinK; (first | (go_simp; rfl) | (go_simp; done))

theorem hlen23 (A : Option Addr) (n c : Nat) {K : Value → Prop} {w1 : World} : TakeO Tryd.prog (fun w' => w' = w1) (builtin .len #[23] 3 #[false] #[(.slice A n c)]) K = K (.int .i64 (n : Int)) := by
  exact here_o (fun w => by (first | (go_simp; rfl) | (go_simp; done)))

theorem kblss3 (x y : Int) (K : Value → World → Prop) (w : World) : BinK Tryd.prog .lss 3 (.int .i64 x) (.int .i64 y) K w = K (.bool (decide (x < y))) w := by
  unfold BinK; (first | (go_simp; rfl) | (go_simp; done))

theorem kia23 (g o n c : Nat) (i : Int) (h : 0 ≤ i ∧ i < (n : Int)) (K : Value → World → Prop) (w : World) : IndexAtK Tryd.prog 23 (.slice (some ⟨g, o, none⟩) n c) (.int .i64 i) K w = K (.pointer (some ⟨g, o + i.toNat, none⟩)) w := by
  obtain ⟨h0, h1⟩ := h
  unfold IndexAtK; (first | (go_simp; rfl) | (go_simp; done))

theorem kld9 (a : Addr) (K : Value → World → Prop) (w : World) : LoadK Tryd.prog 9 (.pointer (some a)) K w = OptK (w.cell? a) (@hid _ ⟨fun v => K v w⟩) (LoadRaw Tryd.prog 9 a K w) := by
  exact loadK_eq Tryd.underlying9 rfl a K w

theorem kbsub3 (x y : Int) (K : Value → World → Prop) (w : World) : BinK Tryd.prog .sub 3 (.int .i64 x) (.int .i64 y) K w = K (.int .i64 (IntKind.i64.wrap (x - y))) w := by
  unfold BinK; (first | (go_simp; rfl) | (go_simp; done))

theorem kbadd3 (x y : Int) (K : Value → World → Prop) (w : World) : BinK Tryd.prog .add 3 (.int .i64 x) (.int .i64 y) K w = K (.int .i64 (IntKind.i64.wrap (x + y))) w := by
  unfold BinK; (first | (go_simp; rfl) | (go_simp; done))

theorem kbeql3 (x y : Int) (K : Value → World → Prop) (w : World) : BinK Tryd.prog .eql 3 (.int .i64 x) (.int .i64 y) K w = K (.bool (x == y)) w := by
  unfold BinK; (first | (go_simp; rfl) | (go_simp; done))

theorem kbs23_1_0 (v0 : ByteArray) (K : Value → World → Prop) (w : World) : BuildSliceK Tryd.prog 23 1 #[(0, (.string v0))] K w = K (.slice (some ⟨w.heap.size, 0, none⟩) 1 1) (w.alloc (.cells #[(.string v0)] 9)) := by
  unfold BuildSliceK; (first | (go_simp; rfl) | (go_simp; done))

theorem kbneq4 (x y : Bool) (K : Value → World → Prop) (w : World) : BinK Tryd.prog .neq 4 (.bool x) (.bool y) K w = K (.bool (x != y)) w := by
  cases x <;> cases y <;> (unfold BinK; (first | (go_simp; rfl) | (go_simp; done)))

theorem kbs23_0  (K : Value → World → Prop) (w : World) : BuildSliceK Tryd.prog 23 0 #[] K w = K (.slice (some ⟨w.heap.size, 0, none⟩) 0 0) (w.alloc (.cells #[] 9)) := by
  unfold BuildSliceK; (first | (go_simp; rfl) | (go_simp; done))

theorem kcv5_3 (x : Int) (K : Value → World → Prop) (w : World) : ConvK Tryd.prog 5 3 (.int .u8 x) K w = K (.int .i64 (IntKind.i64.wrap x)) w := by
  unfold ConvK; (first | (go_simp; rfl) | (go_simp; done))

theorem kbrem3 (x y : Int) (h : 0 ≤ x ∧ 1 ≤ y ∧ x ≤ 9223372036854775807) (K : Value → World → Prop) (w : World) : BinK Tryd.prog .rem 3 (.int .i64 x) (.int .i64 y) K w = K (.int .i64 (x % y)) w := by
  obtain ⟨h0, h1, h2⟩ := h
  have h3 : ¬ y = 0 := by omega
  have h4 : x.tmod y = x % y := Int.tmod_eq_emod_of_nonneg h0
  have h5 : x.tdiv y = x / y := Int.tdiv_eq_ediv_of_nonneg h0
  have h6 : 0 ≤ x / y := Int.ediv_nonneg h0 (by omega)
  have h7 : x / y ≤ x := Int.ediv_le_self y h0
  unfold BinK; (first | (go_simp; rw [wrap_in (by omega)]; exact Iff.rfl) | (go_simp; rfl) | (go_simp; done))

theorem kst9 (g o : Nat) (v : ByteArray) (K : Value → World → Prop) (w : World) : StoreK Tryd.prog 9 (.pointer (some ⟨g, o, none⟩)) (.string v) K w = OptK (w.cell? ⟨g, o, none⟩) (@hid _ ⟨fun _ => FzK (w.frozen? ⟨g, o, none⟩) (@hid _ ⟨K undef (w.setCell ⟨g, o, none⟩ (.string v))⟩) (StoreRaw Tryd.prog 9 ⟨g, o, none⟩ (.string v) K w)⟩) (StoreRaw Tryd.prog 9 ⟨g, o, none⟩ (.string v) K w) := by
  cases h0 : w.cell? ⟨g, o, none⟩ with
  | none => rfl
  | some x =>
  cases f0 : w.frozen? ⟨g, o, none⟩ with
  | true => rfl
  | false =>
  simp only [optK_some, fzK_false]
  unfold StoreK; (first | (go_simp; rfl) | (go_simp; done))

theorem kbneq24 (x y : Int) (K : Value → World → Prop) (w : World) : BinK Tryd.prog .neq 24 (.int .i64 x) (.int .i64 y) K w = K (.bool (x != y)) w := by
  unfold BinK; (first | (go_simp; rfl) | (go_simp; done))

theorem kbgeq3 (x y : Int) (K : Value → World → Prop) (w : World) : BinK Tryd.prog .geq 3 (.int .i64 x) (.int .i64 y) K w = K (.bool (decide (y ≤ x))) w := by
  unfold BinK; (first | (go_simp; rfl) | (go_simp; done))

theorem ksl23_010z (K : Value → World → Prop) (w : World) : SliceK Tryd.prog 23 (.slice none 0 0) none (some (.int .i64 0)) none K w = K (.slice none 0 0) w := by
  unfold SliceK; (first | (go_simp; rfl) | (go_simp; done) | (go_simp; split <;> simp_all))

theorem ksl23_010 (g o n c : Nat) (h : Int) (hb : 0 ≤ h ∧ h ≤ (c : Int)) (K : Value → World → Prop) (w : World) : SliceK Tryd.prog 23 (.slice (some ⟨g, o, none⟩) n c) none (some (.int .i64 h)) none K w = K (.slice (some ⟨g, o, none⟩) h.toNat c) w := by
  obtain ⟨q0, q1⟩ := hb
  unfold SliceK; (first | (go_simp; rfl) | (go_simp; done) | (go_simp; split <;> simp_all))

theorem kbeql24 (x y : Int) (K : Value → World → Prop) (w : World) : BinK Tryd.prog .eql 24 (.int .i64 x) (.int .i64 y) K w = K (.bool (x == y)) w := by
  unfold BinK; (first | (go_simp; rfl) | (go_simp; done))

theorem kblss5 (x y : Int) (K : Value → World → Prop) (w : World) : BinK Tryd.prog .lss 5 (.int .u8 x) (.int .u8 y) K w = K (.bool (decide (x < y))) w := by
  unfold BinK; (first | (go_simp; rfl) | (go_simp; done))

theorem kbgtr5 (x y : Int) (K : Value → World → Prop) (w : World) : BinK Tryd.prog .gtr 5 (.int .u8 x) (.int .u8 y) K w = K (.bool (decide (y < x))) w := by
  unfold BinK; (first | (go_simp; rfl) | (go_simp; done))

theorem kbneq5 (x y : Int) (K : Value → World → Prop) (w : World) : BinK Tryd.prog .neq 5 (.int .u8 x) (.int .u8 y) K w = K (.bool (x != y)) w := by
  unfold BinK; (first | (go_simp; rfl) | (go_simp; done))

theorem kbeql5 (x y : Int) (K : Value → World → Prop) (w : World) : BinK Tryd.prog .eql 5 (.int .u8 x) (.int .u8 y) K w = K (.bool (x == y)) w := by
  unfold BinK; (first | (go_simp; rfl) | (go_simp; done))

theorem ksl23_011 (g o n c : Nat) (h m : Int) (hb : 0 ≤ h ∧ h ≤ m ∧ m ≤ (c : Int)) (K : Value → World → Prop) (w : World) : SliceK Tryd.prog 23 (.slice (some ⟨g, o, none⟩) n c) none (some (.int .i64 h)) (some (.int .i64 m)) K w = K (.slice (some ⟨g, o, none⟩) h.toNat m.toNat) w := by
  obtain ⟨q0, q1, q2⟩ := hb
  unfold SliceK; (first | (go_simp; rfl) | (go_simp; done) | (go_simp; split <;> simp_all))

theorem ksl23_011z (K : Value → World → Prop) (w : World) : SliceK Tryd.prog 23 (.slice none 0 0) none (some (.int .i64 0)) (some (.int .i64 0)) K w = K (.slice none 0 0) w := by
  unfold SliceK; (first | (go_simp; rfl) | (go_simp; done) | (go_simp; split <;> simp_all))

theorem kbquo3 (x y : Int) (h : 0 ≤ x ∧ 1 ≤ y ∧ x ≤ 9223372036854775807) (K : Value → World → Prop) (w : World) : BinK Tryd.prog .quo 3 (.int .i64 x) (.int .i64 y) K w = K (.int .i64 (x / y)) w := by
  obtain ⟨h0, h1, h2⟩ := h
  have h3 : ¬ y = 0 := by omega
  have h4 : x.tmod y = x % y := Int.tmod_eq_emod_of_nonneg h0
  have h5 : x.tdiv y = x / y := Int.tdiv_eq_ediv_of_nonneg h0
  have h6 : 0 ≤ x / y := Int.ediv_nonneg h0 (by omega)
  have h7 : x / y ≤ x := Int.ediv_le_self y h0
  unfold BinK; (first | (go_simp; rw [wrap_in (by omega)]; exact Iff.rfl) | (go_simp; rfl) | (go_simp; done))

theorem kbmul3 (x y : Int) (K : Value → World → Prop) (w : World) : BinK Tryd.prog .mul 3 (.int .i64 x) (.int .i64 y) K w = K (.int .i64 (IntKind.i64.wrap (x * y))) w := by
  unfold BinK; (first | (go_simp; rfl) | (go_simp; done))

theorem kal58 (K : Value → World → Prop) (w : World) : AllocK Tryd.prog 58 K w = K (.pointer (some ⟨w.heap.size, 0, none⟩)) (w.alloc (.cells #[.pointer none, .slice none 0 0] 58)) := by
  unfold AllocK; (first | (go_simp; rfl) | (go_simp; done))

theorem ksl23_100z (K : Value → World → Prop) (w : World) : SliceK Tryd.prog 23 (.slice none 0 0) (some (.int .i64 0)) none none K w = K (.slice none 0 0) w := by
  unfold SliceK; (first | (go_simp; rfl) | (go_simp; done) | (go_simp; split <;> simp_all))

theorem ksl23_100 (g o n c : Nat) (l : Int) (hb : 0 ≤ l ∧ l ≤ (n : Int)) (K : Value → World → Prop) (w : World) : SliceK Tryd.prog 23 (.slice (some ⟨g, o, none⟩) n c) (some (.int .i64 l)) none none K w = K (.slice (if c = l.toNat then some ⟨g, o, none⟩ else some ⟨g, o + l.toNat, none⟩) (n - l.toNat) (c - l.toNat)) w := by
  obtain ⟨q0, q1⟩ := hb
  unfold SliceK; (first | (go_simp; rfl) | (go_simp; done) | (go_simp; split <;> simp_all))

theorem kmin3_ff (x y : Int) (K : Value → World → Prop) (w : World) : BuiltinK Tryd.prog .min #[3, 3] 3 #[false, false] #[.int .i64 x, .int .i64 y] K w = K (.int .i64 (if y < x then y else x)) w := by
  unfold BuiltinK; by_cases h : x < y <;> by_cases h2 : y < x <;> (first | (exfalso; omega) | (simp only [h, h2, if_true, if_false]; go_simp; rfl) | (go_simp; done) | (go_simp; omega))

theorem kfa58_1 (g o : Nat) (K : Value → World → Prop) (w : World) : FieldAtK Tryd.prog 58 (.pointer (some ⟨g, o, none⟩)) 1 K w = K (.pointer (some ⟨g, o + 1, none⟩)) w := by
  unfold FieldAtK; (first | (go_simp; rfl) | (go_simp; done))

theorem kld56 (a : Addr) (K : Value → World → Prop) (w : World) : LoadK Tryd.prog 56 (.pointer (some a)) K w = OptK (w.cell? a) (@hid _ ⟨fun v => K v w⟩) (LoadRaw Tryd.prog 56 a K w) := by
  exact loadK_eq Tryd.underlying56 rfl a K w

theorem kst56 (g o : Nat) (vA : Option Addr) (vn vc : Nat) (K : Value → World → Prop) (w : World) : StoreK Tryd.prog 56 (.pointer (some ⟨g, o, none⟩)) (.slice vA vn vc) K w = OptK (w.cell? ⟨g, o, none⟩) (@hid _ ⟨fun _ => FzK (w.frozen? ⟨g, o, none⟩) (@hid _ ⟨K undef (w.setCell ⟨g, o, none⟩ (.slice vA vn vc))⟩) (StoreRaw Tryd.prog 56 ⟨g, o, none⟩ (.slice vA vn vc) K w)⟩) (StoreRaw Tryd.prog 56 ⟨g, o, none⟩ (.slice vA vn vc) K w) := by
  cases h0 : w.cell? ⟨g, o, none⟩ with
  | none => rfl
  | some x =>
  cases f0 : w.frozen? ⟨g, o, none⟩ with
  | true => rfl
  | false =>
  simp only [optK_some, fzK_false]
  unfold StoreK; (first | (go_simp; rfl) | (go_simp; done))

theorem ck3 {args : Array Value} {K : Value → World → Prop} {w : World} (h : CallK Tryd.prog 3 args K w) : CallV Tryd.prog (.func (.func 3) #[] #[]) args K w := callV_func Tryd.func3 (by kernel_rfl) (by kernel_rfl) h
theorem ck4 {args : Array Value} {K : Value → World → Prop} {w : World} (h : CallK Tryd.prog 4 args K w) : CallV Tryd.prog (.func (.func 4) #[] #[]) args K w := callV_func Tryd.func4 (by kernel_rfl) (by kernel_rfl) h
theorem ck5 {args : Array Value} {K : Value → World → Prop} {w : World} (h : CallK Tryd.prog 5 args K w) : CallV Tryd.prog (.func (.func 5) #[] #[]) args K w := callV_func Tryd.func5 (by kernel_rfl) (by kernel_rfl) h
theorem ck6 {args : Array Value} {K : Value → World → Prop} {w : World} (h : CallK Tryd.prog 6 args K w) : CallV Tryd.prog (.func (.func 6) #[] #[]) args K w := callV_func Tryd.func6 (by kernel_rfl) (by kernel_rfl) h
theorem ck7 {args : Array Value} {K : Value → World → Prop} {w : World} (h : CallK Tryd.prog 7 args K w) : CallV Tryd.prog (.func (.func 7) #[] #[]) args K w := callV_func Tryd.func7 (by kernel_rfl) (by kernel_rfl) h
theorem ck8 {args : Array Value} {K : Value → World → Prop} {w : World} (h : CallK Tryd.prog 8 args K w) : CallV Tryd.prog (.func (.func 8) #[] #[]) args K w := callV_func Tryd.func8 (by kernel_rfl) (by kernel_rfl) h
theorem ck9 {args : Array Value} {K : Value → World → Prop} {w : World} (h : CallK Tryd.prog 9 args K w) : CallV Tryd.prog (.func (.func 9) #[] #[]) args K w := callV_func Tryd.func9 (by kernel_rfl) (by kernel_rfl) h
theorem ck10 {args : Array Value} {K : Value → World → Prop} {w : World} (h : CallK Tryd.prog 10 args K w) : CallV Tryd.prog (.func (.func 10) #[] #[]) args K w := callV_func Tryd.func10 (by kernel_rfl) (by kernel_rfl) h
theorem ck11 {args : Array Value} {K : Value → World → Prop} {w : World} (h : CallK Tryd.prog 11 args K w) : CallV Tryd.prog (.func (.func 11) #[] #[]) args K w := callV_func Tryd.func11 (by kernel_rfl) (by kernel_rfl) h
theorem ck12 {args : Array Value} {K : Value → World → Prop} {w : World} (h : CallK Tryd.prog 12 args K w) : CallV Tryd.prog (.func (.func 12) #[] #[]) args K w := callV_func Tryd.func12 (by kernel_rfl) (by kernel_rfl) h
theorem ck13 {args : Array Value} {K : Value → World → Prop} {w : World} (h : CallK Tryd.prog 13 args K w) : CallV Tryd.prog (.func (.func 13) #[] #[]) args K w := callV_func Tryd.func13 (by kernel_rfl) (by kernel_rfl) h
theorem ck14 {args : Array Value} {K : Value → World → Prop} {w : World} (h : CallK Tryd.prog 14 args K w) : CallV Tryd.prog (.func (.func 14) #[] #[]) args K w := callV_func Tryd.func14 (by kernel_rfl) (by kernel_rfl) h
theorem ck15 {args : Array Value} {K : Value → World → Prop} {w : World} (h : CallK Tryd.prog 15 args K w) : CallV Tryd.prog (.func (.func 15) #[] #[]) args K w := callV_func Tryd.func15 (by kernel_rfl) (by kernel_rfl) h
theorem ck16 {args : Array Value} {K : Value → World → Prop} {w : World} (h : CallK Tryd.prog 16 args K w) : CallV Tryd.prog (.func (.func 16) #[] #[]) args K w := callV_func Tryd.func16 (by kernel_rfl) (by kernel_rfl) h
theorem ck17 {args : Array Value} {K : Value → World → Prop} {w : World} (h : CallK Tryd.prog 17 args K w) : CallV Tryd.prog (.func (.func 17) #[] #[]) args K w := callV_func Tryd.func17 (by kernel_rfl) (by kernel_rfl) h
theorem ck18 {args : Array Value} {K : Value → World → Prop} {w : World} (h : CallK Tryd.prog 18 args K w) : CallV Tryd.prog (.func (.func 18) #[] #[]) args K w := callV_func Tryd.func18 (by kernel_rfl) (by kernel_rfl) h
theorem ck19 {args : Array Value} {K : Value → World → Prop} {w : World} (h : CallK Tryd.prog 19 args K w) : CallV Tryd.prog (.func (.func 19) #[] #[]) args K w := callV_func Tryd.func19 (by kernel_rfl) (by kernel_rfl) h
theorem ck20 {args : Array Value} {K : Value → World → Prop} {w : World} (h : CallK Tryd.prog 20 args K w) : CallV Tryd.prog (.func (.func 20) #[] #[]) args K w := callV_func Tryd.func20 (by kernel_rfl) (by kernel_rfl) h
theorem ck21 {args : Array Value} {K : Value → World → Prop} {w : World} (h : CallK Tryd.prog 21 args K w) : CallV Tryd.prog (.func (.func 21) #[] #[]) args K w := callV_func Tryd.func21 (by kernel_rfl) (by kernel_rfl) h
theorem ck22 {args : Array Value} {K : Value → World → Prop} {w : World} (h : CallK Tryd.prog 22 args K w) : CallV Tryd.prog (.func (.func 22) #[] #[]) args K w := callV_func Tryd.func22 (by kernel_rfl) (by kernel_rfl) h
theorem ck23 {args : Array Value} {K : Value → World → Prop} {w : World} (h : CallK Tryd.prog 23 args K w) : CallV Tryd.prog (.func (.func 23) #[] #[]) args K w := callV_func Tryd.func23 (by kernel_rfl) (by kernel_rfl) h
theorem ck24 {args : Array Value} {K : Value → World → Prop} {w : World} (h : CallK Tryd.prog 24 args K w) : CallV Tryd.prog (.func (.func 24) #[] #[]) args K w := callV_func Tryd.func24 (by kernel_rfl) (by kernel_rfl) h
theorem ck25 {args : Array Value} {K : Value → World → Prop} {w : World} (h : CallK Tryd.prog 25 args K w) : CallV Tryd.prog (.func (.func 25) #[] #[]) args K w := callV_func Tryd.func25 (by kernel_rfl) (by kernel_rfl) h
theorem ck26 {args : Array Value} {K : Value → World → Prop} {w : World} (h : CallK Tryd.prog 26 args K w) : CallV Tryd.prog (.func (.func 26) #[] #[]) args K w := callV_func Tryd.func26 (by kernel_rfl) (by kernel_rfl) h
theorem ck27 {args : Array Value} {K : Value → World → Prop} {w : World} (h : CallK Tryd.prog 27 args K w) : CallV Tryd.prog (.func (.func 27) #[] #[]) args K w := callV_func Tryd.func27 (by kernel_rfl) (by kernel_rfl) h
theorem ck28 {args : Array Value} {K : Value → World → Prop} {w : World} (h : CallK Tryd.prog 28 args K w) : CallV Tryd.prog (.func (.func 28) #[] #[]) args K w := callV_func Tryd.func28 (by kernel_rfl) (by kernel_rfl) h
theorem ck29 {args : Array Value} {K : Value → World → Prop} {w : World} (h : CallK Tryd.prog 29 args K w) : CallV Tryd.prog (.func (.func 29) #[] #[]) args K w := callV_func Tryd.func29 (by kernel_rfl) (by kernel_rfl) h
theorem ck30 {args : Array Value} {K : Value → World → Prop} {w : World} (h : CallK Tryd.prog 30 args K w) : CallV Tryd.prog (.func (.func 30) #[] #[]) args K w := callV_func Tryd.func30 (by kernel_rfl) (by kernel_rfl) h
theorem ck31 {args : Array Value} {K : Value → World → Prop} {w : World} (h : CallK Tryd.prog 31 args K w) : CallV Tryd.prog (.func (.func 31) #[] #[]) args K w := callV_func Tryd.func31 (by kernel_rfl) (by kernel_rfl) h
theorem ck32 {args : Array Value} {K : Value → World → Prop} {w : World} (h : CallK Tryd.prog 32 args K w) : CallV Tryd.prog (.func (.func 32) #[] #[]) args K w := callV_func Tryd.func32 (by kernel_rfl) (by kernel_rfl) h
theorem ck33 {args : Array Value} {K : Value → World → Prop} {w : World} (h : CallK Tryd.prog 33 args K w) : CallV Tryd.prog (.func (.func 33) #[] #[]) args K w := callV_func Tryd.func33 (by kernel_rfl) (by kernel_rfl) h
theorem ck34 {args : Array Value} {K : Value → World → Prop} {w : World} (h : CallK Tryd.prog 34 args K w) : CallV Tryd.prog (.func (.func 34) #[] #[]) args K w := callV_func Tryd.func34 (by kernel_rfl) (by kernel_rfl) h
theorem ck35 {args : Array Value} {K : Value → World → Prop} {w : World} (h : CallK Tryd.prog 35 args K w) : CallV Tryd.prog (.func (.func 35) #[] #[]) args K w := callV_func Tryd.func35 (by kernel_rfl) (by kernel_rfl) h
theorem ck36 {args : Array Value} {K : Value → World → Prop} {w : World} (h : CallK Tryd.prog 36 args K w) : CallV Tryd.prog (.func (.func 36) #[] #[]) args K w := callV_func Tryd.func36 (by kernel_rfl) (by kernel_rfl) h
theorem ck37 {args : Array Value} {K : Value → World → Prop} {w : World} (h : CallK Tryd.prog 37 args K w) : CallV Tryd.prog (.func (.func 37) #[] #[]) args K w := callV_func Tryd.func37 (by kernel_rfl) (by kernel_rfl) h
theorem ck38 {args : Array Value} {K : Value → World → Prop} {w : World} (h : CallK Tryd.prog 38 args K w) : CallV Tryd.prog (.func (.func 38) #[] #[]) args K w := callV_func Tryd.func38 (by kernel_rfl) (by kernel_rfl) h
theorem ck39 {args : Array Value} {K : Value → World → Prop} {w : World} (h : CallK Tryd.prog 39 args K w) : CallV Tryd.prog (.func (.func 39) #[] #[]) args K w := callV_func Tryd.func39 (by kernel_rfl) (by kernel_rfl) h
theorem ck40 {args : Array Value} {K : Value → World → Prop} {w : World} (h : CallK Tryd.prog 40 args K w) : CallV Tryd.prog (.func (.func 40) #[] #[]) args K w := callV_func Tryd.func40 (by kernel_rfl) (by kernel_rfl) h
theorem ck41 {args : Array Value} {K : Value → World → Prop} {w : World} (h : CallK Tryd.prog 41 args K w) : CallV Tryd.prog (.func (.func 41) #[] #[]) args K w := callV_func Tryd.func41 (by kernel_rfl) (by kernel_rfl) h
theorem ck42 {args : Array Value} {K : Value → World → Prop} {w : World} (h : CallK Tryd.prog 42 args K w) : CallV Tryd.prog (.func (.func 42) #[] #[]) args K w := callV_func Tryd.func42 (by kernel_rfl) (by kernel_rfl) h
theorem ck43 {args : Array Value} {K : Value → World → Prop} {w : World} (h : CallK Tryd.prog 43 args K w) : CallV Tryd.prog (.func (.func 43) #[] #[]) args K w := callV_func Tryd.func43 (by kernel_rfl) (by kernel_rfl) h
theorem ck45 {args : Array Value} {K : Value → World → Prop} {w : World} (h : CallK Tryd.prog 45 args K w) : CallV Tryd.prog (.func (.func 45) #[] #[]) args K w := callV_func Tryd.func45 (by kernel_rfl) (by kernel_rfl) h
theorem ck47 {args : Array Value} {K : Value → World → Prop} {w : World} (h : CallK Tryd.prog 47 args K w) : CallV Tryd.prog (.func (.func 47) #[] #[]) args K w := callV_func Tryd.func47 (by kernel_rfl) (by kernel_rfl) h
theorem ck49 {args : Array Value} {K : Value → World → Prop} {w : World} (h : CallK Tryd.prog 49 args K w) : CallV Tryd.prog (.func (.func 49) #[] #[]) args K w := callV_func Tryd.func49 (by kernel_rfl) (by kernel_rfl) h
theorem ck50 {args : Array Value} {K : Value → World → Prop} {w : World} (h : CallK Tryd.prog 50 args K w) : CallV Tryd.prog (.func (.func 50) #[] #[]) args K w := callV_func Tryd.func50 (by kernel_rfl) (by kernel_rfl) h
theorem ck54 {args : Array Value} {K : Value → World → Prop} {w : World} (h : CallK Tryd.prog 54 args K w) : CallV Tryd.prog (.func (.func 54) #[] #[]) args K w := callV_func Tryd.func54 (by kernel_rfl) (by kernel_rfl) h
theorem cv3 {args : Array Value} {K : Value → World → Prop} {w : World} {v : Value} {R : World → Prop} (h : Calls Tryd.prog 3 args w fun e w' => e = .returned v ∧ R w') (hk : ∀ w', R w' → K v w') : CallV Tryd.prog (.func (.func 3) #[] #[]) args K w := callV_of Tryd.func3 (by kernel_rfl) (by kernel_rfl) h hk
theorem cv4 {args : Array Value} {K : Value → World → Prop} {w : World} {v : Value} {R : World → Prop} (h : Calls Tryd.prog 4 args w fun e w' => e = .returned v ∧ R w') (hk : ∀ w', R w' → K v w') : CallV Tryd.prog (.func (.func 4) #[] #[]) args K w := callV_of Tryd.func4 (by kernel_rfl) (by kernel_rfl) h hk
theorem cv5 {args : Array Value} {K : Value → World → Prop} {w : World} {v : Value} {R : World → Prop} (h : Calls Tryd.prog 5 args w fun e w' => e = .returned v ∧ R w') (hk : ∀ w', R w' → K v w') : CallV Tryd.prog (.func (.func 5) #[] #[]) args K w := callV_of Tryd.func5 (by kernel_rfl) (by kernel_rfl) h hk
theorem cv6 {args : Array Value} {K : Value → World → Prop} {w : World} {v : Value} {R : World → Prop} (h : Calls Tryd.prog 6 args w fun e w' => e = .returned v ∧ R w') (hk : ∀ w', R w' → K v w') : CallV Tryd.prog (.func (.func 6) #[] #[]) args K w := callV_of Tryd.func6 (by kernel_rfl) (by kernel_rfl) h hk
theorem cv7 {args : Array Value} {K : Value → World → Prop} {w : World} {v : Value} {R : World → Prop} (h : Calls Tryd.prog 7 args w fun e w' => e = .returned v ∧ R w') (hk : ∀ w', R w' → K v w') : CallV Tryd.prog (.func (.func 7) #[] #[]) args K w := callV_of Tryd.func7 (by kernel_rfl) (by kernel_rfl) h hk
theorem cv8 {args : Array Value} {K : Value → World → Prop} {w : World} {v : Value} {R : World → Prop} (h : Calls Tryd.prog 8 args w fun e w' => e = .returned v ∧ R w') (hk : ∀ w', R w' → K v w') : CallV Tryd.prog (.func (.func 8) #[] #[]) args K w := callV_of Tryd.func8 (by kernel_rfl) (by kernel_rfl) h hk
theorem cv9 {args : Array Value} {K : Value → World → Prop} {w : World} {v : Value} {R : World → Prop} (h : Calls Tryd.prog 9 args w fun e w' => e = .returned v ∧ R w') (hk : ∀ w', R w' → K v w') : CallV Tryd.prog (.func (.func 9) #[] #[]) args K w := callV_of Tryd.func9 (by kernel_rfl) (by kernel_rfl) h hk
theorem cv10 {args : Array Value} {K : Value → World → Prop} {w : World} {v : Value} {R : World → Prop} (h : Calls Tryd.prog 10 args w fun e w' => e = .returned v ∧ R w') (hk : ∀ w', R w' → K v w') : CallV Tryd.prog (.func (.func 10) #[] #[]) args K w := callV_of Tryd.func10 (by kernel_rfl) (by kernel_rfl) h hk
theorem cv11 {args : Array Value} {K : Value → World → Prop} {w : World} {v : Value} {R : World → Prop} (h : Calls Tryd.prog 11 args w fun e w' => e = .returned v ∧ R w') (hk : ∀ w', R w' → K v w') : CallV Tryd.prog (.func (.func 11) #[] #[]) args K w := callV_of Tryd.func11 (by kernel_rfl) (by kernel_rfl) h hk
theorem cv12 {args : Array Value} {K : Value → World → Prop} {w : World} {v : Value} {R : World → Prop} (h : Calls Tryd.prog 12 args w fun e w' => e = .returned v ∧ R w') (hk : ∀ w', R w' → K v w') : CallV Tryd.prog (.func (.func 12) #[] #[]) args K w := callV_of Tryd.func12 (by kernel_rfl) (by kernel_rfl) h hk
theorem cv13 {args : Array Value} {K : Value → World → Prop} {w : World} {v : Value} {R : World → Prop} (h : Calls Tryd.prog 13 args w fun e w' => e = .returned v ∧ R w') (hk : ∀ w', R w' → K v w') : CallV Tryd.prog (.func (.func 13) #[] #[]) args K w := callV_of Tryd.func13 (by kernel_rfl) (by kernel_rfl) h hk
theorem cv14 {args : Array Value} {K : Value → World → Prop} {w : World} {v : Value} {R : World → Prop} (h : Calls Tryd.prog 14 args w fun e w' => e = .returned v ∧ R w') (hk : ∀ w', R w' → K v w') : CallV Tryd.prog (.func (.func 14) #[] #[]) args K w := callV_of Tryd.func14 (by kernel_rfl) (by kernel_rfl) h hk
theorem cv15 {args : Array Value} {K : Value → World → Prop} {w : World} {v : Value} {R : World → Prop} (h : Calls Tryd.prog 15 args w fun e w' => e = .returned v ∧ R w') (hk : ∀ w', R w' → K v w') : CallV Tryd.prog (.func (.func 15) #[] #[]) args K w := callV_of Tryd.func15 (by kernel_rfl) (by kernel_rfl) h hk
theorem cv16 {args : Array Value} {K : Value → World → Prop} {w : World} {v : Value} {R : World → Prop} (h : Calls Tryd.prog 16 args w fun e w' => e = .returned v ∧ R w') (hk : ∀ w', R w' → K v w') : CallV Tryd.prog (.func (.func 16) #[] #[]) args K w := callV_of Tryd.func16 (by kernel_rfl) (by kernel_rfl) h hk
theorem cv17 {args : Array Value} {K : Value → World → Prop} {w : World} {v : Value} {R : World → Prop} (h : Calls Tryd.prog 17 args w fun e w' => e = .returned v ∧ R w') (hk : ∀ w', R w' → K v w') : CallV Tryd.prog (.func (.func 17) #[] #[]) args K w := callV_of Tryd.func17 (by kernel_rfl) (by kernel_rfl) h hk
theorem cv18 {args : Array Value} {K : Value → World → Prop} {w : World} {v : Value} {R : World → Prop} (h : Calls Tryd.prog 18 args w fun e w' => e = .returned v ∧ R w') (hk : ∀ w', R w' → K v w') : CallV Tryd.prog (.func (.func 18) #[] #[]) args K w := callV_of Tryd.func18 (by kernel_rfl) (by kernel_rfl) h hk
theorem cv19 {args : Array Value} {K : Value → World → Prop} {w : World} {v : Value} {R : World → Prop} (h : Calls Tryd.prog 19 args w fun e w' => e = .returned v ∧ R w') (hk : ∀ w', R w' → K v w') : CallV Tryd.prog (.func (.func 19) #[] #[]) args K w := callV_of Tryd.func19 (by kernel_rfl) (by kernel_rfl) h hk
theorem cv20 {args : Array Value} {K : Value → World → Prop} {w : World} {v : Value} {R : World → Prop} (h : Calls Tryd.prog 20 args w fun e w' => e = .returned v ∧ R w') (hk : ∀ w', R w' → K v w') : CallV Tryd.prog (.func (.func 20) #[] #[]) args K w := callV_of Tryd.func20 (by kernel_rfl) (by kernel_rfl) h hk
theorem cv21 {args : Array Value} {K : Value → World → Prop} {w : World} {v : Value} {R : World → Prop} (h : Calls Tryd.prog 21 args w fun e w' => e = .returned v ∧ R w') (hk : ∀ w', R w' → K v w') : CallV Tryd.prog (.func (.func 21) #[] #[]) args K w := callV_of Tryd.func21 (by kernel_rfl) (by kernel_rfl) h hk
theorem cv22 {args : Array Value} {K : Value → World → Prop} {w : World} {v : Value} {R : World → Prop} (h : Calls Tryd.prog 22 args w fun e w' => e = .returned v ∧ R w') (hk : ∀ w', R w' → K v w') : CallV Tryd.prog (.func (.func 22) #[] #[]) args K w := callV_of Tryd.func22 (by kernel_rfl) (by kernel_rfl) h hk
theorem cv23 {args : Array Value} {K : Value → World → Prop} {w : World} {v : Value} {R : World → Prop} (h : Calls Tryd.prog 23 args w fun e w' => e = .returned v ∧ R w') (hk : ∀ w', R w' → K v w') : CallV Tryd.prog (.func (.func 23) #[] #[]) args K w := callV_of Tryd.func23 (by kernel_rfl) (by kernel_rfl) h hk
theorem cv24 {args : Array Value} {K : Value → World → Prop} {w : World} {v : Value} {R : World → Prop} (h : Calls Tryd.prog 24 args w fun e w' => e = .returned v ∧ R w') (hk : ∀ w', R w' → K v w') : CallV Tryd.prog (.func (.func 24) #[] #[]) args K w := callV_of Tryd.func24 (by kernel_rfl) (by kernel_rfl) h hk
theorem cv25 {args : Array Value} {K : Value → World → Prop} {w : World} {v : Value} {R : World → Prop} (h : Calls Tryd.prog 25 args w fun e w' => e = .returned v ∧ R w') (hk : ∀ w', R w' → K v w') : CallV Tryd.prog (.func (.func 25) #[] #[]) args K w := callV_of Tryd.func25 (by kernel_rfl) (by kernel_rfl) h hk
theorem cv26 {args : Array Value} {K : Value → World → Prop} {w : World} {v : Value} {R : World → Prop} (h : Calls Tryd.prog 26 args w fun e w' => e = .returned v ∧ R w') (hk : ∀ w', R w' → K v w') : CallV Tryd.prog (.func (.func 26) #[] #[]) args K w := callV_of Tryd.func26 (by kernel_rfl) (by kernel_rfl) h hk
theorem cv27 {args : Array Value} {K : Value → World → Prop} {w : World} {v : Value} {R : World → Prop} (h : Calls Tryd.prog 27 args w fun e w' => e = .returned v ∧ R w') (hk : ∀ w', R w' → K v w') : CallV Tryd.prog (.func (.func 27) #[] #[]) args K w := callV_of Tryd.func27 (by kernel_rfl) (by kernel_rfl) h hk
theorem cv28 {args : Array Value} {K : Value → World → Prop} {w : World} {v : Value} {R : World → Prop} (h : Calls Tryd.prog 28 args w fun e w' => e = .returned v ∧ R w') (hk : ∀ w', R w' → K v w') : CallV Tryd.prog (.func (.func 28) #[] #[]) args K w := callV_of Tryd.func28 (by kernel_rfl) (by kernel_rfl) h hk
theorem cv29 {args : Array Value} {K : Value → World → Prop} {w : World} {v : Value} {R : World → Prop} (h : Calls Tryd.prog 29 args w fun e w' => e = .returned v ∧ R w') (hk : ∀ w', R w' → K v w') : CallV Tryd.prog (.func (.func 29) #[] #[]) args K w := callV_of Tryd.func29 (by kernel_rfl) (by kernel_rfl) h hk
theorem cv30 {args : Array Value} {K : Value → World → Prop} {w : World} {v : Value} {R : World → Prop} (h : Calls Tryd.prog 30 args w fun e w' => e = .returned v ∧ R w') (hk : ∀ w', R w' → K v w') : CallV Tryd.prog (.func (.func 30) #[] #[]) args K w := callV_of Tryd.func30 (by kernel_rfl) (by kernel_rfl) h hk
theorem cv31 {args : Array Value} {K : Value → World → Prop} {w : World} {v : Value} {R : World → Prop} (h : Calls Tryd.prog 31 args w fun e w' => e = .returned v ∧ R w') (hk : ∀ w', R w' → K v w') : CallV Tryd.prog (.func (.func 31) #[] #[]) args K w := callV_of Tryd.func31 (by kernel_rfl) (by kernel_rfl) h hk
theorem cv32 {args : Array Value} {K : Value → World → Prop} {w : World} {v : Value} {R : World → Prop} (h : Calls Tryd.prog 32 args w fun e w' => e = .returned v ∧ R w') (hk : ∀ w', R w' → K v w') : CallV Tryd.prog (.func (.func 32) #[] #[]) args K w := callV_of Tryd.func32 (by kernel_rfl) (by kernel_rfl) h hk
theorem cv33 {args : Array Value} {K : Value → World → Prop} {w : World} {v : Value} {R : World → Prop} (h : Calls Tryd.prog 33 args w fun e w' => e = .returned v ∧ R w') (hk : ∀ w', R w' → K v w') : CallV Tryd.prog (.func (.func 33) #[] #[]) args K w := callV_of Tryd.func33 (by kernel_rfl) (by kernel_rfl) h hk
theorem cv34 {args : Array Value} {K : Value → World → Prop} {w : World} {v : Value} {R : World → Prop} (h : Calls Tryd.prog 34 args w fun e w' => e = .returned v ∧ R w') (hk : ∀ w', R w' → K v w') : CallV Tryd.prog (.func (.func 34) #[] #[]) args K w := callV_of Tryd.func34 (by kernel_rfl) (by kernel_rfl) h hk
theorem cv35 {args : Array Value} {K : Value → World → Prop} {w : World} {v : Value} {R : World → Prop} (h : Calls Tryd.prog 35 args w fun e w' => e = .returned v ∧ R w') (hk : ∀ w', R w' → K v w') : CallV Tryd.prog (.func (.func 35) #[] #[]) args K w := callV_of Tryd.func35 (by kernel_rfl) (by kernel_rfl) h hk
theorem cv36 {args : Array Value} {K : Value → World → Prop} {w : World} {v : Value} {R : World → Prop} (h : Calls Tryd.prog 36 args w fun e w' => e = .returned v ∧ R w') (hk : ∀ w', R w' → K v w') : CallV Tryd.prog (.func (.func 36) #[] #[]) args K w := callV_of Tryd.func36 (by kernel_rfl) (by kernel_rfl) h hk
theorem cv37 {args : Array Value} {K : Value → World → Prop} {w : World} {v : Value} {R : World → Prop} (h : Calls Tryd.prog 37 args w fun e w' => e = .returned v ∧ R w') (hk : ∀ w', R w' → K v w') : CallV Tryd.prog (.func (.func 37) #[] #[]) args K w := callV_of Tryd.func37 (by kernel_rfl) (by kernel_rfl) h hk
theorem cv38 {args : Array Value} {K : Value → World → Prop} {w : World} {v : Value} {R : World → Prop} (h : Calls Tryd.prog 38 args w fun e w' => e = .returned v ∧ R w') (hk : ∀ w', R w' → K v w') : CallV Tryd.prog (.func (.func 38) #[] #[]) args K w := callV_of Tryd.func38 (by kernel_rfl) (by kernel_rfl) h hk
theorem cv39 {args : Array Value} {K : Value → World → Prop} {w : World} {v : Value} {R : World → Prop} (h : Calls Tryd.prog 39 args w fun e w' => e = .returned v ∧ R w') (hk : ∀ w', R w' → K v w') : CallV Tryd.prog (.func (.func 39) #[] #[]) args K w := callV_of Tryd.func39 (by kernel_rfl) (by kernel_rfl) h hk
theorem cv40 {args : Array Value} {K : Value → World → Prop} {w : World} {v : Value} {R : World → Prop} (h : Calls Tryd.prog 40 args w fun e w' => e = .returned v ∧ R w') (hk : ∀ w', R w' → K v w') : CallV Tryd.prog (.func (.func 40) #[] #[]) args K w := callV_of Tryd.func40 (by kernel_rfl) (by kernel_rfl) h hk
theorem cv41 {args : Array Value} {K : Value → World → Prop} {w : World} {v : Value} {R : World → Prop} (h : Calls Tryd.prog 41 args w fun e w' => e = .returned v ∧ R w') (hk : ∀ w', R w' → K v w') : CallV Tryd.prog (.func (.func 41) #[] #[]) args K w := callV_of Tryd.func41 (by kernel_rfl) (by kernel_rfl) h hk
theorem cv42 {args : Array Value} {K : Value → World → Prop} {w : World} {v : Value} {R : World → Prop} (h : Calls Tryd.prog 42 args w fun e w' => e = .returned v ∧ R w') (hk : ∀ w', R w' → K v w') : CallV Tryd.prog (.func (.func 42) #[] #[]) args K w := callV_of Tryd.func42 (by kernel_rfl) (by kernel_rfl) h hk
theorem cv43 {args : Array Value} {K : Value → World → Prop} {w : World} {v : Value} {R : World → Prop} (h : Calls Tryd.prog 43 args w fun e w' => e = .returned v ∧ R w') (hk : ∀ w', R w' → K v w') : CallV Tryd.prog (.func (.func 43) #[] #[]) args K w := callV_of Tryd.func43 (by kernel_rfl) (by kernel_rfl) h hk
theorem cv45 {args : Array Value} {K : Value → World → Prop} {w : World} {v : Value} {R : World → Prop} (h : Calls Tryd.prog 45 args w fun e w' => e = .returned v ∧ R w') (hk : ∀ w', R w' → K v w') : CallV Tryd.prog (.func (.func 45) #[] #[]) args K w := callV_of Tryd.func45 (by kernel_rfl) (by kernel_rfl) h hk
theorem cv47 {args : Array Value} {K : Value → World → Prop} {w : World} {v : Value} {R : World → Prop} (h : Calls Tryd.prog 47 args w fun e w' => e = .returned v ∧ R w') (hk : ∀ w', R w' → K v w') : CallV Tryd.prog (.func (.func 47) #[] #[]) args K w := callV_of Tryd.func47 (by kernel_rfl) (by kernel_rfl) h hk
theorem cv49 {args : Array Value} {K : Value → World → Prop} {w : World} {v : Value} {R : World → Prop} (h : Calls Tryd.prog 49 args w fun e w' => e = .returned v ∧ R w') (hk : ∀ w', R w' → K v w') : CallV Tryd.prog (.func (.func 49) #[] #[]) args K w := callV_of Tryd.func49 (by kernel_rfl) (by kernel_rfl) h hk
theorem cv50 {args : Array Value} {K : Value → World → Prop} {w : World} {v : Value} {R : World → Prop} (h : Calls Tryd.prog 50 args w fun e w' => e = .returned v ∧ R w') (hk : ∀ w', R w' → K v w') : CallV Tryd.prog (.func (.func 50) #[] #[]) args K w := callV_of Tryd.func50 (by kernel_rfl) (by kernel_rfl) h hk
theorem cv54 {args : Array Value} {K : Value → World → Prop} {w : World} {v : Value} {R : World → Prop} (h : Calls Tryd.prog 54 args w fun e w' => e = .returned v ∧ R w') (hk : ∀ w', R w' → K v w') : CallV Tryd.prog (.func (.func 54) #[] #[]) args K w := callV_of Tryd.func54 (by kernel_rfl) (by kernel_rfl) h hk

/-- canton/cantonlaw6.PathAny, its body as a formula. -/
def F3 (x0 x1 : Value) (R : Value → World → Prop) (w0 : World) : Prop :=
  CallV Tryd.prog (.func (.func 8) #[] #[]) #[] (@hid _ ⟨fun t13_1 w2 =>
  UnK Tryd.prog Go.UnOp.not t13_1 (@hid _ ⟨fun t14_3 w4 =>
  BrK t14_3 (@hid _ ⟨
   R (Go.Value.bool false) w4⟩) (@hid _ ⟨
   BuiltinK Tryd.prog Go.Builtin.len #[9] 3 #[false] #[x0] (@hid _ ⟨fun t16_5 w6 =>
   BinK Tryd.prog Go.BinOp.gtr 3 t16_5 (Go.Value.int Go.IntKind.i64 100) (@hid _ ⟨fun t17_7 w8 =>
   GuardK t17_7 false (fun k w => k x1 w) (@hid _ ⟨fun t19_9 w10 =>
   GuardK t17_7 false (fun k w => BuiltinK Tryd.prog Go.Builtin.len #[9] 3 #[false] #[t19_9] k w) (@hid _ ⟨fun t20_11 w12 =>
   GuardK t17_7 false (fun k w => BinK Tryd.prog Go.BinOp.gtr 3 t20_11 (Go.Value.int Go.IntKind.i64 100) k w) (@hid _ ⟨fun t21_13 w14 =>
   PickK Tryd.prog t17_7 (Go.Value.bool true) t21_13 (@hid _ ⟨fun t22_15 w16 =>
   BrK t22_15 (@hid _ ⟨
    R (Go.Value.bool true) w16⟩) (@hid _ ⟨
    CallV Tryd.prog (.func (.func 9) #[] #[]) #[x0] (@hid _ ⟨fun t25_17 w18 =>
    ExtractK Tryd.prog t25_17 0 (@hid _ ⟨fun t26_19 w20 =>
    ExtractK Tryd.prog t25_17 1 (@hid _ ⟨fun t27_21 w22 =>
    CallV Tryd.prog (.func (.func 10) #[] #[]) #[x0] (@hid _ ⟨fun t30_23 w24 =>
    ExtractK Tryd.prog t30_23 0 (@hid _ ⟨fun t31_25 w26 =>
    ExtractK Tryd.prog t30_23 1 (@hid _ ⟨fun t32_27 w28 =>
    CallV Tryd.prog (.func (.func 11) #[] #[]) #[x0, x1] (@hid _ ⟨fun t36_29 w30 =>
    ExtractK Tryd.prog t36_29 0 (@hid _ ⟨fun t37_31 w32 =>
    ExtractK Tryd.prog t36_29 1 (@hid _ ⟨fun t38_33 w34 =>
    CallV Tryd.prog (.func (.func 12) #[] #[]) #[x0, x1] (@hid _ ⟨fun t42_35 w36 =>
    ExtractK Tryd.prog t42_35 0 (@hid _ ⟨fun t43_37 w38 =>
    ExtractK Tryd.prog t42_35 1 (@hid _ ⟨fun t44_39 w40 =>
    BinK Tryd.prog Go.BinOp.neq 3 t27_21 t32_27 (@hid _ ⟨fun t47_41 w42 =>
    GuardK t47_41 false (fun k w => k t26_19 w) (@hid _ ⟨fun t49_43 w44 =>
    GuardK t47_41 false (fun k w => k t31_25 w) (@hid _ ⟨fun t50_45 w46 =>
    GuardK t47_41 false (fun k w => CallV Tryd.prog (.func (.func 13) #[] #[]) #[t49_43, t50_45] k w) (@hid _ ⟨fun t51_47 w48 =>
    GuardK t47_41 false (fun k w => UnK Tryd.prog Go.UnOp.not t51_47 k w) (@hid _ ⟨fun t52_49 w50 =>
    PickK Tryd.prog t47_41 (Go.Value.bool true) t52_49 (@hid _ ⟨fun t53_51 w52 =>
    GuardK t53_51 false (fun k w => k t37_31 w) (@hid _ ⟨fun t55_53 w54 =>
    GuardK t53_51 false (fun k w => k t43_37 w) (@hid _ ⟨fun t56_55 w56 =>
    GuardK t53_51 false (fun k w => BinK Tryd.prog Go.BinOp.neq 9 t55_53 t56_55 k w) (@hid _ ⟨fun t57_57 w58 =>
    PickK Tryd.prog t53_51 (Go.Value.bool true) t57_57 (@hid _ ⟨fun t58_59 w60 =>
    GuardK t58_59 false (fun k w => k t38_33 w) (@hid _ ⟨fun t60_61 w62 =>
    GuardK t58_59 false (fun k w => k t44_39 w) (@hid _ ⟨fun t61_63 w64 =>
    GuardK t58_59 false (fun k w => BinK Tryd.prog Go.BinOp.neq 3 t60_61 t61_63 k w) (@hid _ ⟨fun t62_65 w66 =>
    PickK Tryd.prog t58_59 (Go.Value.bool true) t62_65 (@hid _ ⟨fun t63_67 w68 =>
    BrK t63_67 (@hid _ ⟨
     R (Go.Value.bool false) w68⟩) (@hid _ ⟨
     CallV Tryd.prog (.func (.func 14) #[] #[]) #[x0] (@hid _ ⟨fun t65_69 w70 =>
     CallV Tryd.prog (.func (.func 15) #[] #[]) #[x0] (@hid _ ⟨fun t67_71 w72 =>
     BinK Tryd.prog Go.BinOp.neq 3 t65_69 t67_71 (@hid _ ⟨fun t68_73 w74 =>
     GuardK t68_73 false (fun k w => k x0 w) (@hid _ ⟨fun t70_75 w76 =>
     GuardK t68_73 false (fun k w => CallV Tryd.prog (.func (.func 16) #[] #[]) #[t70_75] k w) (@hid _ ⟨fun t71_77 w78 =>
     GuardK t68_73 false (fun k w => k x0 w) (@hid _ ⟨fun t72_79 w80 =>
     GuardK t68_73 false (fun k w => CallV Tryd.prog (.func (.func 17) #[] #[]) #[t72_79] k w) (@hid _ ⟨fun t73_81 w82 =>
     GuardK t68_73 false (fun k w => BinK Tryd.prog Go.BinOp.neq 9 t71_77 t73_81 k w) (@hid _ ⟨fun t74_83 w84 =>
     PickK Tryd.prog t68_73 (Go.Value.bool true) t74_83 (@hid _ ⟨fun t75_85 w86 =>
     GuardK t75_85 false (fun k w => k x0 w) (@hid _ ⟨fun t77_87 w88 =>
     GuardK t75_85 false (fun k w => CallV Tryd.prog (.func (.func 18) #[] #[]) #[t77_87] k w) (@hid _ ⟨fun t78_89 w90 =>
     GuardK t75_85 false (fun k w => k x0 w) (@hid _ ⟨fun t79_91 w92 =>
     GuardK t75_85 false (fun k w => CallV Tryd.prog (.func (.func 19) #[] #[]) #[t79_91] k w) (@hid _ ⟨fun t80_93 w94 =>
     GuardK t75_85 false (fun k w => BinK Tryd.prog Go.BinOp.neq 9 t78_89 t80_93 k w) (@hid _ ⟨fun t81_95 w96 =>
     PickK Tryd.prog t75_85 (Go.Value.bool true) t81_95 (@hid _ ⟨fun t82_97 w98 =>
     GuardK t82_97 false (fun k w => k x0 w) (@hid _ ⟨fun t84_99 w100 =>
     GuardK t82_97 false (fun k w => CallV Tryd.prog (.func (.func 20) #[] #[]) #[t84_99] k w) (@hid _ ⟨fun t85_101 w102 =>
     GuardK t82_97 false (fun k w => k x0 w) (@hid _ ⟨fun t86_103 w104 =>
     GuardK t82_97 false (fun k w => CallV Tryd.prog (.func (.func 21) #[] #[]) #[t86_103] k w) (@hid _ ⟨fun t87_105 w106 =>
     GuardK t82_97 false (fun k w => CallV Tryd.prog (.func (.func 13) #[] #[]) #[t85_101, t87_105] k w) (@hid _ ⟨fun t88_107 w108 =>
     GuardK t82_97 false (fun k w => UnK Tryd.prog Go.UnOp.not t88_107 k w) (@hid _ ⟨fun t89_109 w110 =>
     PickK Tryd.prog t82_97 (Go.Value.bool true) t89_109 (@hid _ ⟨fun t90_111 w112 =>
     BrK t90_111 (@hid _ ⟨
      R (Go.Value.bool false) w112⟩) (@hid _ ⟨
      BinK Tryd.prog Go.BinOp.neq 3 t32_27 (Go.Value.int Go.IntKind.i64 0) (@hid _ ⟨fun t92_113 w114 =>
      GuardK t92_113 false (fun k w => k t26_19 w) (@hid _ ⟨fun t94_115 w116 =>
      GuardK t92_113 false (fun k w => CallV Tryd.prog (.func (.func 22) #[] #[]) #[t94_115] k w) (@hid _ ⟨fun t95_117 w118 =>
      GuardK t92_113 false (fun k w => k x0 w) (@hid _ ⟨fun t96_119 w120 =>
      GuardK t92_113 false (fun k w => BinK Tryd.prog Go.BinOp.eql 9 t95_117 t96_119 k w) (@hid _ ⟨fun t97_121 w122 =>
      PickK Tryd.prog t92_113 (Go.Value.bool true) t97_121 (@hid _ ⟨fun t98_123 w124 =>
      R t98_123 w124⟩) w122⟩) w120⟩) w118⟩) w116⟩) w114⟩) w112⟩)⟩) w110⟩) w108⟩) w106⟩) w104⟩) w102⟩) w100⟩) w98⟩) w96⟩) w94⟩) w92⟩) w90⟩) w88⟩) w86⟩) w84⟩) w82⟩) w80⟩) w78⟩) w76⟩) w74⟩) w72⟩) w70⟩) w68⟩)⟩) w66⟩) w64⟩) w62⟩) w60⟩) w58⟩) w56⟩) w54⟩) w52⟩) w50⟩) w48⟩) w46⟩) w44⟩) w42⟩) w40⟩) w38⟩) w36⟩) w34⟩) w32⟩) w30⟩) w28⟩) w26⟩) w24⟩) w22⟩) w20⟩) w18⟩) w16⟩)⟩) w14⟩) w12⟩) w10⟩) w8⟩) w6⟩) w4⟩)⟩) w2⟩) w0
def a3 : Ann := (.seq .no (.seq (.seq .no (.cond (.seq .no .no) .no)) (.seq (.seq .no (.cond (.seq .no .no) .no)) (.seq .no (.seq .no (.seq .no (.seq .no (.seq (.seq .no (.cond (.seq .no .no) .no)) (.seq (.seq .no (.cond (.seq .no .no) .no)) (.seq .no .no))))))))))
theorem F3_eq (x0 x1 : Value) (R : Value → World → Prop) (w0 : World) : F3 x0 x1 R w0 = vc Tryd.prog (bodyOf Tryd.f3) a3 (retQ Tryd.prog Tryd.f3 R) (envOf 0 [x0, x1]) w0 := by kernel_rfl
theorem F3_calls (x0 x1 : Value) (R : Value → World → Prop) (w0 : World) (h : F3 x0 x1 R w0) : CallK Tryd.prog 3 #[x0, x1] R w0 :=
  calls_vc (c := bodyOf Tryd.f3) Tryd.func3 (by kernel_rfl) (by kernel_rfl) a3 (by kernel_rfl) (by kernel_rfl) [x0, x1] (by rw [Tryd.ntmps3]; exact Nat.le_of_ble_eq_true rfl) w0 R ((F3_eq x0 x1 R w0).mp h)

/-- canton/cantonlaw6.PathTwo, its body as a formula. -/
def F4 (x0 x1 x2 : Value) (R : Value → World → Prop) (w0 : World) : Prop :=
  CallV Tryd.prog (.func (.func 8) #[] #[]) #[] (@hid _ ⟨fun t7_1 w2 =>
  UnK Tryd.prog Go.UnOp.not t7_1 (@hid _ ⟨fun t8_3 w4 =>
  BrK t8_3 (@hid _ ⟨
   R (Go.Value.bool false) w4⟩) (@hid _ ⟨
   BuiltinK Tryd.prog Go.Builtin.len #[9] 3 #[false] #[x0] (@hid _ ⟨fun t10_5 w6 =>
   BinK Tryd.prog Go.BinOp.gtr 3 t10_5 (Go.Value.int Go.IntKind.i64 100) (@hid _ ⟨fun t11_7 w8 =>
   GuardK t11_7 false (fun k w => k x1 w) (@hid _ ⟨fun t13_9 w10 =>
   GuardK t11_7 false (fun k w => BuiltinK Tryd.prog Go.Builtin.len #[9] 3 #[false] #[t13_9] k w) (@hid _ ⟨fun t14_11 w12 =>
   GuardK t11_7 false (fun k w => BinK Tryd.prog Go.BinOp.gtr 3 t14_11 (Go.Value.int Go.IntKind.i64 100) k w) (@hid _ ⟨fun t15_13 w14 =>
   PickK Tryd.prog t11_7 (Go.Value.bool true) t15_13 (@hid _ ⟨fun t16_15 w16 =>
   GuardK t16_15 false (fun k w => k x2 w) (@hid _ ⟨fun t18_17 w18 =>
   GuardK t16_15 false (fun k w => BuiltinK Tryd.prog Go.Builtin.len #[9] 3 #[false] #[t18_17] k w) (@hid _ ⟨fun t19_19 w20 =>
   GuardK t16_15 false (fun k w => BinK Tryd.prog Go.BinOp.gtr 3 t19_19 (Go.Value.int Go.IntKind.i64 100) k w) (@hid _ ⟨fun t20_21 w22 =>
   PickK Tryd.prog t16_15 (Go.Value.bool true) t20_21 (@hid _ ⟨fun t21_23 w24 =>
   BrK t21_23 (@hid _ ⟨
    R (Go.Value.bool true) w24⟩) (@hid _ ⟨
    CallV Tryd.prog (.func (.func 23) #[] #[]) #[x0, x1] (@hid _ ⟨fun t24_25 w26 =>
    CallV Tryd.prog (.func (.func 24) #[] #[]) #[x0, x1] (@hid _ ⟨fun t27_27 w28 =>
    BinK Tryd.prog Go.BinOp.eql 4 t24_25 t27_27 (@hid _ ⟨fun t28_29 w30 =>
    GuardK t28_29 true (fun k w => k x0 w) (@hid _ ⟨fun t30_31 w32 =>
    GuardK t28_29 true (fun k w => k x1 w) (@hid _ ⟨fun t31_33 w34 =>
    GuardK t28_29 true (fun k w => CallV Tryd.prog (.func (.func 25) #[] #[]) #[t30_31, t31_33] k w) (@hid _ ⟨fun t32_35 w36 =>
    GuardK t28_29 true (fun k w => k x0 w) (@hid _ ⟨fun t33_37 w38 =>
    GuardK t28_29 true (fun k w => k x1 w) (@hid _ ⟨fun t34_39 w40 =>
    GuardK t28_29 true (fun k w => CallV Tryd.prog (.func (.func 26) #[] #[]) #[t33_37, t34_39] k w) (@hid _ ⟨fun t35_41 w42 =>
    GuardK t28_29 true (fun k w => BinK Tryd.prog Go.BinOp.eql 9 t32_35 t35_41 k w) (@hid _ ⟨fun t36_43 w44 =>
    PickK Tryd.prog t28_29 t36_43 (Go.Value.bool false) (@hid _ ⟨fun t37_45 w46 =>
    GuardK t37_45 true (fun k w => k x1 w) (@hid _ ⟨fun t39_47 w48 =>
    GuardK t37_45 true (fun k w => k x0 w) (@hid _ ⟨fun t40_49 w50 =>
    GuardK t37_45 true (fun k w => CallV Tryd.prog (.func (.func 25) #[] #[]) #[t39_47, t40_49] k w) (@hid _ ⟨fun t41_51 w52 =>
    GuardK t37_45 true (fun k w => k x0 w) (@hid _ ⟨fun t42_53 w54 =>
    GuardK t37_45 true (fun k w => k x1 w) (@hid _ ⟨fun t43_55 w56 =>
    GuardK t37_45 true (fun k w => CallV Tryd.prog (.func (.func 26) #[] #[]) #[t42_53, t43_55] k w) (@hid _ ⟨fun t44_57 w58 =>
    GuardK t37_45 true (fun k w => BinK Tryd.prog Go.BinOp.eql 9 t41_51 t44_57 k w) (@hid _ ⟨fun t45_59 w60 =>
    PickK Tryd.prog t37_45 t45_59 (Go.Value.bool false) (@hid _ ⟨fun t46_61 w62 =>
    GuardK t46_61 true (fun k w => k x2 w) (@hid _ ⟨fun t48_63 w64 =>
    GuardK t46_61 true (fun k w => k x0 w) (@hid _ ⟨fun t49_65 w66 =>
    GuardK t46_61 true (fun k w => CallV Tryd.prog (.func (.func 27) #[] #[]) #[t48_63, t49_65] k w) (@hid _ ⟨fun t50_67 w68 =>
    GuardK t46_61 true (fun k w => k x2 w) (@hid _ ⟨fun t51_69 w70 =>
    GuardK t46_61 true (fun k w => k x0 w) (@hid _ ⟨fun t52_71 w72 =>
    GuardK t46_61 true (fun k w => CallV Tryd.prog (.func (.func 28) #[] #[]) #[t51_69, t52_71] k w) (@hid _ ⟨fun t53_73 w74 =>
    GuardK t46_61 true (fun k w => BinK Tryd.prog Go.BinOp.eql 4 t50_67 t53_73 k w) (@hid _ ⟨fun t54_75 w76 =>
    PickK Tryd.prog t46_61 t54_75 (Go.Value.bool false) (@hid _ ⟨fun t55_77 w78 =>
    R t55_77 w78⟩) w76⟩) w74⟩) w72⟩) w70⟩) w68⟩) w66⟩) w64⟩) w62⟩) w60⟩) w58⟩) w56⟩) w54⟩) w52⟩) w50⟩) w48⟩) w46⟩) w44⟩) w42⟩) w40⟩) w38⟩) w36⟩) w34⟩) w32⟩) w30⟩) w28⟩) w26⟩) w24⟩)⟩) w22⟩) w20⟩) w18⟩) w16⟩) w14⟩) w12⟩) w10⟩) w8⟩) w6⟩) w4⟩)⟩) w2⟩) w0
def a4 : Ann := (.seq .no (.seq (.seq .no (.cond (.seq .no .no) .no)) (.seq (.seq .no (.cond (.seq .no .no) .no)) (.seq .no .no))))
theorem F4_eq (x0 x1 x2 : Value) (R : Value → World → Prop) (w0 : World) : F4 x0 x1 x2 R w0 = vc Tryd.prog (bodyOf Tryd.f4) a4 (retQ Tryd.prog Tryd.f4 R) (envOf 0 [x0, x1, x2]) w0 := by kernel_rfl
theorem F4_calls (x0 x1 x2 : Value) (R : Value → World → Prop) (w0 : World) (h : F4 x0 x1 x2 R w0) : CallK Tryd.prog 4 #[x0, x1, x2] R w0 :=
  calls_vc (c := bodyOf Tryd.f4) Tryd.func4 (by kernel_rfl) (by kernel_rfl) a4 (by kernel_rfl) (by kernel_rfl) [x0, x1, x2] (by rw [Tryd.ntmps4]; exact Nat.le_of_ble_eq_true rfl) w0 R ((F4_eq x0 x1 x2 R w0).mp h)

/-- canton/cantonlaw6.PathZones, its body as a formula. -/
def F5 (x0 : Value) (R : Value → World → Prop) (w0 : World) : Prop :=
  CallV Tryd.prog (.func (.func 8) #[] #[]) #[] (@hid _ ⟨fun t5_1 w2 =>
  UnK Tryd.prog Go.UnOp.not t5_1 (@hid _ ⟨fun t6_3 w4 =>
  BrK t6_3 (@hid _ ⟨
   R (Go.Value.bool false) w4⟩) (@hid _ ⟨
   BuiltinK Tryd.prog Go.Builtin.len #[9] 3 #[false] #[x0] (@hid _ ⟨fun t8_5 w6 =>
   BinK Tryd.prog Go.BinOp.gtr 3 t8_5 (Go.Value.int Go.IntKind.i64 100) (@hid _ ⟨fun t9_7 w8 =>
   GuardK t9_7 false (fun k w => k x0 w) (@hid _ ⟨fun t11_9 w10 =>
   GuardK t9_7 false (fun k w => CallV Tryd.prog (.func (.func 29) #[] #[]) #[t11_9] k w) (@hid _ ⟨fun t12_11 w12 =>
   GuardK t9_7 false (fun k w => UnK Tryd.prog Go.UnOp.not t12_11 k w) (@hid _ ⟨fun t13_13 w14 =>
   PickK Tryd.prog t9_7 (Go.Value.bool true) t13_13 (@hid _ ⟨fun t14_15 w16 =>
   BrK t14_15 (@hid _ ⟨
    R (Go.Value.bool true) w16⟩) (@hid _ ⟨
    CallV Tryd.prog (.func (.func 20) #[] #[]) #[x0] (@hid _ ⟨fun t16_17 w18 =>
    BuiltinK Tryd.prog Go.Builtin.len #[23] 3 #[false] #[t16_17] (@hid _ ⟨fun t18_19 w20 =>
    CallV Tryd.prog (.func (.func 14) #[] #[]) #[x0] (@hid _ ⟨fun t20_21 w22 =>
    BinK Tryd.prog Go.BinOp.neq 3 t18_19 t20_21 (@hid _ ⟨fun t21_23 w24 =>
    BrK t21_23 (@hid _ ⟨
     R (Go.Value.bool false) w24⟩) (@hid _ ⟨
     LoopK1 (Go.Value.int Go.IntKind.i64 0) w24 (@hid _ ⟨fun _ x4_25 w26 B27 =>
      BuiltinK Tryd.prog Go.Builtin.len #[23] 3 #[false] #[t16_17] (@hid _ ⟨fun t24_28 w29 =>
      BinK Tryd.prog Go.BinOp.lss 3 x4_25 t24_28 (@hid _ ⟨fun t25_30 w31 =>
      BrK t25_30 (@hid _ ⟨
       DrawK (@hid _ ⟨fun S32 w33 =>
       TakeS Tryd.prog S32 (Instr.indexAt 23 t16_17 x4_25) (@hid _ ⟨fun t30_34 =>
       TakeS Tryd.prog S32 (Instr.loadAt 9 t30_34) (@hid _ ⟨fun t31_35 =>
       (CallV Tryd.prog (.func (.func 14) #[] #[]) #[t31_35] (@hid _ ⟨fun t32_36 w37 =>
       S32 w37 ∧
       BinT Tryd.prog S32 Go.BinOp.neq 3 t32_36 x4_25 (@hid _ ⟨fun t34_38 =>
       TakeG t34_38 false (fun k => k x0) (@hid _ ⟨fun t36_39 =>
       TakeG t34_38 false (fun k => k t16_17) (@hid _ ⟨fun t37_40 =>
       TakeG t34_38 false (fun k => k x4_25) (@hid _ ⟨fun t38_41 =>
       TakeG t34_38 false (fun k => TakeS Tryd.prog S32 (Instr.indexAt 23 t37_40 t38_41) k) (@hid _ ⟨fun t39_42 =>
       TakeG t34_38 false (fun k => TakeS Tryd.prog S32 (Instr.loadAt 9 t39_42) k) (@hid _ ⟨fun t40_43 =>
       (GuardK t34_38 false (fun k w => CallV Tryd.prog (.func (.func 23) #[] #[]) #[t36_39, t40_43] k w) (@hid _ ⟨fun t41_44 w45 =>
       S32 w45 ∧
       TakeG t34_38 false (fun k => TakeS Tryd.prog S32 (Op.unary Go.UnOp.not t41_44) k) (@hid _ ⟨fun t42_46 =>
       PickT t34_38 (Go.Value.bool true) t42_46 (@hid _ ⟨fun t43_47 =>
       TakeG t43_47 false (fun k => k x4_25) (@hid _ ⟨fun t45_48 =>
       TakeG t43_47 false (fun k => BinT Tryd.prog S32 Go.BinOp.gtr 3 t45_48 (Go.Value.int Go.IntKind.i64 0) k) (@hid _ ⟨fun t46_49 =>
       TakeG t43_47 false (fun k => k t46_49) (@hid _ ⟨fun t47_50 =>
       TakeG t47_50 true (fun k => k t16_17) (@hid _ ⟨fun t48_51 =>
       TakeG t47_50 true (fun k => k x4_25) (@hid _ ⟨fun t49_52 =>
       TakeG t47_50 true (fun k => TakeS Tryd.prog S32 (Instr.indexAt 23 t48_51 t49_52) k) (@hid _ ⟨fun t50_53 =>
       TakeG t47_50 true (fun k => TakeS Tryd.prog S32 (Instr.loadAt 9 t50_53) k) (@hid _ ⟨fun t51_54 =>
       TakeG t47_50 true (fun k => k t16_17) (@hid _ ⟨fun t53_55 =>
       TakeG t47_50 true (fun k => k x4_25) (@hid _ ⟨fun t54_56 =>
       TakeG t47_50 true (fun k => BinT Tryd.prog S32 Go.BinOp.sub 3 t54_56 (Go.Value.int Go.IntKind.i64 1) k) (@hid _ ⟨fun t55_57 =>
       TakeG t47_50 true (fun k => TakeS Tryd.prog S32 (Instr.indexAt 23 t53_55 t55_57) k) (@hid _ ⟨fun t56_58 =>
       TakeG t47_50 true (fun k => TakeS Tryd.prog S32 (Instr.loadAt 9 t56_58) k) (@hid _ ⟨fun t57_59 =>
       (GuardK t47_50 true (fun k w => CallV Tryd.prog (.func (.func 16) #[] #[]) #[t51_54] k w) (@hid _ ⟨fun t52_60 w61 =>
       S32 w61 ∧
       TakeG t47_50 true (fun k => BinT Tryd.prog S32 Go.BinOp.neq 9 t52_60 t57_59 k) (@hid _ ⟨fun t58_62 =>
       TakeG t43_47 false (fun k => PickT t47_50 t58_62 (Go.Value.bool false) k) (@hid _ ⟨fun t59_63 =>
       PickT t43_47 (Go.Value.bool true) t59_63 (@hid _ ⟨fun t60_64 =>
       TakeG t60_64 false (fun k => k t16_17) (@hid _ ⟨fun t62_65 =>
       TakeG t60_64 false (fun k => k x4_25) (@hid _ ⟨fun t63_66 =>
       TakeG t60_64 false (fun k => TakeS Tryd.prog S32 (Instr.indexAt 23 t62_65 t63_66) k) (@hid _ ⟨fun t64_67 =>
       TakeG t60_64 false (fun k => TakeS Tryd.prog S32 (Instr.loadAt 9 t64_67) k) (@hid _ ⟨fun t65_68 =>
       TakeG t60_64 false (fun k => k x0) (@hid _ ⟨fun t66_69 =>
       (GuardK t60_64 false (fun k w => CallV Tryd.prog (.func (.func 23) #[] #[]) #[t65_68, t66_69] k w) (@hid _ ⟨fun t67_70 w71 =>
       S32 w71 ∧
       PickT t60_64 (Go.Value.bool true) t67_70 (@hid _ ⟨fun t68_72 =>
       BrK t68_72 (@hid _ ⟨
        R (Go.Value.bool false) w71⟩) (@hid _ ⟨
        BinK Tryd.prog Go.BinOp.add 3 x4_25 (Go.Value.int Go.IntKind.i64 1) (@hid _ ⟨fun t27_73 w74 =>
        B27 t27_73 w74⟩) w71⟩)⟩)⟩) w61) ∧
       True⟩)⟩)⟩)⟩)⟩)⟩)⟩)⟩)⟩) w45) ∧
       True⟩)⟩)⟩)⟩)⟩)⟩)⟩)⟩)⟩)⟩)⟩)⟩)⟩)⟩)⟩) w37) ∧
       True⟩)⟩)⟩)⟩)⟩)⟩)⟩) w33) ∧
       True⟩)⟩)⟩) w31⟩) (@hid _ ⟨
       DrawK (@hid _ ⟨fun S75 w76 =>
       TakeO Tryd.prog S75 (builtin Go.Builtin.len #[23] 3 #[false] #[t16_17]) (@hid _ ⟨fun t70_77 =>
       BinT Tryd.prog S75 Go.BinOp.eql 3 t70_77 (Go.Value.int Go.IntKind.i64 0) (@hid _ ⟨fun t71_78 =>
       TakeG t71_78 true (fun k => k x0) (@hid _ ⟨fun t73_79 =>
       TakeG t71_78 true (fun k => BinT Tryd.prog S75 Go.BinOp.eql 9 t73_79 (Go.Value.string { data := #[47] }) k) (@hid _ ⟨fun t74_80 =>
       PickT t71_78 t74_80 (Go.Value.bool false) (@hid _ ⟨fun t75_81 =>
       TakeG t75_81 false (fun k => k t16_17) (@hid _ ⟨fun t77_82 =>
       TakeG t75_81 false (fun k => TakeO Tryd.prog S75 (builtin Go.Builtin.len #[23] 3 #[false] #[t77_82]) k) (@hid _ ⟨fun t78_83 =>
       TakeG t75_81 false (fun k => BinT Tryd.prog S75 Go.BinOp.gtr 3 t78_83 (Go.Value.int Go.IntKind.i64 0) k) (@hid _ ⟨fun t79_84 =>
       TakeG t75_81 false (fun k => k t79_84) (@hid _ ⟨fun t80_85 =>
       TakeG t80_85 true (fun k => k t16_17) (@hid _ ⟨fun t81_86 =>
       TakeG t80_85 true (fun k => k t16_17) (@hid _ ⟨fun t82_87 =>
       TakeG t80_85 true (fun k => TakeO Tryd.prog S75 (builtin Go.Builtin.len #[23] 3 #[false] #[t82_87]) k) (@hid _ ⟨fun t83_88 =>
       TakeG t80_85 true (fun k => BinT Tryd.prog S75 Go.BinOp.sub 3 t83_88 (Go.Value.int Go.IntKind.i64 1) k) (@hid _ ⟨fun t84_89 =>
       TakeG t80_85 true (fun k => TakeS Tryd.prog S75 (Instr.indexAt 23 t81_86 t84_89) k) (@hid _ ⟨fun t85_90 =>
       TakeG t80_85 true (fun k => TakeS Tryd.prog S75 (Instr.loadAt 9 t85_90) k) (@hid _ ⟨fun t86_91 =>
       TakeG t80_85 true (fun k => k x0) (@hid _ ⟨fun t87_92 =>
       (GuardK t80_85 true (fun k w => CallV Tryd.prog (.func (.func 16) #[] #[]) #[t87_92] k w) (@hid _ ⟨fun t88_93 w94 =>
       S75 w94 ∧
       TakeG t80_85 true (fun k => BinT Tryd.prog S75 Go.BinOp.eql 9 t86_91 t88_93 k) (@hid _ ⟨fun t89_95 =>
       TakeG t75_81 false (fun k => PickT t80_85 t89_95 (Go.Value.bool false) k) (@hid _ ⟨fun t90_96 =>
       TakeG t75_81 false (fun k => k t90_96) (@hid _ ⟨fun t91_97 =>
       TakeG t91_97 true (fun k => k t16_17) (@hid _ ⟨fun t92_98 =>
       TakeG t91_97 true (fun k => TakeS Tryd.prog S75 (Instr.indexAt 23 t92_98 (Go.Value.int Go.IntKind.i64 0)) k) (@hid _ ⟨fun t93_99 =>
       TakeG t91_97 true (fun k => TakeS Tryd.prog S75 (Instr.loadAt 9 t93_99) k) (@hid _ ⟨fun t94_100 =>
       TakeG t91_97 true (fun k => BinT Tryd.prog S75 Go.BinOp.eql 9 t94_100 (Go.Value.string { data := #[47] }) k) (@hid _ ⟨fun t95_101 =>
       TakeG t75_81 false (fun k => PickT t91_97 t95_101 (Go.Value.bool false) k) (@hid _ ⟨fun t96_102 =>
       PickT t75_81 (Go.Value.bool true) t96_102 (@hid _ ⟨fun t97_103 =>
       R t97_103 w94⟩)⟩)⟩)⟩)⟩)⟩)⟩)⟩)⟩)⟩) w76) ∧
       True⟩)⟩)⟩)⟩)⟩)⟩)⟩)⟩)⟩)⟩)⟩)⟩)⟩)⟩)⟩)⟩)⟩) w31⟩)⟩) w29⟩) w26⟩)⟩)⟩) w22⟩) w20⟩) w18⟩) w16⟩)⟩) w14⟩) w12⟩) w10⟩) w8⟩) w6⟩) w4⟩)⟩) w2⟩) w0
def a5 : Ann := (.seq .no (.seq (.seq .no (.cond (.seq .no .no) .no)) (.seq (.seq .no (.cond (.seq .no .no) .no)) (.seq .no (.seq (.seq .no (.cond (.seq .no .no) .no)) (.seq (.seq .no (.block (.loop [4] [(2, 2), (22, 68)] (.seq (.seq .no (.cond .no .no)) (.seq (.block (.seq (.plan (.take 0 (.take 1 (.take 2 (.take 3 (.take 5 (.alt 4 (.take 6 (.take 7 (.take 8 (.take 9 (.take 10 (.take 11 (.take 12 (.alt 13 (.take 14 (.take 15 (.take 16 (.take 17 (.take 18 (.take 19 (.take 20 (.take 21 (.take 22 (.take 23 (.take 25 (.take 26 (.take 27 (.take 28 (.take 29 (.alt 24 (.take 30 (.take 31 (.take 32 (.take 33 (.take 34 (.take 35 (.take 36 (.take 37 (.take 38 (.alt 39 (.take 40 .done) .nil)))))))))) .nil)))))))))))))))) .nil)))))))) .nil))))))) (.cond (.seq .no .no) .no))) .no))))) (.seq (.plan (.take 0 (.take 1 (.take 2 (.take 3 (.take 4 (.take 5 (.take 6 (.take 7 (.take 8 (.take 9 (.take 10 (.take 11 (.take 12 (.take 13 (.take 14 (.take 15 (.take 16 (.take 17 (.take 18 (.alt 19 (.take 20 (.take 21 (.take 22 (.take 23 (.take 24 (.take 25 (.take 26 (.take 27 (.take 28 (.take 29 .done)))))))))) .nil))))))))))))))))))))) .no)))))))
theorem F5_eq (x0 : Value) (R : Value → World → Prop) (w0 : World) : F5 x0 R w0 = vc Tryd.prog (bodyOf Tryd.f5) a5 (retQ Tryd.prog Tryd.f5 R) (envOf 0 [x0]) w0 := by kernel_rfl
theorem F5_calls (x0 : Value) (R : Value → World → Prop) (w0 : World) (h : F5 x0 R w0) : CallK Tryd.prog 5 #[x0] R w0 :=
  calls_vc (c := bodyOf Tryd.f5) Tryd.func5 (by kernel_rfl) (by kernel_rfl) a5 (by kernel_rfl) (by kernel_rfl) [x0] (by rw [Tryd.ntmps5]; exact Nat.le_of_ble_eq_true rfl) w0 R ((F5_eq x0 R w0).mp h)

/-- canton/cantonlaw6.PathCommon, its body as a formula. -/
def F6 (x0 x1 : Value) (R : Value → World → Prop) (w0 : World) : Prop :=
  CallV Tryd.prog (.func (.func 8) #[] #[]) #[] (@hid _ ⟨fun t8_1 w2 =>
  UnK Tryd.prog Go.UnOp.not t8_1 (@hid _ ⟨fun t9_3 w4 =>
  BrK t9_3 (@hid _ ⟨
   R (Go.Value.bool false) w4⟩) (@hid _ ⟨
   BuiltinK Tryd.prog Go.Builtin.len #[9] 3 #[false] #[x0] (@hid _ ⟨fun t11_5 w6 =>
   BinK Tryd.prog Go.BinOp.gtr 3 t11_5 (Go.Value.int Go.IntKind.i64 100) (@hid _ ⟨fun t12_7 w8 =>
   GuardK t12_7 false (fun k w => k x1 w) (@hid _ ⟨fun t14_9 w10 =>
   GuardK t12_7 false (fun k w => BuiltinK Tryd.prog Go.Builtin.len #[9] 3 #[false] #[t14_9] k w) (@hid _ ⟨fun t15_11 w12 =>
   GuardK t12_7 false (fun k w => BinK Tryd.prog Go.BinOp.gtr 3 t15_11 (Go.Value.int Go.IntKind.i64 100) k w) (@hid _ ⟨fun t16_13 w14 =>
   PickK Tryd.prog t12_7 (Go.Value.bool true) t16_13 (@hid _ ⟨fun t17_15 w16 =>
   GuardK t17_15 false (fun k w => k x0 w) (@hid _ ⟨fun t19_17 w18 =>
   GuardK t17_15 false (fun k w => CallV Tryd.prog (.func (.func 29) #[] #[]) #[t19_17] k w) (@hid _ ⟨fun t20_19 w20 =>
   GuardK t17_15 false (fun k w => UnK Tryd.prog Go.UnOp.not t20_19 k w) (@hid _ ⟨fun t21_21 w22 =>
   PickK Tryd.prog t17_15 (Go.Value.bool true) t21_21 (@hid _ ⟨fun t22_23 w24 =>
   GuardK t22_23 false (fun k w => k x1 w) (@hid _ ⟨fun t24_25 w26 =>
   GuardK t22_23 false (fun k w => CallV Tryd.prog (.func (.func 29) #[] #[]) #[t24_25] k w) (@hid _ ⟨fun t25_27 w28 =>
   GuardK t22_23 false (fun k w => UnK Tryd.prog Go.UnOp.not t25_27 k w) (@hid _ ⟨fun t26_29 w30 =>
   PickK Tryd.prog t22_23 (Go.Value.bool true) t26_29 (@hid _ ⟨fun t27_31 w32 =>
   BrK t27_31 (@hid _ ⟨
    R (Go.Value.bool true) w32⟩) (@hid _ ⟨
    CallV Tryd.prog (.func (.func 25) #[] #[]) #[x0, x1] (@hid _ ⟨fun t30_33 w34 =>
    CallV Tryd.prog (.func (.func 23) #[] #[]) #[x0, t30_33] (@hid _ ⟨fun t33_35 w36 =>
    UnK Tryd.prog Go.UnOp.not t33_35 (@hid _ ⟨fun t34_37 w38 =>
    GuardK t34_37 false (fun k w => k x1 w) (@hid _ ⟨fun t36_39 w40 =>
    GuardK t34_37 false (fun k w => k t30_33 w) (@hid _ ⟨fun t37_41 w42 =>
    GuardK t34_37 false (fun k w => CallV Tryd.prog (.func (.func 23) #[] #[]) #[t36_39, t37_41] k w) (@hid _ ⟨fun t38_43 w44 =>
    GuardK t34_37 false (fun k w => UnK Tryd.prog Go.UnOp.not t38_43 k w) (@hid _ ⟨fun t39_45 w46 =>
    PickK Tryd.prog t34_37 (Go.Value.bool true) t39_45 (@hid _ ⟨fun t40_47 w48 =>
    GuardK t40_47 false (fun k w => k x0 w) (@hid _ ⟨fun t42_49 w50 =>
    GuardK t40_47 false (fun k w => k x0 w) (@hid _ ⟨fun t43_51 w52 =>
    GuardK t40_47 false (fun k w => CallV Tryd.prog (.func (.func 25) #[] #[]) #[t42_49, t43_51] k w) (@hid _ ⟨fun t44_53 w54 =>
    GuardK t40_47 false (fun k w => k x0 w) (@hid _ ⟨fun t45_55 w56 =>
    GuardK t40_47 false (fun k w => BinK Tryd.prog Go.BinOp.neq 9 t44_53 t45_55 k w) (@hid _ ⟨fun t46_57 w58 =>
    PickK Tryd.prog t40_47 (Go.Value.bool true) t46_57 (@hid _ ⟨fun t47_59 w60 =>
    BrK t47_59 (@hid _ ⟨
     R (Go.Value.bool false) w60⟩) (@hid _ ⟨
     CallV Tryd.prog (.func (.func 20) #[] #[]) #[x0] (@hid _ ⟨fun t49_61 w62 =>
     BuildSliceK Tryd.prog 23 1 #[(0, x0)] (@hid _ ⟨fun t51_63 w64 =>
     BuiltinK Tryd.prog Go.Builtin.append #[23, 23] 23 #[false, false] #[t49_61, t51_63] (@hid _ ⟨fun t52_65 w66 =>
     LoopK1 (Go.Value.int Go.IntKind.i64 0) w66 (@hid _ ⟨fun _ x7_67 w68 B69 =>
      BuiltinK Tryd.prog Go.Builtin.len #[23] 3 #[false] #[t52_65] (@hid _ ⟨fun t55_70 w71 =>
      BinK Tryd.prog Go.BinOp.lss 3 x7_67 t55_70 (@hid _ ⟨fun t56_72 w73 =>
      BrK t56_72 (@hid _ ⟨
       DrawK (@hid _ ⟨fun S74 w75 =>
       TakeS Tryd.prog S74 (Instr.indexAt 23 t52_65 x7_67) (@hid _ ⟨fun t62_76 =>
       TakeS Tryd.prog S74 (Instr.loadAt 9 t62_76) (@hid _ ⟨fun t63_77 =>
       TakeS Tryd.prog S74 (Instr.indexAt 23 t52_65 x7_67) (@hid _ ⟨fun t68_78 =>
       TakeS Tryd.prog S74 (Instr.loadAt 9 t68_78) (@hid _ ⟨fun t69_79 =>
       (CallV Tryd.prog (.func (.func 23) #[] #[]) #[x1, t63_77] (@hid _ ⟨fun t64_80 w81 =>
       S74 w81 ∧
       (CallV Tryd.prog (.func (.func 23) #[] #[]) #[t30_33, t69_79] (@hid _ ⟨fun t70_82 w83 =>
       S74 w83 ∧
       BinT Tryd.prog S74 Go.BinOp.neq 4 t64_80 t70_82 (@hid _ ⟨fun t71_84 =>
       BrK t71_84 (@hid _ ⟨
        R (Go.Value.bool false) w83⟩) (@hid _ ⟨
        BinK Tryd.prog Go.BinOp.add 3 x7_67 (Go.Value.int Go.IntKind.i64 1) (@hid _ ⟨fun t58_85 w86 =>
        B69 t58_85 w86⟩) w83⟩)⟩)⟩) w81) ∧
       True⟩) w75) ∧
       True⟩)⟩)⟩)⟩)⟩) w73⟩) (@hid _ ⟨
       R (Go.Value.bool true) w73⟩)⟩) w71⟩) w68⟩)⟩) w64⟩) w62⟩) w60⟩)⟩) w58⟩) w56⟩) w54⟩) w52⟩) w50⟩) w48⟩) w46⟩) w44⟩) w42⟩) w40⟩) w38⟩) w36⟩) w34⟩) w32⟩)⟩) w30⟩) w28⟩) w26⟩) w24⟩) w22⟩) w20⟩) w18⟩) w16⟩) w14⟩) w12⟩) w10⟩) w8⟩) w6⟩) w4⟩)⟩) w2⟩) w0
def a6 : Ann := (.seq .no (.seq (.seq .no (.cond (.seq .no .no) .no)) (.seq (.seq .no (.cond (.seq .no .no) .no)) (.seq .no (.seq (.seq .no (.cond (.seq .no .no) .no)) (.seq .no (.seq (.seq .no (.block (.loop [7] [(4, 4), (53, 71)] (.seq (.seq .no (.cond .no .no)) (.seq (.block (.seq (.plan (.take 0 (.take 1 (.take 2 (.take 3 (.take 4 (.take 6 (.take 7 (.take 8 (.take 9 (.take 10 (.alt 5 (.alt 11 (.take 12 .done) .nil) .nil)))))))))))) (.cond (.seq .no .no) .no))) .no))))) (.seq .no .no))))))))
theorem F6_eq (x0 x1 : Value) (R : Value → World → Prop) (w0 : World) : F6 x0 x1 R w0 = vc Tryd.prog (bodyOf Tryd.f6) a6 (retQ Tryd.prog Tryd.f6 R) (envOf 0 [x0, x1]) w0 := by kernel_rfl
theorem F6_calls (x0 x1 : Value) (R : Value → World → Prop) (w0 : World) (h : F6 x0 x1 R w0) : CallK Tryd.prog 6 #[x0, x1] R w0 :=
  calls_vc (c := bodyOf Tryd.f6) Tryd.func6 (by kernel_rfl) (by kernel_rfl) a6 (by kernel_rfl) (by kernel_rfl) [x0, x1] (by rw [Tryd.ntmps6]; exact Nat.le_of_ble_eq_true rfl) w0 R ((F6_eq x0 x1 R w0).mp h)

/-- canton/cantonlaw6.PathStars, its body as a formula. -/
def F7 (x0 x1 x2 : Value) (R : Value → World → Prop) (w0 : World) : Prop :=
  CallV Tryd.prog (.func (.func 8) #[] #[]) #[] (@hid _ ⟨fun t13_1 w2 =>
  UnK Tryd.prog Go.UnOp.not t13_1 (@hid _ ⟨fun t14_3 w4 =>
  BrK t14_3 (@hid _ ⟨
   R (Go.Value.bool false) w4⟩) (@hid _ ⟨
   CallV Tryd.prog (.func (.func 10) #[] #[]) #[x0] (@hid _ ⟨fun t17_5 w6 =>
   ExtractK Tryd.prog t17_5 0 (@hid _ ⟨fun t18_7 w8 =>
   ExtractK Tryd.prog t17_5 1 (@hid _ ⟨fun t19_9 w10 =>
   BuiltinK Tryd.prog Go.Builtin.len #[9] 3 #[false] #[x0] (@hid _ ⟨fun t21_11 w12 =>
   BinK Tryd.prog Go.BinOp.gtr 3 t21_11 (Go.Value.int Go.IntKind.i64 100) (@hid _ ⟨fun t22_13 w14 =>
   GuardK t22_13 false (fun k w => k x2 w) (@hid _ ⟨fun t24_15 w16 =>
   GuardK t22_13 false (fun k w => BuiltinK Tryd.prog Go.Builtin.len #[9] 3 #[false] #[t24_15] k w) (@hid _ ⟨fun t25_17 w18 =>
   GuardK t22_13 false (fun k w => BinK Tryd.prog Go.BinOp.gtr 3 t25_17 (Go.Value.int Go.IntKind.i64 100) k w) (@hid _ ⟨fun t26_19 w20 =>
   PickK Tryd.prog t22_13 (Go.Value.bool true) t26_19 (@hid _ ⟨fun t27_21 w22 =>
   GuardK t27_21 false (fun k w => k t19_9 w) (@hid _ ⟨fun t29_23 w24 =>
   GuardK t27_21 false (fun k w => BinK Tryd.prog Go.BinOp.neq 3 t29_23 (Go.Value.int Go.IntKind.i64 0) k w) (@hid _ ⟨fun t30_25 w26 =>
   PickK Tryd.prog t27_21 (Go.Value.bool true) t30_25 (@hid _ ⟨fun t31_27 w28 =>
   BrK t31_27 (@hid _ ⟨
    R (Go.Value.bool true) w28⟩) (@hid _ ⟨
    CallV Tryd.prog (.func (.func 27) #[] #[]) #[x0, x0] (@hid _ ⟨fun t34_29 w30 =>
    UnK Tryd.prog Go.UnOp.not t34_29 (@hid _ ⟨fun t35_31 w32 =>
    GuardK t35_31 false (fun k w => k x0 w) (@hid _ ⟨fun t37_33 w34 =>
    GuardK t35_31 false (fun k w => CallV Tryd.prog (.func (.func 27) #[] #[]) #[(Go.Value.string { data := #[47, 42, 42] }), t37_33] k w) (@hid _ ⟨fun t38_35 w36 =>
    GuardK t35_31 false (fun k w => UnK Tryd.prog Go.UnOp.not t38_35 k w) (@hid _ ⟨fun t39_37 w38 =>
    PickK Tryd.prog t35_31 (Go.Value.bool true) t39_37 (@hid _ ⟨fun t40_39 w40 =>
    BrK t40_39 (@hid _ ⟨
     R (Go.Value.bool false) w40⟩) (@hid _ ⟨
     BuiltinK Tryd.prog Go.Builtin.len #[23] 3 #[false] #[t18_7] (@hid _ ⟨fun t42_41 w42 =>
     BinK Tryd.prog Go.BinOp.eql 3 t42_41 (Go.Value.int Go.IntKind.i64 0) (@hid _ ⟨fun t43_43 w44 =>
     BrK t43_43 (@hid _ ⟨
      R (Go.Value.bool true) w44⟩) (@hid _ ⟨
      BuildSliceK Tryd.prog 23 0 #[] (@hid _ ⟨fun t44_45 w46 =>
      BuiltinK Tryd.prog Go.Builtin.append #[23, 23] 23 #[false, false] #[t44_45, t18_7] (@hid _ ⟨fun t46_47 w48 =>
      ConvK Tryd.prog 5 3 x1 (@hid _ ⟨fun t49_49 w50 =>
      BuiltinK Tryd.prog Go.Builtin.len #[23] 3 #[false] #[t18_7] (@hid _ ⟨fun t51_51 w52 =>
      BinK Tryd.prog Go.BinOp.rem 3 t49_49 t51_51 (@hid _ ⟨fun t52_53 w54 =>
      IndexAtK Tryd.prog 23 t46_47 t52_53 (@hid _ ⟨fun t53_55 w56 =>
      StoreK Tryd.prog 9 t53_55 (Go.Value.string { data := #[42] }) (@hid _ ⟨fun tu_57 w58 =>
      BuildSliceK Tryd.prog 23 0 #[] (@hid _ ⟨fun t54_59 w60 =>
      BuiltinK Tryd.prog Go.Builtin.append #[23, 23] 23 #[false, false] #[t54_59, t18_7] (@hid _ ⟨fun t56_61 w62 =>
      BuildSliceK Tryd.prog 23 1 #[(0, (Go.Value.string { data := #[42, 42] }))] (@hid _ ⟨fun t57_63 w64 =>
      BuiltinK Tryd.prog Go.Builtin.append #[23, 23] 23 #[false, false] #[t56_61, t57_63] (@hid _ ⟨fun t58_65 w66 =>
      CallV Tryd.prog (.func (.func 12) #[] #[]) #[x0, x2] (@hid _ ⟨fun t62_67 w68 =>
      ExtractK Tryd.prog t62_67 0 (@hid _ ⟨fun t63_69 w70 =>
      ExtractK Tryd.prog t62_67 1 (@hid _ ⟨fun t64_71 w72 =>
      CallV Tryd.prog (.func (.func 30) #[] #[]) #[t46_47] (@hid _ ⟨fun t66_73 w74 =>
      CallV Tryd.prog (.func (.func 27) #[] #[]) #[t66_73, x0] (@hid _ ⟨fun t68_75 w76 =>
      GuardK t68_75 true (fun k w => k t58_65 w) (@hid _ ⟨fun t70_77 w78 =>
      GuardK t68_75 true (fun k w => CallV Tryd.prog (.func (.func 30) #[] #[]) #[t70_77] k w) (@hid _ ⟨fun t71_79 w80 =>
      GuardK t68_75 true (fun k w => k x0 w) (@hid _ ⟨fun t72_81 w82 =>
      GuardK t68_75 true (fun k w => CallV Tryd.prog (.func (.func 27) #[] #[]) #[t71_79, t72_81] k w) (@hid _ ⟨fun t73_83 w84 =>
      PickK Tryd.prog t68_75 t73_83 (Go.Value.bool false) (@hid _ ⟨fun t74_85 w86 =>
      GuardK t74_85 true (fun k w => k t64_71 w) (@hid _ ⟨fun t76_87 w88 =>
      GuardK t74_85 true (fun k w => BinK Tryd.prog Go.BinOp.neq 3 t76_87 (Go.Value.int Go.IntKind.i64 0) k w) (@hid _ ⟨fun t77_89 w90 =>
      GuardK t74_85 true (fun k w => k t77_89 w) (@hid _ ⟨fun t78_91 w92 =>
      GuardK t78_91 false (fun k w => k t58_65 w) (@hid _ ⟨fun t79_93 w94 =>
      GuardK t78_91 false (fun k w => CallV Tryd.prog (.func (.func 30) #[] #[]) #[t79_93] k w) (@hid _ ⟨fun t80_95 w96 =>
      GuardK t78_91 false (fun k w => k t63_69 w) (@hid _ ⟨fun t81_97 w98 =>
      GuardK t78_91 false (fun k w => CallV Tryd.prog (.func (.func 27) #[] #[]) #[t80_95, t81_97] k w) (@hid _ ⟨fun t82_99 w100 =>
      GuardK t78_91 false (fun k w => k t82_99 w) (@hid _ ⟨fun t83_101 w102 =>
      GuardK t83_101 true (fun k w => k x0 w) (@hid _ ⟨fun t84_103 w104 =>
      GuardK t83_101 true (fun k w => k t63_69 w) (@hid _ ⟨fun t85_105 w106 =>
      GuardK t83_101 true (fun k w => CallV Tryd.prog (.func (.func 27) #[] #[]) #[t84_103, t85_105] k w) (@hid _ ⟨fun t86_107 w108 =>
      GuardK t83_101 true (fun k w => UnK Tryd.prog Go.UnOp.not t86_107 k w) (@hid _ ⟨fun t87_109 w110 =>
      GuardK t78_91 false (fun k w => PickK Tryd.prog t83_101 t87_109 (Go.Value.bool false) k w) (@hid _ ⟨fun t88_111 w112 =>
      GuardK t78_91 false (fun k w => k t88_111 w) (@hid _ ⟨fun t89_113 w114 =>
      GuardK t89_113 true (fun k w => k t46_47 w) (@hid _ ⟨fun t90_115 w116 =>
      GuardK t89_113 true (fun k w => CallV Tryd.prog (.func (.func 30) #[] #[]) #[t90_115] k w) (@hid _ ⟨fun t91_117 w118 =>
      GuardK t89_113 true (fun k w => k t63_69 w) (@hid _ ⟨fun t92_119 w120 =>
      GuardK t89_113 true (fun k w => CallV Tryd.prog (.func (.func 27) #[] #[]) #[t91_117, t92_119] k w) (@hid _ ⟨fun t93_121 w122 =>
      GuardK t89_113 true (fun k w => UnK Tryd.prog Go.UnOp.not t93_121 k w) (@hid _ ⟨fun t94_123 w124 =>
      GuardK t78_91 false (fun k w => PickK Tryd.prog t89_113 t94_123 (Go.Value.bool false) k w) (@hid _ ⟨fun t95_125 w126 =>
      GuardK t74_85 true (fun k w => PickK Tryd.prog t78_91 (Go.Value.bool true) t95_125 k w) (@hid _ ⟨fun t96_127 w128 =>
      PickK Tryd.prog t74_85 t96_127 (Go.Value.bool false) (@hid _ ⟨fun t97_129 w130 =>
      R t97_129 w130⟩) w128⟩) w126⟩) w124⟩) w122⟩) w120⟩) w118⟩) w116⟩) w114⟩) w112⟩) w110⟩) w108⟩) w106⟩) w104⟩) w102⟩) w100⟩) w98⟩) w96⟩) w94⟩) w92⟩) w90⟩) w88⟩) w86⟩) w84⟩) w82⟩) w80⟩) w78⟩) w76⟩) w74⟩) w72⟩) w70⟩) w68⟩) w66⟩) w64⟩) w62⟩) w60⟩) w58⟩) w56⟩) w54⟩) w52⟩) w50⟩) w48⟩) w46⟩) w44⟩)⟩) w42⟩) w40⟩)⟩) w38⟩) w36⟩) w34⟩) w32⟩) w30⟩) w28⟩)⟩) w26⟩) w24⟩) w22⟩) w20⟩) w18⟩) w16⟩) w14⟩) w12⟩) w10⟩) w8⟩) w6⟩) w4⟩)⟩) w2⟩) w0
def a7 : Ann := (.seq .no (.seq (.seq .no (.cond (.seq .no .no) .no)) (.seq .no (.seq (.seq .no (.cond (.seq .no .no) .no)) (.seq (.seq .no (.cond (.seq .no .no) .no)) (.seq (.seq .no (.cond (.seq .no .no) .no)) (.seq .no (.seq .no (.seq .no (.seq .no (.seq .no .no)))))))))))
theorem F7_eq (x0 x1 x2 : Value) (R : Value → World → Prop) (w0 : World) : F7 x0 x1 x2 R w0 = vc Tryd.prog (bodyOf Tryd.f7) a7 (retQ Tryd.prog Tryd.f7 R) (envOf 0 [x0, x1, x2]) w0 := by kernel_rfl
theorem F7_calls (x0 x1 x2 : Value) (R : Value → World → Prop) (w0 : World) (h : F7 x0 x1 x2 R w0) : CallK Tryd.prog 7 #[x0, x1, x2] R w0 :=
  calls_vc (c := bodyOf Tryd.f7) Tryd.func7 (by kernel_rfl) (by kernel_rfl) a7 (by kernel_rfl) (by kernel_rfl) [x0, x1, x2] (by rw [Tryd.ntmps7]; exact Nat.le_of_ble_eq_true rfl) w0 R ((F7_eq x0 x1 x2 R w0).mp h)

/-- canton/cantonlaw6.known, its body as a formula. -/
def F8 (R : Value → World → Prop) (w0 : World) : Prop :=
  CallV Tryd.prog (.func (.func 9) #[] #[]) #[(Go.Value.string { data := #[47, 97, 47, 98, 49] })] (@hid _ ⟨fun t11_1 w2 =>
  ExtractK Tryd.prog t11_1 0 (@hid _ ⟨fun t12_3 w4 =>
  ExtractK Tryd.prog t11_1 1 (@hid _ ⟨fun t13_5 w6 =>
  CallV Tryd.prog (.func (.func 9) #[] #[]) #[(Go.Value.string { data := #[47, 97, 47, 47, 98] })] (@hid _ ⟨fun t15_7 w8 =>
  ExtractK Tryd.prog t15_7 0 (@hid _ ⟨fun t16_9 w10 =>
  ExtractK Tryd.prog t15_7 1 (@hid _ ⟨fun t17_11 w12 =>
  CallV Tryd.prog (.func (.func 9) #[] #[]) #[(Go.Value.string { data := #[47, 97, 47, 98, 47, 99, 47, 100, 47, 101] })] (@hid _ ⟨fun t19_13 w14 =>
  ExtractK Tryd.prog t19_13 0 (@hid _ ⟨fun t20_15 w16 =>
  ExtractK Tryd.prog t19_13 1 (@hid _ ⟨fun t21_17 w18 =>
  CallV Tryd.prog (.func (.func 11) #[] #[]) #[(Go.Value.string { data := #[47, 97] }), (Go.Value.string { data := #[120] })] (@hid _ ⟨fun t23_19 w20 =>
  ExtractK Tryd.prog t23_19 0 (@hid _ ⟨fun t24_21 w22 =>
  ExtractK Tryd.prog t23_19 1 (@hid _ ⟨fun t25_23 w24 =>
  CallV Tryd.prog (.func (.func 20) #[] #[]) #[(Go.Value.string { data := #[47, 97, 47, 98, 47, 99] })] (@hid _ ⟨fun t26_25 w26 =>
  BinK Tryd.prog Go.BinOp.add 3 t13_5 t25_23 (@hid _ ⟨fun t29_27 w28 =>
  BinK Tryd.prog Go.BinOp.eql 3 t29_27 (Go.Value.int Go.IntKind.i64 0) (@hid _ ⟨fun t30_29 w30 =>
  GuardK t30_29 true (fun k w => k t17_11 w) (@hid _ ⟨fun t32_31 w32 =>
  GuardK t30_29 true (fun k w => BinK Tryd.prog Go.BinOp.eql 3 t32_31 (Go.Value.int Go.IntKind.i64 2) k w) (@hid _ ⟨fun t33_33 w34 =>
  PickK Tryd.prog t30_29 t33_33 (Go.Value.bool false) (@hid _ ⟨fun t34_35 w36 =>
  GuardK t34_35 true (fun k w => k t21_17 w) (@hid _ ⟨fun t36_37 w38 =>
  GuardK t34_35 true (fun k w => BinK Tryd.prog Go.BinOp.eql 3 t36_37 (Go.Value.int Go.IntKind.i64 4) k w) (@hid _ ⟨fun t37_39 w40 =>
  PickK Tryd.prog t34_35 t37_39 (Go.Value.bool false) (@hid _ ⟨fun t38_41 w42 =>
  GuardK t38_41 true (fun k w => k t12_3 w) (@hid _ ⟨fun t40_43 w44 =>
  GuardK t38_41 true (fun k w => BuiltinK Tryd.prog Go.Builtin.len #[23] 3 #[false] #[t40_43] k w) (@hid _ ⟨fun t41_45 w46 =>
  GuardK t38_41 true (fun k w => BinK Tryd.prog Go.BinOp.eql 3 t41_45 (Go.Value.int Go.IntKind.i64 2) k w) (@hid _ ⟨fun t42_47 w48 =>
  PickK Tryd.prog t38_41 t42_47 (Go.Value.bool false) (@hid _ ⟨fun t43_49 w50 =>
  GuardK t43_49 true (fun k w => k t12_3 w) (@hid _ ⟨fun t45_51 w52 =>
  GuardK t43_49 true (fun k w => CallV Tryd.prog (.func (.func 22) #[] #[]) #[t45_51] k w) (@hid _ ⟨fun t46_53 w54 =>
  GuardK t43_49 true (fun k w => BinK Tryd.prog Go.BinOp.eql 9 t46_53 (Go.Value.string { data := #[47, 97, 47, 98, 49] }) k w) (@hid _ ⟨fun t47_55 w56 =>
  PickK Tryd.prog t43_49 t47_55 (Go.Value.bool false) (@hid _ ⟨fun t48_57 w58 =>
  GuardK t48_57 true (fun k w => CallV Tryd.prog (.func (.func 22) #[] #[]) #[(Go.Value.slice none 0 0)] k w) (@hid _ ⟨fun t50_59 w60 =>
  GuardK t48_57 true (fun k w => BinK Tryd.prog Go.BinOp.eql 9 t50_59 (Go.Value.string { data := #[47] }) k w) (@hid _ ⟨fun t51_61 w62 =>
  PickK Tryd.prog t48_57 t51_61 (Go.Value.bool false) (@hid _ ⟨fun t52_63 w64 =>
  GuardK t52_63 true (fun k w => CallV Tryd.prog (.func (.func 14) #[] #[]) #[(Go.Value.string { data := #[47, 97, 47, 98] })] k w) (@hid _ ⟨fun t54_65 w66 =>
  GuardK t52_63 true (fun k w => BinK Tryd.prog Go.BinOp.eql 3 t54_65 (Go.Value.int Go.IntKind.i64 2) k w) (@hid _ ⟨fun t55_67 w68 =>
  PickK Tryd.prog t52_63 t55_67 (Go.Value.bool false) (@hid _ ⟨fun t56_69 w70 =>
  GuardK t56_69 true (fun k w => CallV Tryd.prog (.func (.func 14) #[] #[]) #[(Go.Value.string { data := #[97] })] k w) (@hid _ ⟨fun t58_71 w72 =>
  GuardK t56_69 true (fun k w => BinK Tryd.prog Go.BinOp.eql 3 t58_71 (Go.Value.int Go.IntKind.i64 (-1)) k w) (@hid _ ⟨fun t59_73 w74 =>
  PickK Tryd.prog t56_69 t59_73 (Go.Value.bool false) (@hid _ ⟨fun t60_75 w76 =>
  GuardK t60_75 true (fun k w => CallV Tryd.prog (.func (.func 16) #[] #[]) #[(Go.Value.string { data := #[47, 97, 47, 98] })] k w) (@hid _ ⟨fun t62_77 w78 =>
  GuardK t60_75 true (fun k w => BinK Tryd.prog Go.BinOp.eql 9 t62_77 (Go.Value.string { data := #[47, 97] }) k w) (@hid _ ⟨fun t63_79 w80 =>
  PickK Tryd.prog t60_75 t63_79 (Go.Value.bool false) (@hid _ ⟨fun t64_81 w82 =>
  GuardK t64_81 true (fun k w => CallV Tryd.prog (.func (.func 18) #[] #[]) #[(Go.Value.string { data := #[47, 97, 47, 98] })] k w) (@hid _ ⟨fun t66_83 w84 =>
  GuardK t64_81 true (fun k w => BinK Tryd.prog Go.BinOp.eql 9 t66_83 (Go.Value.string { data := #[98] }) k w) (@hid _ ⟨fun t67_85 w86 =>
  PickK Tryd.prog t64_81 t67_85 (Go.Value.bool false) (@hid _ ⟨fun t68_87 w88 =>
  GuardK t68_87 true (fun k w => k t24_21 w) (@hid _ ⟨fun t70_89 w90 =>
  GuardK t68_87 true (fun k w => BinK Tryd.prog Go.BinOp.eql 9 t70_89 (Go.Value.string { data := #[47, 97, 47, 120] }) k w) (@hid _ ⟨fun t71_91 w92 =>
  PickK Tryd.prog t68_87 t71_91 (Go.Value.bool false) (@hid _ ⟨fun t72_93 w94 =>
  GuardK t72_93 true (fun k w => CallV Tryd.prog (.func (.func 23) #[] #[]) #[(Go.Value.string { data := #[47, 97, 47, 98] }), (Go.Value.string { data := #[47, 97] })] k w) (@hid _ ⟨fun t74_95 w96 =>
  PickK Tryd.prog t72_93 t74_95 (Go.Value.bool false) (@hid _ ⟨fun t75_97 w98 =>
  GuardK t75_97 true (fun k w => CallV Tryd.prog (.func (.func 23) #[] #[]) #[(Go.Value.string { data := #[47, 97, 98] }), (Go.Value.string { data := #[47, 97] })] k w) (@hid _ ⟨fun t77_99 w100 =>
  GuardK t75_97 true (fun k w => UnK Tryd.prog Go.UnOp.not t77_99 k w) (@hid _ ⟨fun t78_101 w102 =>
  PickK Tryd.prog t75_97 t78_101 (Go.Value.bool false) (@hid _ ⟨fun t79_103 w104 =>
  GuardK t79_103 true (fun k w => CallV Tryd.prog (.func (.func 25) #[] #[]) #[(Go.Value.string { data := #[47, 97, 47, 98] }), (Go.Value.string { data := #[47, 97, 47, 99, 47, 100] })] k w) (@hid _ ⟨fun t81_105 w106 =>
  GuardK t79_103 true (fun k w => BinK Tryd.prog Go.BinOp.eql 9 t81_105 (Go.Value.string { data := #[47, 97] }) k w) (@hid _ ⟨fun t82_107 w108 =>
  PickK Tryd.prog t79_103 t82_107 (Go.Value.bool false) (@hid _ ⟨fun t83_109 w110 =>
  GuardK t83_109 true (fun k w => k t26_25 w) (@hid _ ⟨fun t85_111 w112 =>
  GuardK t83_109 true (fun k w => BuiltinK Tryd.prog Go.Builtin.len #[23] 3 #[false] #[t85_111] k w) (@hid _ ⟨fun t86_113 w114 =>
  GuardK t83_109 true (fun k w => BinK Tryd.prog Go.BinOp.eql 3 t86_113 (Go.Value.int Go.IntKind.i64 3) k w) (@hid _ ⟨fun t87_115 w116 =>
  PickK Tryd.prog t83_109 t87_115 (Go.Value.bool false) (@hid _ ⟨fun t88_117 w118 =>
  GuardK t88_117 true (fun k w => k t26_25 w) (@hid _ ⟨fun t90_119 w120 =>
  GuardK t88_117 true (fun k w => IndexAtK Tryd.prog 23 t90_119 (Go.Value.int Go.IntKind.i64 0) k w) (@hid _ ⟨fun t91_121 w122 =>
  GuardK t88_117 true (fun k w => LoadK Tryd.prog 9 t91_121 k w) (@hid _ ⟨fun t92_123 w124 =>
  GuardK t88_117 true (fun k w => BinK Tryd.prog Go.BinOp.eql 9 t92_123 (Go.Value.string { data := #[47] }) k w) (@hid _ ⟨fun t93_125 w126 =>
  PickK Tryd.prog t88_117 t93_125 (Go.Value.bool false) (@hid _ ⟨fun t94_127 w128 =>
  GuardK t94_127 true (fun k w => k t26_25 w) (@hid _ ⟨fun t96_129 w130 =>
  GuardK t94_127 true (fun k w => IndexAtK Tryd.prog 23 t96_129 (Go.Value.int Go.IntKind.i64 2) k w) (@hid _ ⟨fun t97_131 w132 =>
  GuardK t94_127 true (fun k w => LoadK Tryd.prog 9 t97_131 k w) (@hid _ ⟨fun t98_133 w134 =>
  GuardK t94_127 true (fun k w => BinK Tryd.prog Go.BinOp.eql 9 t98_133 (Go.Value.string { data := #[47, 97, 47, 98] }) k w) (@hid _ ⟨fun t99_135 w136 =>
  PickK Tryd.prog t94_127 t99_135 (Go.Value.bool false) (@hid _ ⟨fun t100_137 w138 =>
  GuardK t100_137 true (fun k w => CallV Tryd.prog (.func (.func 27) #[] #[]) #[(Go.Value.string { data := #[47, 97, 47, 42, 42] }), (Go.Value.string { data := #[47, 97] })] k w) (@hid _ ⟨fun t102_139 w140 =>
  PickK Tryd.prog t100_137 t102_139 (Go.Value.bool false) (@hid _ ⟨fun t103_141 w142 =>
  GuardK t103_141 true (fun k w => CallV Tryd.prog (.func (.func 27) #[] #[]) #[(Go.Value.string { data := #[47, 42, 47, 98] }), (Go.Value.string { data := #[47, 97, 47, 98] })] k w) (@hid _ ⟨fun t105_143 w144 =>
  PickK Tryd.prog t103_141 t105_143 (Go.Value.bool false) (@hid _ ⟨fun t106_145 w146 =>
  GuardK t106_145 true (fun k w => CallV Tryd.prog (.func (.func 27) #[] #[]) #[(Go.Value.string { data := #[47, 42] }), (Go.Value.string { data := #[47, 97, 47, 98] })] k w) (@hid _ ⟨fun t108_147 w148 =>
  GuardK t106_145 true (fun k w => UnK Tryd.prog Go.UnOp.not t108_147 k w) (@hid _ ⟨fun t109_149 w150 =>
  PickK Tryd.prog t106_145 t109_149 (Go.Value.bool false) (@hid _ ⟨fun t110_151 w152 =>
  R t110_151 w152⟩) w150⟩) w148⟩) w146⟩) w144⟩) w142⟩) w140⟩) w138⟩) w136⟩) w134⟩) w132⟩) w130⟩) w128⟩) w126⟩) w124⟩) w122⟩) w120⟩) w118⟩) w116⟩) w114⟩) w112⟩) w110⟩) w108⟩) w106⟩) w104⟩) w102⟩) w100⟩) w98⟩) w96⟩) w94⟩) w92⟩) w90⟩) w88⟩) w86⟩) w84⟩) w82⟩) w80⟩) w78⟩) w76⟩) w74⟩) w72⟩) w70⟩) w68⟩) w66⟩) w64⟩) w62⟩) w60⟩) w58⟩) w56⟩) w54⟩) w52⟩) w50⟩) w48⟩) w46⟩) w44⟩) w42⟩) w40⟩) w38⟩) w36⟩) w34⟩) w32⟩) w30⟩) w28⟩) w26⟩) w24⟩) w22⟩) w20⟩) w18⟩) w16⟩) w14⟩) w12⟩) w10⟩) w8⟩) w6⟩) w4⟩) w2⟩) w0
def a8 : Ann := (.seq .no (.seq .no (.seq .no (.seq .no (.seq .no (.seq .no (.seq .no .no)))))))
theorem F8_eq (R : Value → World → Prop) (w0 : World) : F8  R w0 = vc Tryd.prog (bodyOf Tryd.f8) a8 (retQ Tryd.prog Tryd.f8 R) (envOf 0 []) w0 := by kernel_rfl
theorem F8_calls (R : Value → World → Prop) (w0 : World) (h : F8  R w0) : CallK Tryd.prog 8 #[] R w0 :=
  calls_vc (c := bodyOf Tryd.f8) Tryd.func8 (by kernel_rfl) (by kernel_rfl) a8 (by kernel_rfl) (by kernel_rfl) [] (by rw [Tryd.ntmps8]; exact Nat.le_of_ble_eq_true rfl) w0 R ((F8_eq  R w0).mp h)

/-- canton/path.Parse, its body as a formula. -/
def F9 (x0 : Value) (R : Value → World → Prop) (w0 : World) : Prop :=
  CallV Tryd.prog (.func (.func 31) #[] #[]) #[x0] (@hid _ ⟨fun t8_1 w2 =>
  ExtractK Tryd.prog t8_1 0 (@hid _ ⟨fun t9_3 w4 =>
  ExtractK Tryd.prog t8_1 1 (@hid _ ⟨fun t10_5 w6 =>
  UnK Tryd.prog Go.UnOp.not t10_5 (@hid _ ⟨fun t13_7 w8 =>
  GuardK t13_7 false (fun k w => k t9_3 w) (@hid _ ⟨fun t15_9 w10 =>
  GuardK t13_7 false (fun k w => CallV Tryd.prog (.func (.func 32) #[] #[]) #[t15_9, (.func (.func 33) #[] #[])] k w) (@hid _ ⟨fun t16_11 w12 =>
  PickK Tryd.prog t13_7 (Go.Value.bool true) t16_11 (@hid _ ⟨fun t17_13 w14 =>
  BrK t17_13 (@hid _ ⟨
   R (.tuple #[(Go.Value.slice none 0 0), (Go.Value.int Go.IntKind.i64 2)]) w14⟩) (@hid _ ⟨
   BuiltinK Tryd.prog Go.Builtin.len #[23] 3 #[false] #[t9_3] (@hid _ ⟨fun t20_15 w16 =>
   BinK Tryd.prog Go.BinOp.gtr 3 t20_15 (Go.Value.int Go.IntKind.i64 4) (@hid _ ⟨fun t21_17 w18 =>
   BrK t21_17 (@hid _ ⟨
    R (.tuple #[(Go.Value.slice none 0 0), (Go.Value.int Go.IntKind.i64 4)]) w18⟩) (@hid _ ⟨
    R (.tuple #[t9_3, (Go.Value.int Go.IntKind.i64 0)]) w18⟩)⟩) w16⟩) w14⟩)⟩) w12⟩) w10⟩) w8⟩) w6⟩) w4⟩) w2⟩) w0
def a9 : Ann := (.seq .no (.seq .no (.seq (.block (.seq .no (.cond (.seq .no .no) (.seq .no (.cond (.seq .no .no) .no))))) (.seq .no .no))))
theorem F9_eq (x0 : Value) (R : Value → World → Prop) (w0 : World) : F9 x0 R w0 = vc Tryd.prog (bodyOf Tryd.f9) a9 (retQ Tryd.prog Tryd.f9 R) (envOf 0 [x0]) w0 := by kernel_rfl
theorem F9_calls (x0 : Value) (R : Value → World → Prop) (w0 : World) (h : F9 x0 R w0) : CallK Tryd.prog 9 #[x0] R w0 :=
  calls_vc (c := bodyOf Tryd.f9) Tryd.func9 (by kernel_rfl) (by kernel_rfl) a9 (by kernel_rfl) (by kernel_rfl) [x0] (by rw [Tryd.ntmps9]; exact Nat.le_of_ble_eq_true rfl) w0 R ((F9_eq x0 R w0).mp h)

/-- canton/cantonref7.Parse, its body as a formula. -/
def F10 (x0 : Value) (R : Value → World → Prop) (w0 : World) : Prop :=
  CallV Tryd.prog (.func (.func 35) #[] #[]) #[x0] (@hid _ ⟨fun t9_1 w2 =>
  ExtractK Tryd.prog t9_1 0 (@hid _ ⟨fun t10_3 w4 =>
  ExtractK Tryd.prog t9_1 1 (@hid _ ⟨fun t11_5 w6 =>
  UnK Tryd.prog Go.UnOp.not t11_5 (@hid _ ⟨fun t13_7 w8 =>
  BrK t13_7 (@hid _ ⟨
   R (.tuple #[(Go.Value.slice none 0 0), (Go.Value.int Go.IntKind.i64 2)]) w8⟩) (@hid _ ⟨
   LoopK1 (Go.Value.int Go.IntKind.i64 0) w8 (@hid _ ⟨fun _ x6_9 w10 B11 =>
    BuiltinK Tryd.prog Go.Builtin.len #[23] 3 #[false] #[t10_3] (@hid _ ⟨fun t16_12 w13 =>
    BinK Tryd.prog Go.BinOp.lss 3 x6_9 t16_12 (@hid _ ⟨fun t17_14 w15 =>
    BrK t17_14 (@hid _ ⟨
     IndexAtK Tryd.prog 23 t10_3 x6_9 (@hid _ ⟨fun t22_16 w17 =>
     LoadK Tryd.prog 9 t22_16 (@hid _ ⟨fun t23_18 w19 =>
     CallV Tryd.prog (.func (.func 36) #[] #[]) #[t23_18] (@hid _ ⟨fun t24_20 w21 =>
     UnK Tryd.prog Go.UnOp.not t24_20 (@hid _ ⟨fun t25_22 w23 =>
     BrK t25_22 (@hid _ ⟨
      R (.tuple #[(Go.Value.slice none 0 0), (Go.Value.int Go.IntKind.i64 2)]) w23⟩) (@hid _ ⟨
      BinK Tryd.prog Go.BinOp.add 3 x6_9 (Go.Value.int Go.IntKind.i64 1) (@hid _ ⟨fun t19_24 w25 =>
      B11 t19_24 w25⟩) w23⟩)⟩) w21⟩) w19⟩) w17⟩) w15⟩) (@hid _ ⟨
     BuiltinK Tryd.prog Go.Builtin.len #[23] 3 #[false] #[t10_3] (@hid _ ⟨fun t27_26 w27 =>
     BinK Tryd.prog Go.BinOp.gtr 3 t27_26 (Go.Value.int Go.IntKind.i64 4) (@hid _ ⟨fun t28_28 w29 =>
     BrK t28_28 (@hid _ ⟨
      R (.tuple #[(Go.Value.slice none 0 0), (Go.Value.int Go.IntKind.i64 4)]) w29⟩) (@hid _ ⟨
      R (.tuple #[t10_3, (Go.Value.int Go.IntKind.i64 0)]) w29⟩)⟩) w27⟩) w15⟩)⟩) w13⟩) w10⟩)⟩)⟩) w6⟩) w4⟩) w2⟩) w0
def a10 : Ann := (.seq .no (.seq .no (.seq (.seq .no (.cond (.seq .no .no) .no)) (.seq (.seq .no (.block (.loop [6] [(2, 3), (14, 25)] (.seq (.seq .no (.cond .no .no)) (.seq (.block (.seq .no (.cond (.seq .no .no) .no))) .no))))) (.seq (.seq .no (.cond (.seq .no .no) .no)) (.seq .no .no))))))
theorem F10_eq (x0 : Value) (R : Value → World → Prop) (w0 : World) : F10 x0 R w0 = vc Tryd.prog (bodyOf Tryd.f10) a10 (retQ Tryd.prog Tryd.f10 R) (envOf 0 [x0]) w0 := by kernel_rfl
theorem F10_calls (x0 : Value) (R : Value → World → Prop) (w0 : World) (h : F10 x0 R w0) : CallK Tryd.prog 10 #[x0] R w0 :=
  calls_vc (c := bodyOf Tryd.f10) Tryd.func10 (by kernel_rfl) (by kernel_rfl) a10 (by kernel_rfl) (by kernel_rfl) [x0] (by rw [Tryd.ntmps10]; exact Nat.le_of_ble_eq_true rfl) w0 R ((F10_eq x0 R w0).mp h)

/-- canton/path.Join, its body as a formula. -/
def F11 (x0 x1 : Value) (R : Value → World → Prop) (w0 : World) : Prop :=
  CallV Tryd.prog (.func (.func 9) #[] #[]) #[x0] (@hid _ ⟨fun t10_1 w2 =>
  ExtractK Tryd.prog t10_1 0 (@hid _ ⟨fun t11_3 w4 =>
  ExtractK Tryd.prog t10_1 1 (@hid _ ⟨fun t12_5 w6 =>
  BinK Tryd.prog Go.BinOp.neq 24 t12_5 (Go.Value.int Go.IntKind.i64 0) (@hid _ ⟨fun t15_7 w8 =>
  BrK t15_7 (@hid _ ⟨
   R (.tuple #[(Go.Value.string { data := #[] }), (Go.Value.int Go.IntKind.i64 2)]) w8⟩) (@hid _ ⟨
   CallV Tryd.prog (.func (.func 34) #[] #[]) #[x1] (@hid _ ⟨fun t18_9 w10 =>
   UnK Tryd.prog Go.UnOp.not t18_9 (@hid _ ⟨fun t19_11 w12 =>
   BrK t19_11 (@hid _ ⟨
    R (.tuple #[(Go.Value.string { data := #[] }), (Go.Value.int Go.IntKind.i64 5)]) w12⟩) (@hid _ ⟨
    BuiltinK Tryd.prog Go.Builtin.len #[23] 3 #[false] #[t11_3] (@hid _ ⟨fun t22_13 w14 =>
    BinK Tryd.prog Go.BinOp.geq 3 t22_13 (Go.Value.int Go.IntKind.i64 4) (@hid _ ⟨fun t23_15 w16 =>
    BrK t23_15 (@hid _ ⟨
     R (.tuple #[(Go.Value.string { data := #[] }), (Go.Value.int Go.IntKind.i64 4)]) w16⟩) (@hid _ ⟨
     BuildSliceK Tryd.prog 23 1 #[(0, x1)] (@hid _ ⟨fun t26_17 w18 =>
     BuiltinK Tryd.prog Go.Builtin.append #[23, 23] 23 #[false, false] #[t11_3, t26_17] (@hid _ ⟨fun t27_19 w20 =>
     CallV Tryd.prog (.func (.func 22) #[] #[]) #[t27_19] (@hid _ ⟨fun t28_21 w22 =>
     R (.tuple #[t28_21, (Go.Value.int Go.IntKind.i64 0)]) w22⟩) w20⟩) w18⟩) w16⟩)⟩) w14⟩) w12⟩)⟩) w10⟩) w8⟩)⟩) w6⟩) w4⟩) w2⟩) w0
def a11 : Ann := (.seq .no (.seq .no (.seq (.block (.seq .no (.cond (.seq .no .no) (.seq .no (.cond (.seq .no .no) (.seq .no (.cond (.seq .no .no) .no))))))) (.seq .no .no))))
theorem F11_eq (x0 x1 : Value) (R : Value → World → Prop) (w0 : World) : F11 x0 x1 R w0 = vc Tryd.prog (bodyOf Tryd.f11) a11 (retQ Tryd.prog Tryd.f11 R) (envOf 0 [x0, x1]) w0 := by kernel_rfl
theorem F11_calls (x0 x1 : Value) (R : Value → World → Prop) (w0 : World) (h : F11 x0 x1 R w0) : CallK Tryd.prog 11 #[x0, x1] R w0 :=
  calls_vc (c := bodyOf Tryd.f11) Tryd.func11 (by kernel_rfl) (by kernel_rfl) a11 (by kernel_rfl) (by kernel_rfl) [x0, x1] (by rw [Tryd.ntmps11]; exact Nat.le_of_ble_eq_true rfl) w0 R ((F11_eq x0 x1 R w0).mp h)

/-- canton/cantonref7.Join, its body as a formula. -/
def F12 (x0 x1 : Value) (R : Value → World → Prop) (w0 : World) : Prop :=
  CallV Tryd.prog (.func (.func 10) #[] #[]) #[x0] (@hid _ ⟨fun t10_1 w2 =>
  ExtractK Tryd.prog t10_1 0 (@hid _ ⟨fun t11_3 w4 =>
  ExtractK Tryd.prog t10_1 1 (@hid _ ⟨fun t12_5 w6 =>
  BinK Tryd.prog Go.BinOp.neq 3 t12_5 (Go.Value.int Go.IntKind.i64 0) (@hid _ ⟨fun t15_7 w8 =>
  BrK t15_7 (@hid _ ⟨
   R (.tuple #[(Go.Value.string { data := #[] }), (Go.Value.int Go.IntKind.i64 2)]) w8⟩) (@hid _ ⟨
   CallV Tryd.prog (.func (.func 36) #[] #[]) #[x1] (@hid _ ⟨fun t18_9 w10 =>
   UnK Tryd.prog Go.UnOp.not t18_9 (@hid _ ⟨fun t19_11 w12 =>
   BrK t19_11 (@hid _ ⟨
    R (.tuple #[(Go.Value.string { data := #[] }), (Go.Value.int Go.IntKind.i64 5)]) w12⟩) (@hid _ ⟨
    BuiltinK Tryd.prog Go.Builtin.len #[23] 3 #[false] #[t11_3] (@hid _ ⟨fun t22_13 w14 =>
    BinK Tryd.prog Go.BinOp.geq 3 t22_13 (Go.Value.int Go.IntKind.i64 4) (@hid _ ⟨fun t23_15 w16 =>
    BrK t23_15 (@hid _ ⟨
     R (.tuple #[(Go.Value.string { data := #[] }), (Go.Value.int Go.IntKind.i64 4)]) w16⟩) (@hid _ ⟨
     BuildSliceK Tryd.prog 23 0 #[] (@hid _ ⟨fun t24_17 w18 =>
     BuiltinK Tryd.prog Go.Builtin.append #[23, 23] 23 #[false, false] #[t24_17, t11_3] (@hid _ ⟨fun t26_19 w20 =>
     BuildSliceK Tryd.prog 23 1 #[(0, x1)] (@hid _ ⟨fun t28_21 w22 =>
     BuiltinK Tryd.prog Go.Builtin.append #[23, 23] 23 #[false, false] #[t26_19, t28_21] (@hid _ ⟨fun t29_23 w24 =>
     CallV Tryd.prog (.func (.func 30) #[] #[]) #[t29_23] (@hid _ ⟨fun t30_25 w26 =>
     R (.tuple #[t30_25, (Go.Value.int Go.IntKind.i64 0)]) w26⟩) w24⟩) w22⟩) w20⟩) w18⟩) w16⟩)⟩) w14⟩) w12⟩)⟩) w10⟩) w8⟩)⟩) w6⟩) w4⟩) w2⟩) w0
def a12 : Ann := (.seq .no (.seq .no (.seq (.block (.seq .no (.cond (.seq .no .no) (.seq .no (.cond (.seq .no .no) (.seq .no (.cond (.seq .no .no) .no))))))) (.seq .no .no))))
theorem F12_eq (x0 x1 : Value) (R : Value → World → Prop) (w0 : World) : F12 x0 x1 R w0 = vc Tryd.prog (bodyOf Tryd.f12) a12 (retQ Tryd.prog Tryd.f12 R) (envOf 0 [x0, x1]) w0 := by kernel_rfl
theorem F12_calls (x0 x1 : Value) (R : Value → World → Prop) (w0 : World) (h : F12 x0 x1 R w0) : CallK Tryd.prog 12 #[x0, x1] R w0 :=
  calls_vc (c := bodyOf Tryd.f12) Tryd.func12 (by kernel_rfl) (by kernel_rfl) a12 (by kernel_rfl) (by kernel_rfl) [x0, x1] (by rw [Tryd.ntmps12]; exact Nat.le_of_ble_eq_true rfl) w0 R ((F12_eq x0 x1 R w0).mp h)

/-- canton/cantonlaw6.Texts, its body as a formula. -/
def F13 (x0 x1 : Value) (R : Value → World → Prop) (w0 : World) : Prop :=
  BuiltinK Tryd.prog Go.Builtin.len #[23] 3 #[false] #[x0] (@hid _ ⟨fun t7_1 w2 =>
  BuiltinK Tryd.prog Go.Builtin.len #[23] 3 #[false] #[x1] (@hid _ ⟨fun t9_3 w4 =>
  BinK Tryd.prog Go.BinOp.neq 3 t7_1 t9_3 (@hid _ ⟨fun t10_5 w6 =>
  BrK t10_5 (@hid _ ⟨
   R (Go.Value.bool false) w6⟩) (@hid _ ⟨
   LoopK1 (Go.Value.int Go.IntKind.i64 0) w6 (@hid _ ⟨fun _ x5_7 w8 B9 =>
    BuiltinK Tryd.prog Go.Builtin.len #[23] 3 #[false] #[x0] (@hid _ ⟨fun t13_10 w11 =>
    BinK Tryd.prog Go.BinOp.lss 3 x5_7 t13_10 (@hid _ ⟨fun t14_12 w13 =>
    BrK t14_12 (@hid _ ⟨
     DrawK (@hid _ ⟨fun S14 w15 =>
     TakeS Tryd.prog S14 (Instr.indexAt 23 x0 x5_7) (@hid _ ⟨fun t19_16 =>
     TakeS Tryd.prog S14 (Instr.loadAt 9 t19_16) (@hid _ ⟨fun t20_17 =>
     TakeS Tryd.prog S14 (Instr.indexAt 23 x1 x5_7) (@hid _ ⟨fun t23_18 =>
     TakeS Tryd.prog S14 (Instr.loadAt 9 t23_18) (@hid _ ⟨fun t24_19 =>
     BinT Tryd.prog S14 Go.BinOp.neq 9 t20_17 t24_19 (@hid _ ⟨fun t25_20 =>
     BrK t25_20 (@hid _ ⟨
      R (Go.Value.bool false) w15⟩) (@hid _ ⟨
      BinK Tryd.prog Go.BinOp.add 3 x5_7 (Go.Value.int Go.IntKind.i64 1) (@hid _ ⟨fun t16_21 w22 =>
      B9 t16_21 w22⟩) w15⟩)⟩)⟩)⟩)⟩)⟩)⟩) w13⟩) (@hid _ ⟨
     R (Go.Value.bool true) w13⟩)⟩) w11⟩) w8⟩)⟩)⟩) w4⟩) w2⟩) w0
def a13 : Ann := (.seq .no (.seq (.seq .no (.cond (.seq .no .no) .no)) (.seq (.seq .no (.block (.loop [5] [(4, 4), (11, 25)] (.seq (.seq .no (.cond .no .no)) (.seq (.block (.seq (.plan (.take 0 (.take 1 (.take 2 (.take 3 (.take 4 (.take 5 (.take 6 (.take 7 (.take 8 .done)))))))))) (.cond (.seq .no .no) .no))) .no))))) (.seq .no .no))))
theorem F13_eq (x0 x1 : Value) (R : Value → World → Prop) (w0 : World) : F13 x0 x1 R w0 = vc Tryd.prog (bodyOf Tryd.f13) a13 (retQ Tryd.prog Tryd.f13 R) (envOf 0 [x0, x1]) w0 := by kernel_rfl
theorem F13_calls (x0 x1 : Value) (R : Value → World → Prop) (w0 : World) (h : F13 x0 x1 R w0) : CallK Tryd.prog 13 #[x0, x1] R w0 :=
  calls_vc (c := bodyOf Tryd.f13) Tryd.func13 (by kernel_rfl) (by kernel_rfl) a13 (by kernel_rfl) (by kernel_rfl) [x0, x1] (by rw [Tryd.ntmps13]; exact Nat.le_of_ble_eq_true rfl) w0 R ((F13_eq x0 x1 R w0).mp h)

/-- canton/path.Depth, its body as a formula. -/
def F14 (x0 : Value) (R : Value → World → Prop) (w0 : World) : Prop :=
  CallV Tryd.prog (.func (.func 9) #[] #[]) #[x0] (@hid _ ⟨fun t7_1 w2 =>
  ExtractK Tryd.prog t7_1 0 (@hid _ ⟨fun t8_3 w4 =>
  ExtractK Tryd.prog t7_1 1 (@hid _ ⟨fun t9_5 w6 =>
  BinK Tryd.prog Go.BinOp.neq 24 t9_5 (Go.Value.int Go.IntKind.i64 0) (@hid _ ⟨fun t11_7 w8 =>
  BrK t11_7 (@hid _ ⟨
   R (Go.Value.int Go.IntKind.i64 (-1)) w8⟩) (@hid _ ⟨
   BuiltinK Tryd.prog Go.Builtin.len #[23] 3 #[false] #[t8_3] (@hid _ ⟨fun t13_9 w10 =>
   R t13_9 w10⟩) w8⟩)⟩) w6⟩) w4⟩) w2⟩) w0
def a14 : Ann := (.seq .no (.seq .no (.seq (.seq .no (.cond (.seq .no .no) .no)) (.seq .no .no))))
theorem F14_eq (x0 : Value) (R : Value → World → Prop) (w0 : World) : F14 x0 R w0 = vc Tryd.prog (bodyOf Tryd.f14) a14 (retQ Tryd.prog Tryd.f14 R) (envOf 0 [x0]) w0 := by kernel_rfl
theorem F14_calls (x0 : Value) (R : Value → World → Prop) (w0 : World) (h : F14 x0 R w0) : CallK Tryd.prog 14 #[x0] R w0 :=
  calls_vc (c := bodyOf Tryd.f14) Tryd.func14 (by kernel_rfl) (by kernel_rfl) a14 (by kernel_rfl) (by kernel_rfl) [x0] (by rw [Tryd.ntmps14]; exact Nat.le_of_ble_eq_true rfl) w0 R ((F14_eq x0 R w0).mp h)

/-- canton/cantonref7.Depth, its body as a formula. -/
def F15 (x0 : Value) (R : Value → World → Prop) (w0 : World) : Prop :=
  CallV Tryd.prog (.func (.func 10) #[] #[]) #[x0] (@hid _ ⟨fun t7_1 w2 =>
  ExtractK Tryd.prog t7_1 0 (@hid _ ⟨fun t8_3 w4 =>
  ExtractK Tryd.prog t7_1 1 (@hid _ ⟨fun t9_5 w6 =>
  BinK Tryd.prog Go.BinOp.neq 3 t9_5 (Go.Value.int Go.IntKind.i64 0) (@hid _ ⟨fun t11_7 w8 =>
  BrK t11_7 (@hid _ ⟨
   R (Go.Value.int Go.IntKind.i64 (-1)) w8⟩) (@hid _ ⟨
   BuiltinK Tryd.prog Go.Builtin.len #[23] 3 #[false] #[t8_3] (@hid _ ⟨fun t13_9 w10 =>
   R t13_9 w10⟩) w8⟩)⟩) w6⟩) w4⟩) w2⟩) w0
def a15 : Ann := (.seq .no (.seq .no (.seq (.seq .no (.cond (.seq .no .no) .no)) (.seq .no .no))))
theorem F15_eq (x0 : Value) (R : Value → World → Prop) (w0 : World) : F15 x0 R w0 = vc Tryd.prog (bodyOf Tryd.f15) a15 (retQ Tryd.prog Tryd.f15 R) (envOf 0 [x0]) w0 := by kernel_rfl
theorem F15_calls (x0 : Value) (R : Value → World → Prop) (w0 : World) (h : F15 x0 R w0) : CallK Tryd.prog 15 #[x0] R w0 :=
  calls_vc (c := bodyOf Tryd.f15) Tryd.func15 (by kernel_rfl) (by kernel_rfl) a15 (by kernel_rfl) (by kernel_rfl) [x0] (by rw [Tryd.ntmps15]; exact Nat.le_of_ble_eq_true rfl) w0 R ((F15_eq x0 R w0).mp h)

/-- canton/path.Parent, its body as a formula. -/
def F16 (x0 : Value) (R : Value → World → Prop) (w0 : World) : Prop :=
  CallV Tryd.prog (.func (.func 9) #[] #[]) #[x0] (@hid _ ⟨fun t7_1 w2 =>
  ExtractK Tryd.prog t7_1 0 (@hid _ ⟨fun t8_3 w4 =>
  ExtractK Tryd.prog t7_1 1 (@hid _ ⟨fun t9_5 w6 =>
  BinK Tryd.prog Go.BinOp.neq 24 t9_5 (Go.Value.int Go.IntKind.i64 0) (@hid _ ⟨fun t11_7 w8 =>
  GuardK t11_7 false (fun k w => k t8_3 w) (@hid _ ⟨fun t13_9 w10 =>
  GuardK t11_7 false (fun k w => BuiltinK Tryd.prog Go.Builtin.len #[23] 3 #[false] #[t13_9] k w) (@hid _ ⟨fun t14_11 w12 =>
  GuardK t11_7 false (fun k w => BinK Tryd.prog Go.BinOp.eql 3 t14_11 (Go.Value.int Go.IntKind.i64 0) k w) (@hid _ ⟨fun t15_13 w14 =>
  PickK Tryd.prog t11_7 (Go.Value.bool true) t15_13 (@hid _ ⟨fun t16_15 w16 =>
  BrK t16_15 (@hid _ ⟨
   R (Go.Value.string { data := #[] }) w16⟩) (@hid _ ⟨
   BuiltinK Tryd.prog Go.Builtin.len #[23] 3 #[false] #[t8_3] (@hid _ ⟨fun t19_17 w18 =>
   BinK Tryd.prog Go.BinOp.sub 3 t19_17 (Go.Value.int Go.IntKind.i64 1) (@hid _ ⟨fun t20_19 w20 =>
   SliceK Tryd.prog 23 t8_3 none (some t20_19) none (@hid _ ⟨fun t21_21 w22 =>
   CallV Tryd.prog (.func (.func 22) #[] #[]) #[t21_21] (@hid _ ⟨fun t22_23 w24 =>
   R t22_23 w24⟩) w22⟩) w20⟩) w18⟩) w16⟩)⟩) w14⟩) w12⟩) w10⟩) w8⟩) w6⟩) w4⟩) w2⟩) w0
def a16 : Ann := (.seq .no (.seq .no (.seq (.seq .no (.cond (.seq .no .no) .no)) (.seq .no .no))))
theorem F16_eq (x0 : Value) (R : Value → World → Prop) (w0 : World) : F16 x0 R w0 = vc Tryd.prog (bodyOf Tryd.f16) a16 (retQ Tryd.prog Tryd.f16 R) (envOf 0 [x0]) w0 := by kernel_rfl
theorem F16_calls (x0 : Value) (R : Value → World → Prop) (w0 : World) (h : F16 x0 R w0) : CallK Tryd.prog 16 #[x0] R w0 :=
  calls_vc (c := bodyOf Tryd.f16) Tryd.func16 (by kernel_rfl) (by kernel_rfl) a16 (by kernel_rfl) (by kernel_rfl) [x0] (by rw [Tryd.ntmps16]; exact Nat.le_of_ble_eq_true rfl) w0 R ((F16_eq x0 R w0).mp h)

/-- canton/cantonref7.Parent, its body as a formula. -/
def F17 (x0 : Value) (R : Value → World → Prop) (w0 : World) : Prop :=
  CallV Tryd.prog (.func (.func 10) #[] #[]) #[x0] (@hid _ ⟨fun t7_1 w2 =>
  ExtractK Tryd.prog t7_1 0 (@hid _ ⟨fun t8_3 w4 =>
  ExtractK Tryd.prog t7_1 1 (@hid _ ⟨fun t9_5 w6 =>
  BinK Tryd.prog Go.BinOp.neq 3 t9_5 (Go.Value.int Go.IntKind.i64 0) (@hid _ ⟨fun t11_7 w8 =>
  GuardK t11_7 false (fun k w => k t8_3 w) (@hid _ ⟨fun t13_9 w10 =>
  GuardK t11_7 false (fun k w => BuiltinK Tryd.prog Go.Builtin.len #[23] 3 #[false] #[t13_9] k w) (@hid _ ⟨fun t14_11 w12 =>
  GuardK t11_7 false (fun k w => BinK Tryd.prog Go.BinOp.eql 3 t14_11 (Go.Value.int Go.IntKind.i64 0) k w) (@hid _ ⟨fun t15_13 w14 =>
  PickK Tryd.prog t11_7 (Go.Value.bool true) t15_13 (@hid _ ⟨fun t16_15 w16 =>
  BrK t16_15 (@hid _ ⟨
   R (Go.Value.string { data := #[] }) w16⟩) (@hid _ ⟨
   BuiltinK Tryd.prog Go.Builtin.len #[23] 3 #[false] #[t8_3] (@hid _ ⟨fun t19_17 w18 =>
   BinK Tryd.prog Go.BinOp.sub 3 t19_17 (Go.Value.int Go.IntKind.i64 1) (@hid _ ⟨fun t20_19 w20 =>
   SliceK Tryd.prog 23 t8_3 none (some t20_19) none (@hid _ ⟨fun t21_21 w22 =>
   CallV Tryd.prog (.func (.func 30) #[] #[]) #[t21_21] (@hid _ ⟨fun t22_23 w24 =>
   R t22_23 w24⟩) w22⟩) w20⟩) w18⟩) w16⟩)⟩) w14⟩) w12⟩) w10⟩) w8⟩) w6⟩) w4⟩) w2⟩) w0
def a17 : Ann := (.seq .no (.seq .no (.seq (.seq .no (.cond (.seq .no .no) .no)) (.seq .no .no))))
theorem F17_eq (x0 : Value) (R : Value → World → Prop) (w0 : World) : F17 x0 R w0 = vc Tryd.prog (bodyOf Tryd.f17) a17 (retQ Tryd.prog Tryd.f17 R) (envOf 0 [x0]) w0 := by kernel_rfl
theorem F17_calls (x0 : Value) (R : Value → World → Prop) (w0 : World) (h : F17 x0 R w0) : CallK Tryd.prog 17 #[x0] R w0 :=
  calls_vc (c := bodyOf Tryd.f17) Tryd.func17 (by kernel_rfl) (by kernel_rfl) a17 (by kernel_rfl) (by kernel_rfl) [x0] (by rw [Tryd.ntmps17]; exact Nat.le_of_ble_eq_true rfl) w0 R ((F17_eq x0 R w0).mp h)

/-- canton/path.Last, its body as a formula. -/
def F18 (x0 : Value) (R : Value → World → Prop) (w0 : World) : Prop :=
  CallV Tryd.prog (.func (.func 9) #[] #[]) #[x0] (@hid _ ⟨fun t7_1 w2 =>
  ExtractK Tryd.prog t7_1 0 (@hid _ ⟨fun t8_3 w4 =>
  ExtractK Tryd.prog t7_1 1 (@hid _ ⟨fun t9_5 w6 =>
  BinK Tryd.prog Go.BinOp.neq 24 t9_5 (Go.Value.int Go.IntKind.i64 0) (@hid _ ⟨fun t11_7 w8 =>
  GuardK t11_7 false (fun k w => k t8_3 w) (@hid _ ⟨fun t13_9 w10 =>
  GuardK t11_7 false (fun k w => BuiltinK Tryd.prog Go.Builtin.len #[23] 3 #[false] #[t13_9] k w) (@hid _ ⟨fun t14_11 w12 =>
  GuardK t11_7 false (fun k w => BinK Tryd.prog Go.BinOp.eql 3 t14_11 (Go.Value.int Go.IntKind.i64 0) k w) (@hid _ ⟨fun t15_13 w14 =>
  PickK Tryd.prog t11_7 (Go.Value.bool true) t15_13 (@hid _ ⟨fun t16_15 w16 =>
  BrK t16_15 (@hid _ ⟨
   R (Go.Value.string { data := #[] }) w16⟩) (@hid _ ⟨
   BuiltinK Tryd.prog Go.Builtin.len #[23] 3 #[false] #[t8_3] (@hid _ ⟨fun t19_17 w18 =>
   BinK Tryd.prog Go.BinOp.sub 3 t19_17 (Go.Value.int Go.IntKind.i64 1) (@hid _ ⟨fun t20_19 w20 =>
   IndexAtK Tryd.prog 23 t8_3 t20_19 (@hid _ ⟨fun t21_21 w22 =>
   LoadK Tryd.prog 9 t21_21 (@hid _ ⟨fun t22_23 w24 =>
   R t22_23 w24⟩) w22⟩) w20⟩) w18⟩) w16⟩)⟩) w14⟩) w12⟩) w10⟩) w8⟩) w6⟩) w4⟩) w2⟩) w0
def a18 : Ann := (.seq .no (.seq .no (.seq (.seq .no (.cond (.seq .no .no) .no)) (.seq .no .no))))
theorem F18_eq (x0 : Value) (R : Value → World → Prop) (w0 : World) : F18 x0 R w0 = vc Tryd.prog (bodyOf Tryd.f18) a18 (retQ Tryd.prog Tryd.f18 R) (envOf 0 [x0]) w0 := by kernel_rfl
theorem F18_calls (x0 : Value) (R : Value → World → Prop) (w0 : World) (h : F18 x0 R w0) : CallK Tryd.prog 18 #[x0] R w0 :=
  calls_vc (c := bodyOf Tryd.f18) Tryd.func18 (by kernel_rfl) (by kernel_rfl) a18 (by kernel_rfl) (by kernel_rfl) [x0] (by rw [Tryd.ntmps18]; exact Nat.le_of_ble_eq_true rfl) w0 R ((F18_eq x0 R w0).mp h)

/-- canton/cantonref7.Last, its body as a formula. -/
def F19 (x0 : Value) (R : Value → World → Prop) (w0 : World) : Prop :=
  CallV Tryd.prog (.func (.func 10) #[] #[]) #[x0] (@hid _ ⟨fun t7_1 w2 =>
  ExtractK Tryd.prog t7_1 0 (@hid _ ⟨fun t8_3 w4 =>
  ExtractK Tryd.prog t7_1 1 (@hid _ ⟨fun t9_5 w6 =>
  BinK Tryd.prog Go.BinOp.neq 3 t9_5 (Go.Value.int Go.IntKind.i64 0) (@hid _ ⟨fun t11_7 w8 =>
  GuardK t11_7 false (fun k w => k t8_3 w) (@hid _ ⟨fun t13_9 w10 =>
  GuardK t11_7 false (fun k w => BuiltinK Tryd.prog Go.Builtin.len #[23] 3 #[false] #[t13_9] k w) (@hid _ ⟨fun t14_11 w12 =>
  GuardK t11_7 false (fun k w => BinK Tryd.prog Go.BinOp.eql 3 t14_11 (Go.Value.int Go.IntKind.i64 0) k w) (@hid _ ⟨fun t15_13 w14 =>
  PickK Tryd.prog t11_7 (Go.Value.bool true) t15_13 (@hid _ ⟨fun t16_15 w16 =>
  BrK t16_15 (@hid _ ⟨
   R (Go.Value.string { data := #[] }) w16⟩) (@hid _ ⟨
   BuiltinK Tryd.prog Go.Builtin.len #[23] 3 #[false] #[t8_3] (@hid _ ⟨fun t19_17 w18 =>
   BinK Tryd.prog Go.BinOp.sub 3 t19_17 (Go.Value.int Go.IntKind.i64 1) (@hid _ ⟨fun t20_19 w20 =>
   IndexAtK Tryd.prog 23 t8_3 t20_19 (@hid _ ⟨fun t21_21 w22 =>
   LoadK Tryd.prog 9 t21_21 (@hid _ ⟨fun t22_23 w24 =>
   R t22_23 w24⟩) w22⟩) w20⟩) w18⟩) w16⟩)⟩) w14⟩) w12⟩) w10⟩) w8⟩) w6⟩) w4⟩) w2⟩) w0
def a19 : Ann := (.seq .no (.seq .no (.seq (.seq .no (.cond (.seq .no .no) .no)) (.seq .no .no))))
theorem F19_eq (x0 : Value) (R : Value → World → Prop) (w0 : World) : F19 x0 R w0 = vc Tryd.prog (bodyOf Tryd.f19) a19 (retQ Tryd.prog Tryd.f19 R) (envOf 0 [x0]) w0 := by kernel_rfl
theorem F19_calls (x0 : Value) (R : Value → World → Prop) (w0 : World) (h : F19 x0 R w0) : CallK Tryd.prog 19 #[x0] R w0 :=
  calls_vc (c := bodyOf Tryd.f19) Tryd.func19 (by kernel_rfl) (by kernel_rfl) a19 (by kernel_rfl) (by kernel_rfl) [x0] (by rw [Tryd.ntmps19]; exact Nat.le_of_ble_eq_true rfl) w0 R ((F19_eq x0 R w0).mp h)

/-- canton/path.Zones, its body as a formula. -/
def F20 (x0 : Value) (R : Value → World → Prop) (w0 : World) : Prop :=
  CallV Tryd.prog (.func (.func 9) #[] #[]) #[x0] (@hid _ ⟨fun t9_1 w2 =>
  ExtractK Tryd.prog t9_1 0 (@hid _ ⟨fun t10_3 w4 =>
  ExtractK Tryd.prog t9_1 1 (@hid _ ⟨fun t11_5 w6 =>
  BuiltinK Tryd.prog Go.Builtin.len #[23] 3 #[false] #[t10_3] (@hid _ ⟨fun t13_7 w8 =>
  LoopK2 (Go.Value.slice none 0 0) (Go.Value.int Go.IntKind.i64 0) w8 (@hid _ ⟨fun _ x5_9 x14_10 w11 B12 =>
   BinK Tryd.prog Go.BinOp.lss 3 x14_10 t13_7 (@hid _ ⟨fun t15_13 w14 =>
   BrK t15_13 (@hid _ ⟨
    SliceK Tryd.prog 23 t10_3 none (some x14_10) none (@hid _ ⟨fun t20_15 w16 =>
    CallV Tryd.prog (.func (.func 22) #[] #[]) #[t20_15] (@hid _ ⟨fun t21_17 w18 =>
    BuildSliceK Tryd.prog 23 1 #[(0, t21_17)] (@hid _ ⟨fun t22_19 w20 =>
    BuiltinK Tryd.prog Go.Builtin.append #[23, 23] 23 #[false, false] #[x5_9, t22_19] (@hid _ ⟨fun t23_21 w22 =>
    BinK Tryd.prog Go.BinOp.add 3 x14_10 (Go.Value.int Go.IntKind.i64 1) (@hid _ ⟨fun t24_23 w24 =>
    B12 t23_21 t24_23 w24⟩) w22⟩) w20⟩) w18⟩) w16⟩) w14⟩) (@hid _ ⟨
    CallV Tryd.prog (.func (.func 37) #[] #[]) #[x5_9] (@hid _ ⟨fun t26_25 w26 =>
    R t26_25 w26⟩) w14⟩)⟩) w11⟩)⟩) w6⟩) w4⟩) w2⟩) w0
def a20 : Ann := (.seq .no (.seq .no (.seq .no (.seq (.seq .no (.block (.loop [5, 14] [(6, 6), (15, 24)] (.seq .no (.seq (.cond .no .no) (.seq (.block (.seq .no .no)) .no)))))) (.seq .no .no)))))
theorem F20_eq (x0 : Value) (R : Value → World → Prop) (w0 : World) : F20 x0 R w0 = vc Tryd.prog (bodyOf Tryd.f20) a20 (retQ Tryd.prog Tryd.f20 R) (envOf 0 [x0]) w0 := by kernel_rfl
theorem F20_calls (x0 : Value) (R : Value → World → Prop) (w0 : World) (h : F20 x0 R w0) : CallK Tryd.prog 20 #[x0] R w0 :=
  calls_vc (c := bodyOf Tryd.f20) Tryd.func20 (by kernel_rfl) (by kernel_rfl) a20 (by kernel_rfl) (by kernel_rfl) [x0] (by rw [Tryd.ntmps20]; exact Nat.le_of_ble_eq_true rfl) w0 R ((F20_eq x0 R w0).mp h)

/-- canton/cantonref7.Zones, its body as a formula. -/
def F21 (x0 : Value) (R : Value → World → Prop) (w0 : World) : Prop :=
  CallV Tryd.prog (.func (.func 10) #[] #[]) #[x0] (@hid _ ⟨fun t9_1 w2 =>
  ExtractK Tryd.prog t9_1 0 (@hid _ ⟨fun t10_3 w4 =>
  ExtractK Tryd.prog t9_1 1 (@hid _ ⟨fun t11_5 w6 =>
  BinK Tryd.prog Go.BinOp.neq 3 t11_5 (Go.Value.int Go.IntKind.i64 0) (@hid _ ⟨fun t13_7 w8 =>
  BrK t13_7 (@hid _ ⟨
   R (Go.Value.slice none 0 0) w8⟩) (@hid _ ⟨
   LoopK2 (Go.Value.slice none 0 0) (Go.Value.int Go.IntKind.i64 0) w8 (@hid _ ⟨fun _ x5_9 x6_10 w11 B12 =>
    BuiltinK Tryd.prog Go.Builtin.len #[23] 3 #[false] #[t10_3] (@hid _ ⟨fun t16_13 w14 =>
    BinK Tryd.prog Go.BinOp.lss 3 x6_10 t16_13 (@hid _ ⟨fun t17_15 w16 =>
    BrK t17_15 (@hid _ ⟨
     SliceK Tryd.prog 23 t10_3 none (some x6_10) none (@hid _ ⟨fun t23_17 w18 =>
     CallV Tryd.prog (.func (.func 30) #[] #[]) #[t23_17] (@hid _ ⟨fun t24_19 w20 =>
     BuildSliceK Tryd.prog 23 1 #[(0, t24_19)] (@hid _ ⟨fun t25_21 w22 =>
     BuiltinK Tryd.prog Go.Builtin.append #[23, 23] 23 #[false, false] #[x5_9, t25_21] (@hid _ ⟨fun t26_23 w24 =>
     BinK Tryd.prog Go.BinOp.add 3 x6_10 (Go.Value.int Go.IntKind.i64 1) (@hid _ ⟨fun t19_25 w26 =>
     B12 t26_23 t19_25 w26⟩) w24⟩) w22⟩) w20⟩) w18⟩) w16⟩) (@hid _ ⟨
     R x5_9 w16⟩)⟩) w14⟩) w11⟩)⟩)⟩) w6⟩) w4⟩) w2⟩) w0
def a21 : Ann := (.seq .no (.seq .no (.seq (.seq .no (.cond (.seq .no .no) .no)) (.seq .no (.seq (.seq .no (.block (.loop [5, 6] [(14, 26)] (.seq (.seq .no (.cond .no .no)) (.seq (.block .no) .no))))) (.seq .no .no))))))
theorem F21_eq (x0 : Value) (R : Value → World → Prop) (w0 : World) : F21 x0 R w0 = vc Tryd.prog (bodyOf Tryd.f21) a21 (retQ Tryd.prog Tryd.f21 R) (envOf 0 [x0]) w0 := by kernel_rfl
theorem F21_calls (x0 : Value) (R : Value → World → Prop) (w0 : World) (h : F21 x0 R w0) : CallK Tryd.prog 21 #[x0] R w0 :=
  calls_vc (c := bodyOf Tryd.f21) Tryd.func21 (by kernel_rfl) (by kernel_rfl) a21 (by kernel_rfl) (by kernel_rfl) [x0] (by rw [Tryd.ntmps21]; exact Nat.le_of_ble_eq_true rfl) w0 R ((F21_eq x0 R w0).mp h)

/-- canton/path.Text, its body as a formula. -/
def F22 (x0 : Value) (R : Value → World → Prop) (w0 : World) : Prop :=
  CallV Tryd.prog (.func (.func 38) #[] #[]) #[x0, (Go.Value.string { data := #[47] })] (@hid _ ⟨fun t4_1 w2 =>
  BinK Tryd.prog Go.BinOp.add 9 (Go.Value.string { data := #[47] }) t4_1 (@hid _ ⟨fun t5_3 w4 =>
  R t5_3 w4⟩) w2⟩) w0
def a22 : Ann := (.seq .no (.seq .no .no))
theorem F22_eq (x0 : Value) (R : Value → World → Prop) (w0 : World) : F22 x0 R w0 = vc Tryd.prog (bodyOf Tryd.f22) a22 (retQ Tryd.prog Tryd.f22 R) (envOf 0 [x0]) w0 := by kernel_rfl
theorem F22_calls (x0 : Value) (R : Value → World → Prop) (w0 : World) (h : F22 x0 R w0) : CallK Tryd.prog 22 #[x0] R w0 :=
  calls_vc (c := bodyOf Tryd.f22) Tryd.func22 (by kernel_rfl) (by kernel_rfl) a22 (by kernel_rfl) (by kernel_rfl) [x0] (by rw [Tryd.ntmps22]; exact Nat.le_of_ble_eq_true rfl) w0 R ((F22_eq x0 R w0).mp h)

/-- canton/path.Under, its body as a formula. -/
def F23 (x0 x1 : Value) (R : Value → World → Prop) (w0 : World) : Prop :=
  CallV Tryd.prog (.func (.func 9) #[] #[]) #[x0] (@hid _ ⟨fun t11_1 w2 =>
  ExtractK Tryd.prog t11_1 0 (@hid _ ⟨fun t12_3 w4 =>
  ExtractK Tryd.prog t11_1 1 (@hid _ ⟨fun t13_5 w6 =>
  CallV Tryd.prog (.func (.func 9) #[] #[]) #[x1] (@hid _ ⟨fun t16_7 w8 =>
  ExtractK Tryd.prog t16_7 0 (@hid _ ⟨fun t17_9 w10 =>
  ExtractK Tryd.prog t16_7 1 (@hid _ ⟨fun t18_11 w12 =>
  BinK Tryd.prog Go.BinOp.eql 24 t13_5 (Go.Value.int Go.IntKind.i64 0) (@hid _ ⟨fun t20_13 w14 =>
  GuardK t20_13 true (fun k w => k t18_11 w) (@hid _ ⟨fun t22_15 w16 =>
  GuardK t20_13 true (fun k w => BinK Tryd.prog Go.BinOp.eql 24 t22_15 (Go.Value.int Go.IntKind.i64 0) k w) (@hid _ ⟨fun t23_17 w18 =>
  PickK Tryd.prog t20_13 t23_17 (Go.Value.bool false) (@hid _ ⟨fun t24_19 w20 =>
  GuardK t24_19 true (fun k w => k t12_3 w) (@hid _ ⟨fun t26_21 w22 =>
  GuardK t24_19 true (fun k w => k t17_9 w) (@hid _ ⟨fun t27_23 w24 =>
  GuardK t24_19 true (fun k w => CallV Tryd.prog (.func (.func 39) #[] #[]) #[t26_21, t27_23] k w) (@hid _ ⟨fun t28_25 w26 =>
  GuardK t24_19 true (fun k w => k t17_9 w) (@hid _ ⟨fun t29_27 w28 =>
  GuardK t24_19 true (fun k w => BuiltinK Tryd.prog Go.Builtin.len #[23] 3 #[false] #[t29_27] k w) (@hid _ ⟨fun t30_29 w30 =>
  GuardK t24_19 true (fun k w => BinK Tryd.prog Go.BinOp.eql 3 t28_25 t30_29 k w) (@hid _ ⟨fun t31_31 w32 =>
  PickK Tryd.prog t24_19 t31_31 (Go.Value.bool false) (@hid _ ⟨fun t32_33 w34 =>
  R t32_33 w34⟩) w32⟩) w30⟩) w28⟩) w26⟩) w24⟩) w22⟩) w20⟩) w18⟩) w16⟩) w14⟩) w12⟩) w10⟩) w8⟩) w6⟩) w4⟩) w2⟩) w0
def a23 : Ann := (.seq .no (.seq .no (.seq .no (.seq .no .no))))
theorem F23_eq (x0 x1 : Value) (R : Value → World → Prop) (w0 : World) : F23 x0 x1 R w0 = vc Tryd.prog (bodyOf Tryd.f23) a23 (retQ Tryd.prog Tryd.f23 R) (envOf 0 [x0, x1]) w0 := by kernel_rfl
theorem F23_calls (x0 x1 : Value) (R : Value → World → Prop) (w0 : World) (h : F23 x0 x1 R w0) : CallK Tryd.prog 23 #[x0, x1] R w0 :=
  calls_vc (c := bodyOf Tryd.f23) Tryd.func23 (by kernel_rfl) (by kernel_rfl) a23 (by kernel_rfl) (by kernel_rfl) [x0, x1] (by rw [Tryd.ntmps23]; exact Nat.le_of_ble_eq_true rfl) w0 R ((F23_eq x0 x1 R w0).mp h)

/-- canton/cantonref7.Under, its body as a formula. -/
def F24 (x0 x1 : Value) (R : Value → World → Prop) (w0 : World) : Prop :=
  CallV Tryd.prog (.func (.func 10) #[] #[]) #[x0] (@hid _ ⟨fun t12_1 w2 =>
  ExtractK Tryd.prog t12_1 0 (@hid _ ⟨fun t13_3 w4 =>
  ExtractK Tryd.prog t12_1 1 (@hid _ ⟨fun t14_5 w6 =>
  CallV Tryd.prog (.func (.func 10) #[] #[]) #[x1] (@hid _ ⟨fun t17_7 w8 =>
  ExtractK Tryd.prog t17_7 0 (@hid _ ⟨fun t18_9 w10 =>
  ExtractK Tryd.prog t17_7 1 (@hid _ ⟨fun t19_11 w12 =>
  BinK Tryd.prog Go.BinOp.neq 3 t14_5 (Go.Value.int Go.IntKind.i64 0) (@hid _ ⟨fun t21_13 w14 =>
  GuardK t21_13 false (fun k w => k t19_11 w) (@hid _ ⟨fun t23_15 w16 =>
  GuardK t21_13 false (fun k w => BinK Tryd.prog Go.BinOp.neq 3 t23_15 (Go.Value.int Go.IntKind.i64 0) k w) (@hid _ ⟨fun t24_17 w18 =>
  PickK Tryd.prog t21_13 (Go.Value.bool true) t24_17 (@hid _ ⟨fun t25_19 w20 =>
  GuardK t25_19 false (fun k w => k t18_9 w) (@hid _ ⟨fun t27_21 w22 =>
  GuardK t25_19 false (fun k w => BuiltinK Tryd.prog Go.Builtin.len #[23] 3 #[false] #[t27_21] k w) (@hid _ ⟨fun t28_23 w24 =>
  GuardK t25_19 false (fun k w => k t13_3 w) (@hid _ ⟨fun t29_25 w26 =>
  GuardK t25_19 false (fun k w => BuiltinK Tryd.prog Go.Builtin.len #[23] 3 #[false] #[t29_25] k w) (@hid _ ⟨fun t30_27 w28 =>
  GuardK t25_19 false (fun k w => BinK Tryd.prog Go.BinOp.gtr 3 t28_23 t30_27 k w) (@hid _ ⟨fun t31_29 w30 =>
  PickK Tryd.prog t25_19 (Go.Value.bool true) t31_29 (@hid _ ⟨fun t32_31 w32 =>
  BrK t32_31 (@hid _ ⟨
   R (Go.Value.bool false) w32⟩) (@hid _ ⟨
   LoopK1 (Go.Value.int Go.IntKind.i64 0) w32 (@hid _ ⟨fun _ x9_33 w34 B35 =>
    BuiltinK Tryd.prog Go.Builtin.len #[23] 3 #[false] #[t18_9] (@hid _ ⟨fun t35_36 w37 =>
    BinK Tryd.prog Go.BinOp.lss 3 x9_33 t35_36 (@hid _ ⟨fun t36_38 w39 =>
    BrK t36_38 (@hid _ ⟨
     DrawK (@hid _ ⟨fun S40 w41 =>
     TakeS Tryd.prog S40 (Instr.indexAt 23 t13_3 x9_33) (@hid _ ⟨fun t41_42 =>
     TakeS Tryd.prog S40 (Instr.loadAt 9 t41_42) (@hid _ ⟨fun t42_43 =>
     TakeS Tryd.prog S40 (Instr.indexAt 23 t18_9 x9_33) (@hid _ ⟨fun t45_44 =>
     TakeS Tryd.prog S40 (Instr.loadAt 9 t45_44) (@hid _ ⟨fun t46_45 =>
     BinT Tryd.prog S40 Go.BinOp.neq 9 t42_43 t46_45 (@hid _ ⟨fun t47_46 =>
     BrK t47_46 (@hid _ ⟨
      R (Go.Value.bool false) w41⟩) (@hid _ ⟨
      BinK Tryd.prog Go.BinOp.add 3 x9_33 (Go.Value.int Go.IntKind.i64 1) (@hid _ ⟨fun t38_47 w48 =>
      B35 t38_47 w48⟩) w41⟩)⟩)⟩)⟩)⟩)⟩)⟩) w39⟩) (@hid _ ⟨
     R (Go.Value.bool true) w39⟩)⟩) w37⟩) w34⟩)⟩)⟩) w30⟩) w28⟩) w26⟩) w24⟩) w22⟩) w20⟩) w18⟩) w16⟩) w14⟩) w12⟩) w10⟩) w8⟩) w6⟩) w4⟩) w2⟩) w0
def a24 : Ann := (.seq .no (.seq .no (.seq .no (.seq (.seq .no (.cond (.seq .no .no) .no)) (.seq (.seq .no (.block (.loop [9] [(4, 4), (33, 47)] (.seq (.seq .no (.cond .no .no)) (.seq (.block (.seq (.plan (.take 0 (.take 1 (.take 2 (.take 3 (.take 4 (.take 5 (.take 6 (.take 7 (.take 8 .done)))))))))) (.cond (.seq .no .no) .no))) .no))))) (.seq .no .no))))))
theorem F24_eq (x0 x1 : Value) (R : Value → World → Prop) (w0 : World) : F24 x0 x1 R w0 = vc Tryd.prog (bodyOf Tryd.f24) a24 (retQ Tryd.prog Tryd.f24 R) (envOf 0 [x0, x1]) w0 := by kernel_rfl
theorem F24_calls (x0 x1 : Value) (R : Value → World → Prop) (w0 : World) (h : F24 x0 x1 R w0) : CallK Tryd.prog 24 #[x0, x1] R w0 :=
  calls_vc (c := bodyOf Tryd.f24) Tryd.func24 (by kernel_rfl) (by kernel_rfl) a24 (by kernel_rfl) (by kernel_rfl) [x0, x1] (by rw [Tryd.ntmps24]; exact Nat.le_of_ble_eq_true rfl) w0 R ((F24_eq x0 x1 R w0).mp h)

/-- canton/path.Common, its body as a formula. -/
def F25 (x0 x1 : Value) (R : Value → World → Prop) (w0 : World) : Prop :=
  CallV Tryd.prog (.func (.func 40) #[] #[]) #[x0] (@hid _ ⟨fun t10_1 w2 =>
  UnK Tryd.prog Go.UnOp.not t10_1 (@hid _ ⟨fun t11_3 w4 =>
  GuardK t11_3 false (fun k w => k x1 w) (@hid _ ⟨fun t13_5 w6 =>
  GuardK t11_3 false (fun k w => CallV Tryd.prog (.func (.func 40) #[] #[]) #[t13_5] k w) (@hid _ ⟨fun t14_7 w8 =>
  GuardK t11_3 false (fun k w => UnK Tryd.prog Go.UnOp.not t14_7 k w) (@hid _ ⟨fun t15_9 w10 =>
  PickK Tryd.prog t11_3 (Go.Value.bool true) t15_9 (@hid _ ⟨fun t16_11 w12 =>
  BrK t16_11 (@hid _ ⟨
   R (Go.Value.string { data := #[] }) w12⟩) (@hid _ ⟨
   CallV Tryd.prog (.func (.func 9) #[] #[]) #[x0] (@hid _ ⟨fun t19_13 w14 =>
   ExtractK Tryd.prog t19_13 0 (@hid _ ⟨fun t20_15 w16 =>
   ExtractK Tryd.prog t19_13 1 (@hid _ ⟨fun t21_17 w18 =>
   CallV Tryd.prog (.func (.func 9) #[] #[]) #[x1] (@hid _ ⟨fun t24_19 w20 =>
   ExtractK Tryd.prog t24_19 0 (@hid _ ⟨fun t25_21 w22 =>
   ExtractK Tryd.prog t24_19 1 (@hid _ ⟨fun t26_23 w24 =>
   CallV Tryd.prog (.func (.func 39) #[] #[]) #[t20_15, t25_21] (@hid _ ⟨fun t30_25 w26 =>
   SliceK Tryd.prog 23 t20_15 none (some t30_25) none (@hid _ ⟨fun t31_27 w28 =>
   CallV Tryd.prog (.func (.func 22) #[] #[]) #[t31_27] (@hid _ ⟨fun t32_29 w30 =>
   R t32_29 w30⟩) w28⟩) w26⟩) w24⟩) w22⟩) w20⟩) w18⟩) w16⟩) w14⟩) w12⟩)⟩) w10⟩) w8⟩) w6⟩) w4⟩) w2⟩) w0
def a25 : Ann := (.seq .no (.seq (.seq .no (.cond (.seq .no .no) .no)) (.seq .no (.seq .no (.seq .no .no)))))
theorem F25_eq (x0 x1 : Value) (R : Value → World → Prop) (w0 : World) : F25 x0 x1 R w0 = vc Tryd.prog (bodyOf Tryd.f25) a25 (retQ Tryd.prog Tryd.f25 R) (envOf 0 [x0, x1]) w0 := by kernel_rfl
theorem F25_calls (x0 x1 : Value) (R : Value → World → Prop) (w0 : World) (h : F25 x0 x1 R w0) : CallK Tryd.prog 25 #[x0, x1] R w0 :=
  calls_vc (c := bodyOf Tryd.f25) Tryd.func25 (by kernel_rfl) (by kernel_rfl) a25 (by kernel_rfl) (by kernel_rfl) [x0, x1] (by rw [Tryd.ntmps25]; exact Nat.le_of_ble_eq_true rfl) w0 R ((F25_eq x0 x1 R w0).mp h)

/-- canton/cantonref7.Common, its body as a formula. -/
def F26 (x0 x1 : Value) (R : Value → World → Prop) (w0 : World) : Prop :=
  CallV Tryd.prog (.func (.func 10) #[] #[]) #[x0] (@hid _ ⟨fun t12_1 w2 =>
  ExtractK Tryd.prog t12_1 0 (@hid _ ⟨fun t13_3 w4 =>
  ExtractK Tryd.prog t12_1 1 (@hid _ ⟨fun t14_5 w6 =>
  CallV Tryd.prog (.func (.func 10) #[] #[]) #[x1] (@hid _ ⟨fun t17_7 w8 =>
  ExtractK Tryd.prog t17_7 0 (@hid _ ⟨fun t18_9 w10 =>
  ExtractK Tryd.prog t17_7 1 (@hid _ ⟨fun t19_11 w12 =>
  BinK Tryd.prog Go.BinOp.neq 3 t14_5 (Go.Value.int Go.IntKind.i64 0) (@hid _ ⟨fun t21_13 w14 =>
  GuardK t21_13 false (fun k w => k t19_11 w) (@hid _ ⟨fun t23_15 w16 =>
  GuardK t21_13 false (fun k w => BinK Tryd.prog Go.BinOp.neq 3 t23_15 (Go.Value.int Go.IntKind.i64 0) k w) (@hid _ ⟨fun t24_17 w18 =>
  PickK Tryd.prog t21_13 (Go.Value.bool true) t24_17 (@hid _ ⟨fun t25_19 w20 =>
  BrK t25_19 (@hid _ ⟨
   R (Go.Value.string { data := #[] }) w20⟩) (@hid _ ⟨
   LoopK1 (Go.Value.int Go.IntKind.i64 0) w20 (@hid _ ⟨fun _ x9_21 w22 B23 =>
    DrawK (@hid _ ⟨fun S24 w25 =>
    TakeO Tryd.prog S24 (builtin Go.Builtin.len #[23] 3 #[false] #[t13_3]) (@hid _ ⟨fun t28_26 =>
    BinT Tryd.prog S24 Go.BinOp.lss 3 x9_21 t28_26 (@hid _ ⟨fun t29_27 =>
    TakeG t29_27 true (fun k => k x9_21) (@hid _ ⟨fun t31_28 =>
    TakeG t29_27 true (fun k => k t18_9) (@hid _ ⟨fun t32_29 =>
    TakeG t29_27 true (fun k => TakeO Tryd.prog S24 (builtin Go.Builtin.len #[23] 3 #[false] #[t32_29]) k) (@hid _ ⟨fun t33_30 =>
    TakeG t29_27 true (fun k => BinT Tryd.prog S24 Go.BinOp.lss 3 t31_28 t33_30 k) (@hid _ ⟨fun t34_31 =>
    PickT t29_27 t34_31 (Go.Value.bool false) (@hid _ ⟨fun t35_32 =>
    TakeG t35_32 true (fun k => k t13_3) (@hid _ ⟨fun t37_33 =>
    TakeG t35_32 true (fun k => k x9_21) (@hid _ ⟨fun t38_34 =>
    TakeG t35_32 true (fun k => TakeS Tryd.prog S24 (Instr.indexAt 23 t37_33 t38_34) k) (@hid _ ⟨fun t39_35 =>
    TakeG t35_32 true (fun k => TakeS Tryd.prog S24 (Instr.loadAt 9 t39_35) k) (@hid _ ⟨fun t40_36 =>
    TakeG t35_32 true (fun k => k t18_9) (@hid _ ⟨fun t41_37 =>
    TakeG t35_32 true (fun k => k x9_21) (@hid _ ⟨fun t42_38 =>
    TakeG t35_32 true (fun k => TakeS Tryd.prog S24 (Instr.indexAt 23 t41_37 t42_38) k) (@hid _ ⟨fun t43_39 =>
    TakeG t35_32 true (fun k => TakeS Tryd.prog S24 (Instr.loadAt 9 t43_39) k) (@hid _ ⟨fun t44_40 =>
    TakeG t35_32 true (fun k => BinT Tryd.prog S24 Go.BinOp.eql 9 t40_36 t44_40 k) (@hid _ ⟨fun t45_41 =>
    PickT t35_32 t45_41 (Go.Value.bool false) (@hid _ ⟨fun t46_42 =>
    BrK t46_42 (@hid _ ⟨
     BinK Tryd.prog Go.BinOp.add 3 x9_21 (Go.Value.int Go.IntKind.i64 1) (@hid _ ⟨fun t48_43 w44 =>
     B23 t48_43 w44⟩) w25⟩) (@hid _ ⟨
     SliceK Tryd.prog 23 t13_3 none (some x9_21) none (@hid _ ⟨fun t51_45 w46 =>
     CallV Tryd.prog (.func (.func 30) #[] #[]) #[t51_45] (@hid _ ⟨fun t52_47 w48 =>
     R t52_47 w48⟩) w46⟩) w25⟩)⟩)⟩)⟩)⟩)⟩)⟩)⟩)⟩)⟩)⟩)⟩)⟩)⟩)⟩)⟩)⟩)⟩)⟩) w22⟩)⟩)⟩) w18⟩) w16⟩) w14⟩) w12⟩) w10⟩) w8⟩) w6⟩) w4⟩) w2⟩) w0
def a26 : Ann := (.seq .no (.seq .no (.seq .no (.seq (.seq .no (.cond (.seq .no .no) .no)) (.seq .no (.seq (.block (.loop [9] [(26, 48)] (.seq (.seq (.plan (.take 0 (.take 1 (.take 2 (.take 3 (.take 4 (.take 5 (.take 6 (.take 7 (.take 8 (.take 9 (.take 10 (.take 11 (.take 12 (.take 13 (.take 14 (.take 15 (.take 16 (.take 17 (.take 18 (.take 19 (.take 20 .done)))))))))))))))))))))) (.cond .no .no)) (.block .no)))) (.seq .no .no)))))))
theorem F26_eq (x0 x1 : Value) (R : Value → World → Prop) (w0 : World) : F26 x0 x1 R w0 = vc Tryd.prog (bodyOf Tryd.f26) a26 (retQ Tryd.prog Tryd.f26 R) (envOf 0 [x0, x1]) w0 := by kernel_rfl
theorem F26_calls (x0 x1 : Value) (R : Value → World → Prop) (w0 : World) (h : F26 x0 x1 R w0) : CallK Tryd.prog 26 #[x0, x1] R w0 :=
  calls_vc (c := bodyOf Tryd.f26) Tryd.func26 (by kernel_rfl) (by kernel_rfl) a26 (by kernel_rfl) (by kernel_rfl) [x0, x1] (by rw [Tryd.ntmps26]; exact Nat.le_of_ble_eq_true rfl) w0 R ((F26_eq x0 x1 R w0).mp h)

/-- canton/path.Match, its body as a formula. -/
def F27 (x0 x1 : Value) (R : Value → World → Prop) (w0 : World) : Prop :=
  CallV Tryd.prog (.func (.func 41) #[] #[]) #[x0] (@hid _ ⟨fun t14_1 w2 =>
  ExtractK Tryd.prog t14_1 0 (@hid _ ⟨fun t15_3 w4 =>
  ExtractK Tryd.prog t14_1 1 (@hid _ ⟨fun t16_5 w6 =>
  ExtractK Tryd.prog t14_1 2 (@hid _ ⟨fun t17_7 w8 =>
  CallV Tryd.prog (.func (.func 9) #[] #[]) #[x1] (@hid _ ⟨fun t20_9 w10 =>
  ExtractK Tryd.prog t20_9 0 (@hid _ ⟨fun t21_11 w12 =>
  ExtractK Tryd.prog t20_9 1 (@hid _ ⟨fun t22_13 w14 =>
  UnK Tryd.prog Go.UnOp.not t17_7 (@hid _ ⟨fun t24_15 w16 =>
  GuardK t24_15 false (fun k w => k t22_13 w) (@hid _ ⟨fun t26_17 w18 =>
  GuardK t24_15 false (fun k w => BinK Tryd.prog Go.BinOp.neq 24 t26_17 (Go.Value.int Go.IntKind.i64 0) k w) (@hid _ ⟨fun t27_19 w20 =>
  PickK Tryd.prog t24_15 (Go.Value.bool true) t27_19 (@hid _ ⟨fun t28_21 w22 =>
  GuardK t28_21 false (fun k w => k t21_11 w) (@hid _ ⟨fun t30_23 w24 =>
  GuardK t28_21 false (fun k w => BuiltinK Tryd.prog Go.Builtin.len #[23] 3 #[false] #[t30_23] k w) (@hid _ ⟨fun t31_25 w26 =>
  GuardK t28_21 false (fun k w => k t15_3 w) (@hid _ ⟨fun t32_27 w28 =>
  GuardK t28_21 false (fun k w => BuiltinK Tryd.prog Go.Builtin.len #[23] 3 #[false] #[t32_27] k w) (@hid _ ⟨fun t33_29 w30 =>
  GuardK t28_21 false (fun k w => BinK Tryd.prog Go.BinOp.lss 3 t31_25 t33_29 k w) (@hid _ ⟨fun t34_31 w32 =>
  PickK Tryd.prog t28_21 (Go.Value.bool true) t34_31 (@hid _ ⟨fun t35_33 w34 =>
  GuardK t35_33 false (fun k w => k t21_11 w) (@hid _ ⟨fun t37_35 w36 =>
  GuardK t35_33 false (fun k w => BuiltinK Tryd.prog Go.Builtin.len #[23] 3 #[false] #[t37_35] k w) (@hid _ ⟨fun t38_37 w38 =>
  GuardK t35_33 false (fun k w => k t15_3 w) (@hid _ ⟨fun t39_39 w40 =>
  GuardK t35_33 false (fun k w => BuiltinK Tryd.prog Go.Builtin.len #[23] 3 #[false] #[t39_39] k w) (@hid _ ⟨fun t40_41 w42 =>
  GuardK t35_33 false (fun k w => BinK Tryd.prog Go.BinOp.gtr 3 t38_37 t40_41 k w) (@hid _ ⟨fun t41_43 w44 =>
  GuardK t35_33 false (fun k w => k t41_43 w) (@hid _ ⟨fun t42_45 w46 =>
  GuardK t42_45 true (fun k w => k t16_5 w) (@hid _ ⟨fun t43_47 w48 =>
  GuardK t42_45 true (fun k w => UnK Tryd.prog Go.UnOp.not t43_47 k w) (@hid _ ⟨fun t44_49 w50 =>
  GuardK t35_33 false (fun k w => PickK Tryd.prog t42_45 t44_49 (Go.Value.bool false) k w) (@hid _ ⟨fun t45_51 w52 =>
  PickK Tryd.prog t35_33 (Go.Value.bool true) t45_51 (@hid _ ⟨fun t46_53 w54 =>
  BrK t46_53 (@hid _ ⟨
   R (Go.Value.bool false) w54⟩) (@hid _ ⟨
   BuiltinK Tryd.prog Go.Builtin.len #[23] 3 #[false] #[t15_3] (@hid _ ⟨fun t48_55 w56 =>
   LoopK1 (Go.Value.int Go.IntKind.i64 0) w56 (@hid _ ⟨fun _ x49_57 w58 B59 =>
    BinK Tryd.prog Go.BinOp.lss 3 x49_57 t48_55 (@hid _ ⟨fun t50_60 w61 =>
    BrK t50_60 (@hid _ ⟨
     IndexAtK Tryd.prog 23 t15_3 x49_57 (@hid _ ⟨fun t52_62 w63 =>
     LoadK Tryd.prog 9 t52_62 (@hid _ ⟨fun t53_64 w65 =>
     BinK Tryd.prog Go.BinOp.neq 9 t53_64 (Go.Value.string { data := #[42] }) (@hid _ ⟨fun t55_66 w67 =>
     GuardK t55_66 true (fun k w => k t53_64 w) (@hid _ ⟨fun t57_68 w69 =>
     GuardK t55_66 true (fun k w => k t21_11 w) (@hid _ ⟨fun t58_70 w71 =>
     GuardK t55_66 true (fun k w => k x49_57 w) (@hid _ ⟨fun t59_72 w73 =>
     GuardK t55_66 true (fun k w => IndexAtK Tryd.prog 23 t58_70 t59_72 k w) (@hid _ ⟨fun t60_74 w75 =>
     GuardK t55_66 true (fun k w => LoadK Tryd.prog 9 t60_74 k w) (@hid _ ⟨fun t61_76 w77 =>
     GuardK t55_66 true (fun k w => BinK Tryd.prog Go.BinOp.neq 9 t57_68 t61_76 k w) (@hid _ ⟨fun t62_78 w79 =>
     PickK Tryd.prog t55_66 t62_78 (Go.Value.bool false) (@hid _ ⟨fun t63_80 w81 =>
     BrK t63_80 (@hid _ ⟨
      R (Go.Value.bool false) w81⟩) (@hid _ ⟨
      BinK Tryd.prog Go.BinOp.add 3 x49_57 (Go.Value.int Go.IntKind.i64 1) (@hid _ ⟨fun t64_82 w83 =>
      B59 t64_82 w83⟩) w81⟩)⟩) w79⟩) w77⟩) w75⟩) w73⟩) w71⟩) w69⟩) w67⟩) w65⟩) w63⟩) w61⟩) (@hid _ ⟨
     R (Go.Value.bool true) w61⟩)⟩) w58⟩)⟩) w54⟩)⟩) w52⟩) w50⟩) w48⟩) w46⟩) w44⟩) w42⟩) w40⟩) w38⟩) w36⟩) w34⟩) w32⟩) w30⟩) w28⟩) w26⟩) w24⟩) w22⟩) w20⟩) w18⟩) w16⟩) w14⟩) w12⟩) w10⟩) w8⟩) w6⟩) w4⟩) w2⟩) w0
def a27 : Ann := (.seq .no (.seq .no (.seq .no (.seq (.seq .no (.cond (.seq .no .no) .no)) (.seq (.seq .no (.block (.loop [49] [(4, 4), (10, 11), (50, 64)] (.seq .no (.seq (.cond .no .no) (.seq (.block (.seq .no (.seq .no (.cond (.seq .no .no) .no)))) .no)))))) (.seq .no .no))))))
theorem F27_eq (x0 x1 : Value) (R : Value → World → Prop) (w0 : World) : F27 x0 x1 R w0 = vc Tryd.prog (bodyOf Tryd.f27) a27 (retQ Tryd.prog Tryd.f27 R) (envOf 0 [x0, x1]) w0 := by kernel_rfl
theorem F27_calls (x0 x1 : Value) (R : Value → World → Prop) (w0 : World) (h : F27 x0 x1 R w0) : CallK Tryd.prog 27 #[x0, x1] R w0 :=
  calls_vc (c := bodyOf Tryd.f27) Tryd.func27 (by kernel_rfl) (by kernel_rfl) a27 (by kernel_rfl) (by kernel_rfl) [x0, x1] (by rw [Tryd.ntmps27]; exact Nat.le_of_ble_eq_true rfl) w0 R ((F27_eq x0 x1 R w0).mp h)

/-- canton/cantonref7.Match, its body as a formula. -/
def F28 (x0 x1 : Value) (R : Value → World → Prop) (w0 : World) : Prop :=
  CallV Tryd.prog (.func (.func 10) #[] #[]) #[x1] (@hid _ ⟨fun t13_1 w2 =>
  ExtractK Tryd.prog t13_1 0 (@hid _ ⟨fun t14_3 w4 =>
  ExtractK Tryd.prog t13_1 1 (@hid _ ⟨fun t15_5 w6 =>
  BinK Tryd.prog Go.BinOp.neq 3 t15_5 (Go.Value.int Go.IntKind.i64 0) (@hid _ ⟨fun t17_7 w8 =>
  GuardK t17_7 false (fun k w => k x0 w) (@hid _ ⟨fun t19_9 w10 =>
  GuardK t17_7 false (fun k w => CallV Tryd.prog (.func (.func 42) #[] #[]) #[t19_9] k w) (@hid _ ⟨fun t20_11 w12 =>
  GuardK t17_7 false (fun k w => UnK Tryd.prog Go.UnOp.not t20_11 k w) (@hid _ ⟨fun t21_13 w14 =>
  PickK Tryd.prog t17_7 (Go.Value.bool true) t21_13 (@hid _ ⟨fun t22_15 w16 =>
  BrK t22_15 (@hid _ ⟨
   R (Go.Value.bool false) w16⟩) (@hid _ ⟨
   CallV Tryd.prog (.func (.func 35) #[] #[]) #[x0] (@hid _ ⟨fun t25_17 w18 =>
   ExtractK Tryd.prog t25_17 0 (@hid _ ⟨fun t26_19 w20 =>
   ExtractK Tryd.prog t25_17 1 (@hid _ ⟨fun t27_21 w22 =>
   BuiltinK Tryd.prog Go.Builtin.len #[23] 3 #[false] #[t26_19] (@hid _ ⟨fun t29_23 w24 =>
   BinK Tryd.prog Go.BinOp.gtr 3 t29_23 (Go.Value.int Go.IntKind.i64 0) (@hid _ ⟨fun t30_25 w26 =>
   GuardK t30_25 true (fun k w => k t26_19 w) (@hid _ ⟨fun t32_27 w28 =>
   GuardK t30_25 true (fun k w => k t26_19 w) (@hid _ ⟨fun t33_29 w30 =>
   GuardK t30_25 true (fun k w => BuiltinK Tryd.prog Go.Builtin.len #[23] 3 #[false] #[t33_29] k w) (@hid _ ⟨fun t34_31 w32 =>
   GuardK t30_25 true (fun k w => BinK Tryd.prog Go.BinOp.sub 3 t34_31 (Go.Value.int Go.IntKind.i64 1) k w) (@hid _ ⟨fun t35_33 w34 =>
   GuardK t30_25 true (fun k w => IndexAtK Tryd.prog 23 t32_27 t35_33 k w) (@hid _ ⟨fun t36_35 w36 =>
   GuardK t30_25 true (fun k w => LoadK Tryd.prog 9 t36_35 k w) (@hid _ ⟨fun t37_37 w38 =>
   GuardK t30_25 true (fun k w => BinK Tryd.prog Go.BinOp.eql 9 t37_37 (Go.Value.string { data := #[42, 42] }) k w) (@hid _ ⟨fun t38_39 w40 =>
   PickK Tryd.prog t30_25 t38_39 (Go.Value.bool false) (@hid _ ⟨fun t39_41 w42 =>
   CutK1 (@hid _ ⟨fun R43 =>
    BrK t39_41 (@hid _ ⟨
     BuiltinK Tryd.prog Go.Builtin.len #[23] 3 #[false] #[t26_19] (@hid _ ⟨fun t43_46 w47 =>
     BinK Tryd.prog Go.BinOp.sub 3 t43_46 (Go.Value.int Go.IntKind.i64 1) (@hid _ ⟨fun t44_48 w49 =>
     SliceK Tryd.prog 23 t26_19 none (some t44_48) none (@hid _ ⟨fun t45_50 w51 =>
     R43 t45_50 w51⟩) w49⟩) w47⟩) w42⟩) (@hid _ ⟨
     R43 t26_19 w42⟩)⟩)
   (@hid _ ⟨fun _ x7_44 w45 =>
    BuiltinK Tryd.prog Go.Builtin.len #[23] 3 #[false] #[t14_3] (@hid _ ⟨fun t47_52 w53 =>
    BuiltinK Tryd.prog Go.Builtin.len #[23] 3 #[false] #[x7_44] (@hid _ ⟨fun t49_54 w55 =>
    BinK Tryd.prog Go.BinOp.lss 3 t47_52 t49_54 (@hid _ ⟨fun t50_56 w57 =>
    GuardK t50_56 false (fun k w => k t39_41 w) (@hid _ ⟨fun t52_58 w59 =>
    GuardK t50_56 false (fun k w => UnK Tryd.prog Go.UnOp.not t52_58 k w) (@hid _ ⟨fun t53_60 w61 =>
    GuardK t50_56 false (fun k w => k t53_60 w) (@hid _ ⟨fun t54_62 w63 =>
    GuardK t54_62 true (fun k w => k t14_3 w) (@hid _ ⟨fun t55_64 w65 =>
    GuardK t54_62 true (fun k w => BuiltinK Tryd.prog Go.Builtin.len #[23] 3 #[false] #[t55_64] k w) (@hid _ ⟨fun t56_66 w67 =>
    GuardK t54_62 true (fun k w => k x7_44 w) (@hid _ ⟨fun t57_68 w69 =>
    GuardK t54_62 true (fun k w => BuiltinK Tryd.prog Go.Builtin.len #[23] 3 #[false] #[t57_68] k w) (@hid _ ⟨fun t58_70 w71 =>
    GuardK t54_62 true (fun k w => BinK Tryd.prog Go.BinOp.gtr 3 t56_66 t58_70 k w) (@hid _ ⟨fun t59_72 w73 =>
    GuardK t50_56 false (fun k w => PickK Tryd.prog t54_62 t59_72 (Go.Value.bool false) k w) (@hid _ ⟨fun t60_74 w75 =>
    PickK Tryd.prog t50_56 (Go.Value.bool true) t60_74 (@hid _ ⟨fun t61_76 w77 =>
    BrK t61_76 (@hid _ ⟨
     R (Go.Value.bool false) w77⟩) (@hid _ ⟨
     LoopK1 (Go.Value.int Go.IntKind.i64 0) w77 (@hid _ ⟨fun _ x10_78 w79 B80 =>
      BuiltinK Tryd.prog Go.Builtin.len #[23] 3 #[false] #[x7_44] (@hid _ ⟨fun t64_81 w82 =>
      BinK Tryd.prog Go.BinOp.lss 3 x10_78 t64_81 (@hid _ ⟨fun t65_83 w84 =>
      BrK t65_83 (@hid _ ⟨
       DrawK (@hid _ ⟨fun S85 w86 =>
       TakeS Tryd.prog S85 (Instr.indexAt 23 x7_44 x10_78) (@hid _ ⟨fun t70_87 =>
       TakeS Tryd.prog S85 (Instr.loadAt 9 t70_87) (@hid _ ⟨fun t71_88 =>
       BinT Tryd.prog S85 Go.BinOp.neq 9 t71_88 (Go.Value.string { data := #[42] }) (@hid _ ⟨fun t72_89 =>
       TakeG t72_89 true (fun k => k x7_44) (@hid _ ⟨fun t74_90 =>
       TakeG t72_89 true (fun k => k x10_78) (@hid _ ⟨fun t75_91 =>
       TakeG t72_89 true (fun k => TakeS Tryd.prog S85 (Instr.indexAt 23 t74_90 t75_91) k) (@hid _ ⟨fun t76_92 =>
       TakeG t72_89 true (fun k => TakeS Tryd.prog S85 (Instr.loadAt 9 t76_92) k) (@hid _ ⟨fun t77_93 =>
       TakeG t72_89 true (fun k => k t14_3) (@hid _ ⟨fun t78_94 =>
       TakeG t72_89 true (fun k => k x10_78) (@hid _ ⟨fun t79_95 =>
       TakeG t72_89 true (fun k => TakeS Tryd.prog S85 (Instr.indexAt 23 t78_94 t79_95) k) (@hid _ ⟨fun t80_96 =>
       TakeG t72_89 true (fun k => TakeS Tryd.prog S85 (Instr.loadAt 9 t80_96) k) (@hid _ ⟨fun t81_97 =>
       TakeG t72_89 true (fun k => BinT Tryd.prog S85 Go.BinOp.neq 9 t77_93 t81_97 k) (@hid _ ⟨fun t82_98 =>
       PickT t72_89 t82_98 (Go.Value.bool false) (@hid _ ⟨fun t83_99 =>
       BrK t83_99 (@hid _ ⟨
        R (Go.Value.bool false) w86⟩) (@hid _ ⟨
        BinK Tryd.prog Go.BinOp.add 3 x10_78 (Go.Value.int Go.IntKind.i64 1) (@hid _ ⟨fun t67_100 w101 =>
        B80 t67_100 w101⟩) w86⟩)⟩)⟩)⟩)⟩)⟩)⟩)⟩)⟩)⟩)⟩)⟩)⟩)⟩)⟩) w84⟩) (@hid _ ⟨
       R (Go.Value.bool true) w84⟩)⟩) w82⟩) w79⟩)⟩)⟩) w75⟩) w73⟩) w71⟩) w69⟩) w67⟩) w65⟩) w63⟩) w61⟩) w59⟩) w57⟩) w55⟩) w53⟩) w45⟩)⟩) w40⟩) w38⟩) w36⟩) w34⟩) w32⟩) w30⟩) w28⟩) w26⟩) w24⟩) w22⟩) w20⟩) w18⟩) w16⟩)⟩) w14⟩) w12⟩) w10⟩) w8⟩) w6⟩) w4⟩) w2⟩) w0
def a28 : Ann := (.seq .no (.seq .no (.seq (.seq .no (.cond (.seq .no .no) .no)) (.seq .no (.seq .no (.cut [7] [(40, 45)] (.seq .no (.cond .no .no)) (.seq (.seq .no (.cond (.seq .no .no) .no)) (.seq (.seq .no (.block (.loop [10] [(4, 4), (62, 83)] (.seq (.seq .no (.cond .no .no)) (.seq (.block (.seq (.plan (.take 0 (.take 1 (.take 2 (.take 3 (.take 4 (.take 5 (.take 6 (.take 7 (.take 8 (.take 9 (.take 10 (.take 11 (.take 12 (.take 13 (.take 14 (.take 15 .done))))))))))))))))) (.cond (.seq .no .no) .no))) .no))))) (.seq .no .no)))))))))
theorem F28_eq (x0 x1 : Value) (R : Value → World → Prop) (w0 : World) : F28 x0 x1 R w0 = vc Tryd.prog (bodyOf Tryd.f28) a28 (retQ Tryd.prog Tryd.f28 R) (envOf 0 [x0, x1]) w0 := by kernel_rfl
theorem F28_calls (x0 x1 : Value) (R : Value → World → Prop) (w0 : World) (h : F28 x0 x1 R w0) : CallK Tryd.prog 28 #[x0, x1] R w0 :=
  calls_vc (c := bodyOf Tryd.f28) Tryd.func28 (by kernel_rfl) (by kernel_rfl) a28 (by kernel_rfl) (by kernel_rfl) [x0, x1] (by rw [Tryd.ntmps28]; exact Nat.le_of_ble_eq_true rfl) w0 R ((F28_eq x0 x1 R w0).mp h)

/-- canton/cantonref7.Path, its body as a formula. -/
def F29 (x0 : Value) (R : Value → World → Prop) (w0 : World) : Prop :=
  CallV Tryd.prog (.func (.func 10) #[] #[]) #[x0] (@hid _ ⟨fun t7_1 w2 =>
  ExtractK Tryd.prog t7_1 0 (@hid _ ⟨fun t8_3 w4 =>
  ExtractK Tryd.prog t7_1 1 (@hid _ ⟨fun t9_5 w6 =>
  BinK Tryd.prog Go.BinOp.eql 3 t9_5 (Go.Value.int Go.IntKind.i64 0) (@hid _ ⟨fun t11_7 w8 =>
  R t11_7 w8⟩) w6⟩) w4⟩) w2⟩) w0
def a29 : Ann := (.seq .no (.seq .no (.seq .no .no)))
theorem F29_eq (x0 : Value) (R : Value → World → Prop) (w0 : World) : F29 x0 R w0 = vc Tryd.prog (bodyOf Tryd.f29) a29 (retQ Tryd.prog Tryd.f29 R) (envOf 0 [x0]) w0 := by kernel_rfl
theorem F29_calls (x0 : Value) (R : Value → World → Prop) (w0 : World) (h : F29 x0 R w0) : CallK Tryd.prog 29 #[x0] R w0 :=
  calls_vc (c := bodyOf Tryd.f29) Tryd.func29 (by kernel_rfl) (by kernel_rfl) a29 (by kernel_rfl) (by kernel_rfl) [x0] (by rw [Tryd.ntmps29]; exact Nat.le_of_ble_eq_true rfl) w0 R ((F29_eq x0 R w0).mp h)

/-- canton/cantonref7.PathText, its body as a formula. -/
def F30 (x0 : Value) (R : Value → World → Prop) (w0 : World) : Prop :=
  LoopK2 (Go.Value.string { data := #[] }) (Go.Value.int Go.IntKind.i64 0) w0 (@hid _ ⟨fun _ x3_1 x4_2 w3 B4 =>
   BuiltinK Tryd.prog Go.Builtin.len #[23] 3 #[false] #[x0] (@hid _ ⟨fun t7_5 w6 =>
   BinK Tryd.prog Go.BinOp.lss 3 x4_2 t7_5 (@hid _ ⟨fun t8_7 w8 =>
   BrK t8_7 (@hid _ ⟨
    BinK Tryd.prog Go.BinOp.add 9 x3_1 (Go.Value.string { data := #[47] }) (@hid _ ⟨fun t12_9 w10 =>
    IndexAtK Tryd.prog 23 x0 x4_2 (@hid _ ⟨fun t15_11 w12 =>
    LoadK Tryd.prog 9 t15_11 (@hid _ ⟨fun t16_13 w14 =>
    BinK Tryd.prog Go.BinOp.add 9 t12_9 t16_13 (@hid _ ⟨fun t17_15 w16 =>
    BinK Tryd.prog Go.BinOp.add 3 x4_2 (Go.Value.int Go.IntKind.i64 1) (@hid _ ⟨fun t10_17 w18 =>
    B4 t17_15 t10_17 w18⟩) w16⟩) w14⟩) w12⟩) w10⟩) w8⟩) (@hid _ ⟨
    BinK Tryd.prog Go.BinOp.eql 9 x3_1 (Go.Value.string { data := #[] }) (@hid _ ⟨fun t19_19 w20 =>
    BrK t19_19 (@hid _ ⟨
     R (Go.Value.string { data := #[47] }) w20⟩) (@hid _ ⟨
     R x3_1 w20⟩)⟩) w8⟩)⟩) w6⟩) w3⟩)
def a30 : Ann := (.seq .no (.seq .no (.seq (.seq .no (.block (.loop [3, 4] [(5, 17)] (.seq (.seq .no (.cond .no .no)) (.seq (.block .no) .no))))) (.seq (.seq .no (.cond (.seq .no .no) .no)) (.seq .no .no)))))
theorem F30_eq (x0 : Value) (R : Value → World → Prop) (w0 : World) : F30 x0 R w0 = vc Tryd.prog (bodyOf Tryd.f30) a30 (retQ Tryd.prog Tryd.f30 R) (envOf 0 [x0]) w0 := by kernel_rfl
theorem F30_calls (x0 : Value) (R : Value → World → Prop) (w0 : World) (h : F30 x0 R w0) : CallK Tryd.prog 30 #[x0] R w0 :=
  calls_vc (c := bodyOf Tryd.f30) Tryd.func30 (by kernel_rfl) (by kernel_rfl) a30 (by kernel_rfl) (by kernel_rfl) [x0] (by rw [Tryd.ntmps30]; exact Nat.le_of_ble_eq_true rfl) w0 R ((F30_eq x0 R w0).mp h)

/-- canton/path.Cut, its body as a formula. -/
def F31 (x0 : Value) (R : Value → World → Prop) (w0 : World) : Prop :=
  CallV Tryd.prog (.func (.func 43) #[] #[]) #[x0, (Go.Value.string { data := #[47] })] (@hid _ ⟨fun t8_1 w2 =>
  ExtractK Tryd.prog t8_1 0 (@hid _ ⟨fun t9_3 w4 =>
  ExtractK Tryd.prog t8_1 1 (@hid _ ⟨fun t10_5 w6 =>
  UnK Tryd.prog Go.UnOp.not t10_5 (@hid _ ⟨fun t12_7 w8 =>
  BrK t12_7 (@hid _ ⟨
   R (.tuple #[(Go.Value.slice none 0 0), (Go.Value.bool false)]) w8⟩) (@hid _ ⟨
   BinK Tryd.prog Go.BinOp.eql 9 t9_3 (Go.Value.string { data := #[] }) (@hid _ ⟨fun t14_9 w10 =>
   BrK t14_9 (@hid _ ⟨
    R (.tuple #[(Go.Value.slice none 0 0), (Go.Value.bool true)]) w10⟩) (@hid _ ⟨
    CallV Tryd.prog (.func (.func 44) #[] #[]) #[t9_3, (Go.Value.string { data := #[47] })] (@hid _ ⟨fun t16_11 w12 =>
    R (.tuple #[t16_11, (Go.Value.bool true)]) w12⟩) w10⟩)⟩) w8⟩)⟩) w6⟩) w4⟩) w2⟩) w0
def a31 : Ann := (.seq .no (.seq .no (.seq (.seq .no (.cond (.seq .no .no) .no)) (.seq (.seq .no (.cond (.seq .no .no) .no)) (.seq .no .no)))))
theorem F31_eq (x0 : Value) (R : Value → World → Prop) (w0 : World) : F31 x0 R w0 = vc Tryd.prog (bodyOf Tryd.f31) a31 (retQ Tryd.prog Tryd.f31 R) (envOf 0 [x0]) w0 := by kernel_rfl
theorem F31_calls (x0 : Value) (R : Value → World → Prop) (w0 : World) (h : F31 x0 R w0) : CallK Tryd.prog 31 #[x0] R w0 :=
  calls_vc (c := bodyOf Tryd.f31) Tryd.func31 (by kernel_rfl) (by kernel_rfl) a31 (by kernel_rfl) (by kernel_rfl) [x0] (by rw [Tryd.ntmps31]; exact Nat.le_of_ble_eq_true rfl) w0 R ((F31_eq x0 R w0).mp h)

/-- slices.ContainsFunc[[]string,string], its body as a formula. -/
def F32 (x0 x1 : Value) (R : Value → World → Prop) (w0 : World) : Prop :=
  CallV Tryd.prog (.func (.func 45) #[] #[]) #[x0, x1] (@hid _ ⟨fun t7_1 w2 =>
  BinK Tryd.prog Go.BinOp.geq 3 t7_1 (Go.Value.int Go.IntKind.i64 0) (@hid _ ⟨fun t8_3 w4 =>
  R t8_3 w4⟩) w2⟩) w0
def a32 : Ann := (.seq .no (.seq .no .no))
theorem F32_eq (x0 x1 : Value) (R : Value → World → Prop) (w0 : World) : F32 x0 x1 R w0 = vc Tryd.prog (bodyOf Tryd.f32) a32 (retQ Tryd.prog Tryd.f32 R) (envOf 0 [x0, x1]) w0 := by kernel_rfl
theorem F32_calls (x0 x1 : Value) (R : Value → World → Prop) (w0 : World) (h : F32 x0 x1 R w0) : CallK Tryd.prog 32 #[x0, x1] R w0 :=
  calls_vc (c := bodyOf Tryd.f32) Tryd.func32 (by kernel_rfl) (by kernel_rfl) a32 (by kernel_rfl) (by kernel_rfl) [x0, x1] (by rw [Tryd.ntmps32]; exact Nat.le_of_ble_eq_true rfl) w0 R ((F32_eq x0 x1 R w0).mp h)

/-- canton/path.Parse$1, its body as a formula. -/
def F33 (x0 : Value) (R : Value → World → Prop) (w0 : World) : Prop :=
  CallV Tryd.prog (.func (.func 34) #[] #[]) #[x0] (@hid _ ⟨fun t4_1 w2 =>
  UnK Tryd.prog Go.UnOp.not t4_1 (@hid _ ⟨fun t5_3 w4 =>
  R t5_3 w4⟩) w2⟩) w0
def a33 : Ann := (.seq .no (.seq .no .no))
theorem F33_eq (x0 : Value) (R : Value → World → Prop) (w0 : World) : F33 x0 R w0 = vc Tryd.prog (bodyOf Tryd.f33) a33 (retQ Tryd.prog Tryd.f33 R) (envOf 0 [x0]) w0 := by kernel_rfl
theorem F33_calls (x0 : Value) (R : Value → World → Prop) (w0 : World) (h : F33 x0 R w0) : CallK Tryd.prog 33 #[x0] R w0 :=
  calls_vc (c := bodyOf Tryd.f33) Tryd.func33 (by kernel_rfl) (by kernel_rfl) a33 (by kernel_rfl) (by kernel_rfl) [x0] (by rw [Tryd.ntmps33]; exact Nat.le_of_ble_eq_true rfl) w0 R ((F33_eq x0 R w0).mp h)

/-- canton/row.Name, its body as a formula. -/
def F34 (x0 : Value) (R : Value → World → Prop) (w0 : World) : Prop :=
  BinK Tryd.prog Go.BinOp.eql 9 x0 (Go.Value.string { data := #[] }) (@hid _ ⟨fun t5_1 w2 =>
  GuardK t5_1 false (fun k w => k x0 w) (@hid _ ⟨fun t7_3 w4 =>
  GuardK t5_1 false (fun k w => BuiltinK Tryd.prog Go.Builtin.len #[9] 3 #[false] #[t7_3] k w) (@hid _ ⟨fun t8_5 w6 =>
  GuardK t5_1 false (fun k w => BinK Tryd.prog Go.BinOp.gtr 3 t8_5 (Go.Value.int Go.IntKind.i64 8) k w) (@hid _ ⟨fun t9_7 w8 =>
  PickK Tryd.prog t5_1 (Go.Value.bool true) t9_7 (@hid _ ⟨fun t10_9 w10 =>
  GuardK t10_9 false (fun k w => k x0 w) (@hid _ ⟨fun t12_11 w12 =>
  GuardK t10_9 false (fun k w => ValK Tryd.prog (Instr.index 9 t12_11 (Go.Value.int Go.IntKind.i64 0)) k w) (@hid _ ⟨fun t13_13 w14 =>
  GuardK t10_9 false (fun k w => BinK Tryd.prog Go.BinOp.lss 5 t13_13 (Go.Value.int Go.IntKind.u8 97) k w) (@hid _ ⟨fun t14_15 w16 =>
  PickK Tryd.prog t10_9 (Go.Value.bool true) t14_15 (@hid _ ⟨fun t15_17 w18 =>
  BrK t15_17 (@hid _ ⟨
   R (Go.Value.bool false) w18⟩) (@hid _ ⟨
   BuiltinK Tryd.prog Go.Builtin.len #[9] 3 #[false] #[x0] (@hid _ ⟨fun t17_19 w20 =>
   LoopK1 (Go.Value.int Go.IntKind.i64 0) w20 (@hid _ ⟨fun _ x18_21 w22 B23 =>
    BinK Tryd.prog Go.BinOp.lss 3 x18_21 t17_19 (@hid _ ⟨fun t19_24 w25 =>
    BrK t19_24 (@hid _ ⟨
     ValK Tryd.prog (Instr.index 9 x0 x18_21) (@hid _ ⟨fun t23_26 w27 =>
     BinK Tryd.prog Go.BinOp.lss 5 t23_26 (Go.Value.int Go.IntKind.u8 97) (@hid _ ⟨fun t24_28 w29 =>
     GuardK t24_28 false (fun k w => k x0 w) (@hid _ ⟨fun t26_30 w31 =>
     GuardK t24_28 false (fun k w => k x18_21 w) (@hid _ ⟨fun t27_32 w33 =>
     GuardK t24_28 false (fun k w => ValK Tryd.prog (Instr.index 9 t26_30 t27_32) k w) (@hid _ ⟨fun t28_34 w35 =>
     GuardK t24_28 false (fun k w => BinK Tryd.prog Go.BinOp.gtr 5 t28_34 (Go.Value.int Go.IntKind.u8 122) k w) (@hid _ ⟨fun t29_36 w37 =>
     PickK Tryd.prog t24_28 (Go.Value.bool true) t29_36 (@hid _ ⟨fun t30_38 w39 =>
     GuardK t30_38 true (fun k w => k x0 w) (@hid _ ⟨fun t32_40 w41 =>
     GuardK t30_38 true (fun k w => k x18_21 w) (@hid _ ⟨fun t33_42 w43 =>
     GuardK t30_38 true (fun k w => ValK Tryd.prog (Instr.index 9 t32_40 t33_42) k w) (@hid _ ⟨fun t34_44 w45 =>
     GuardK t30_38 true (fun k w => BinK Tryd.prog Go.BinOp.lss 5 t34_44 (Go.Value.int Go.IntKind.u8 48) k w) (@hid _ ⟨fun t35_46 w47 =>
     GuardK t30_38 true (fun k w => k t35_46 w) (@hid _ ⟨fun t36_48 w49 =>
     GuardK t36_48 false (fun k w => k x0 w) (@hid _ ⟨fun t37_50 w51 =>
     GuardK t36_48 false (fun k w => k x18_21 w) (@hid _ ⟨fun t38_52 w53 =>
     GuardK t36_48 false (fun k w => ValK Tryd.prog (Instr.index 9 t37_50 t38_52) k w) (@hid _ ⟨fun t39_54 w55 =>
     GuardK t36_48 false (fun k w => BinK Tryd.prog Go.BinOp.gtr 5 t39_54 (Go.Value.int Go.IntKind.u8 57) k w) (@hid _ ⟨fun t40_56 w57 =>
     GuardK t30_38 true (fun k w => PickK Tryd.prog t36_48 (Go.Value.bool true) t40_56 k w) (@hid _ ⟨fun t41_58 w59 =>
     PickK Tryd.prog t30_38 t41_58 (Go.Value.bool false) (@hid _ ⟨fun t42_60 w61 =>
     BrK t42_60 (@hid _ ⟨
      R (Go.Value.bool false) w61⟩) (@hid _ ⟨
      BinK Tryd.prog Go.BinOp.add 3 x18_21 (Go.Value.int Go.IntKind.i64 1) (@hid _ ⟨fun t43_62 w63 =>
      B23 t43_62 w63⟩) w61⟩)⟩) w59⟩) w57⟩) w55⟩) w53⟩) w51⟩) w49⟩) w47⟩) w45⟩) w43⟩) w41⟩) w39⟩) w37⟩) w35⟩) w33⟩) w31⟩) w29⟩) w27⟩) w25⟩) (@hid _ ⟨
     R (Go.Value.bool true) w25⟩)⟩) w22⟩)⟩) w18⟩)⟩) w16⟩) w14⟩) w12⟩) w10⟩) w8⟩) w6⟩) w4⟩) w2⟩) w0
def a34 : Ann := (.seq .no (.seq (.seq .no (.cond (.seq .no .no) .no)) (.seq (.seq .no (.block (.loop [18] [(2, 3), (19, 43)] (.seq .no (.seq (.cond .no .no) (.seq (.block (.seq .no (.seq .no (.cond (.seq .no .no) .no)))) .no)))))) (.seq .no .no))))
theorem F34_eq (x0 : Value) (R : Value → World → Prop) (w0 : World) : F34 x0 R w0 = vc Tryd.prog (bodyOf Tryd.f34) a34 (retQ Tryd.prog Tryd.f34 R) (envOf 0 [x0]) w0 := by kernel_rfl
theorem F34_calls (x0 : Value) (R : Value → World → Prop) (w0 : World) (h : F34 x0 R w0) : CallK Tryd.prog 34 #[x0] R w0 :=
  calls_vc (c := bodyOf Tryd.f34) Tryd.func34 (by kernel_rfl) (by kernel_rfl) a34 (by kernel_rfl) (by kernel_rfl) [x0] (by rw [Tryd.ntmps34]; exact Nat.le_of_ble_eq_true rfl) w0 R ((F34_eq x0 R w0).mp h)

/-- canton/cantonref7.cut, its body as a formula. -/
def F35 (x0 : Value) (R : Value → World → Prop) (w0 : World) : Prop :=
  BinK Tryd.prog Go.BinOp.eql 9 x0 (Go.Value.string { data := #[] }) (@hid _ ⟨fun t7_1 w2 =>
  GuardK t7_1 false (fun k w => k x0 w) (@hid _ ⟨fun t9_3 w4 =>
  GuardK t7_1 false (fun k w => ValK Tryd.prog (Instr.index 9 t9_3 (Go.Value.int Go.IntKind.i64 0)) k w) (@hid _ ⟨fun t10_5 w6 =>
  GuardK t7_1 false (fun k w => BinK Tryd.prog Go.BinOp.neq 5 t10_5 (Go.Value.int Go.IntKind.u8 47) k w) (@hid _ ⟨fun t11_7 w8 =>
  PickK Tryd.prog t7_1 (Go.Value.bool true) t11_7 (@hid _ ⟨fun t12_9 w10 =>
  BrK t12_9 (@hid _ ⟨
   R (.tuple #[(Go.Value.slice none 0 0), (Go.Value.bool false)]) w10⟩) (@hid _ ⟨
   BinK Tryd.prog Go.BinOp.eql 9 x0 (Go.Value.string { data := #[47] }) (@hid _ ⟨fun t14_11 w12 =>
   BrK t14_11 (@hid _ ⟨
    R (.tuple #[(Go.Value.slice none 0 0), (Go.Value.bool true)]) w12⟩) (@hid _ ⟨
    BuildSliceK Tryd.prog 23 1 #[(0, (Go.Value.string { data := #[] }))] (@hid _ ⟨fun t15_13 w14 =>
    LoopK2 t15_13 (Go.Value.int Go.IntKind.i64 1) w14 (@hid _ ⟨fun _ x4_15 x5_16 w17 B18 =>
     BuiltinK Tryd.prog Go.Builtin.len #[9] 3 #[false] #[x0] (@hid _ ⟨fun t18_19 w20 =>
     BinK Tryd.prog Go.BinOp.lss 3 x5_16 t18_19 (@hid _ ⟨fun t19_21 w22 =>
     BrK t19_21 (@hid _ ⟨
      ValK Tryd.prog (Instr.index 9 x0 x5_16) (@hid _ ⟨fun t24_23 w24 =>
      BinK Tryd.prog Go.BinOp.eql 5 t24_23 (Go.Value.int Go.IntKind.u8 47) (@hid _ ⟨fun t25_25 w26 =>
      BrK t25_25 (@hid _ ⟨
       BuildSliceK Tryd.prog 23 1 #[(0, (Go.Value.string { data := #[] }))] (@hid _ ⟨fun t27_27 w28 =>
       BuiltinK Tryd.prog Go.Builtin.append #[23, 23] 23 #[false, false] #[x4_15, t27_27] (@hid _ ⟨fun t28_29 w30 =>
       BinK Tryd.prog Go.BinOp.add 3 x5_16 (Go.Value.int Go.IntKind.i64 1) (@hid _ ⟨fun t21_31 w32 =>
       B18 t28_29 t21_31 w32⟩) w30⟩) w28⟩) w26⟩) (@hid _ ⟨
       DrawK (@hid _ ⟨fun S33 w34 =>
       TakeO Tryd.prog S33 (builtin Go.Builtin.len #[23] 3 #[false] #[x4_15]) (@hid _ ⟨fun t31_35 =>
       BinT Tryd.prog S33 Go.BinOp.sub 3 t31_35 (Go.Value.int Go.IntKind.i64 1) (@hid _ ⟨fun t32_36 =>
       TakeO Tryd.prog S33 (builtin Go.Builtin.len #[23] 3 #[false] #[x4_15]) (@hid _ ⟨fun t35_37 =>
       BinT Tryd.prog S33 Go.BinOp.sub 3 t35_37 (Go.Value.int Go.IntKind.i64 1) (@hid _ ⟨fun t36_38 =>
       TakeS Tryd.prog S33 (Instr.indexAt 23 x4_15 t36_38) (@hid _ ⟨fun t37_39 =>
       BinT Tryd.prog S33 Go.BinOp.add 3 x5_16 (Go.Value.int Go.IntKind.i64 1) (@hid _ ⟨fun t42_40 =>
       TakeS Tryd.prog S33 (Instr.sliceAt 9 x0 (some x5_16) (some t42_40) none) (@hid _ ⟨fun t43_41 =>
       (LoadK Tryd.prog 9 t37_39 (@hid _ ⟨fun t38_42 w43 =>
       S33 w43 ∧
       BinT Tryd.prog S33 Go.BinOp.add 9 t38_42 t43_41 (@hid _ ⟨fun t44_44 =>
       TakeS Tryd.prog S33 (Instr.indexAt 23 x4_15 t32_36) (@hid _ ⟨fun t45_45 =>
       (StoreK Tryd.prog 9 t45_45 t44_44 (@hid _ ⟨fun tu_46 w47 =>
       S33 w47 ∧
       BinK Tryd.prog Go.BinOp.add 3 x5_16 (Go.Value.int Go.IntKind.i64 1) (@hid _ ⟨fun t21_48 w49 =>
       B18 x4_15 t21_48 w49⟩) w47⟩) w43) ∧
       True⟩)⟩)⟩) w34) ∧
       True⟩)⟩)⟩)⟩)⟩)⟩)⟩)⟩) w26⟩)⟩) w24⟩) w22⟩) (@hid _ ⟨
      R (.tuple #[x4_15, (Go.Value.bool true)]) w22⟩)⟩) w20⟩) w17⟩)⟩) w12⟩)⟩) w10⟩)⟩) w8⟩) w6⟩) w4⟩) w2⟩) w0
def a35 : Ann := (.seq .no (.seq (.seq .no (.cond (.seq .no .no) .no)) (.seq (.seq .no (.cond (.seq .no .no) .no)) (.seq .no (.seq (.seq .no (.block (.loop [4, 5] [(16, 45)] (.seq (.seq .no (.cond .no .no)) (.seq (.block (.seq (.seq .no (.cond (.seq .no .no) .no)) (.plan (.take 0 (.take 1 (.take 2 (.take 3 (.take 4 (.take 5 (.take 6 (.take 7 (.take 8 (.take 10 (.take 11 (.take 12 (.take 13 (.take 14 (.alt 9 (.take 15 (.take 16 (.alt 17 .done .nil))) .nil)))))))))))))))))) .no))))) (.seq .no .no))))))
theorem F35_eq (x0 : Value) (R : Value → World → Prop) (w0 : World) : F35 x0 R w0 = vc Tryd.prog (bodyOf Tryd.f35) a35 (retQ Tryd.prog Tryd.f35 R) (envOf 0 [x0]) w0 := by kernel_rfl
theorem F35_calls (x0 : Value) (R : Value → World → Prop) (w0 : World) (h : F35 x0 R w0) : CallK Tryd.prog 35 #[x0] R w0 :=
  calls_vc (c := bodyOf Tryd.f35) Tryd.func35 (by kernel_rfl) (by kernel_rfl) a35 (by kernel_rfl) (by kernel_rfl) [x0] (by rw [Tryd.ntmps35]; exact Nat.le_of_ble_eq_true rfl) w0 R ((F35_eq x0 R w0).mp h)

/-- canton/cantonref7.Name, its body as a formula. -/
def F36 (x0 : Value) (R : Value → World → Prop) (w0 : World) : Prop :=
  BuiltinK Tryd.prog Go.Builtin.len #[9] 3 #[false] #[x0] (@hid _ ⟨fun t5_1 w2 =>
  BinK Tryd.prog Go.BinOp.lss 3 t5_1 (Go.Value.int Go.IntKind.i64 1) (@hid _ ⟨fun t6_3 w4 =>
  GuardK t6_3 false (fun k w => k x0 w) (@hid _ ⟨fun t8_5 w6 =>
  GuardK t6_3 false (fun k w => BuiltinK Tryd.prog Go.Builtin.len #[9] 3 #[false] #[t8_5] k w) (@hid _ ⟨fun t9_7 w8 =>
  GuardK t6_3 false (fun k w => BinK Tryd.prog Go.BinOp.gtr 3 t9_7 (Go.Value.int Go.IntKind.i64 8) k w) (@hid _ ⟨fun t10_9 w10 =>
  PickK Tryd.prog t6_3 (Go.Value.bool true) t10_9 (@hid _ ⟨fun t11_11 w12 =>
  GuardK t11_11 false (fun k w => k x0 w) (@hid _ ⟨fun t13_13 w14 =>
  GuardK t11_11 false (fun k w => ValK Tryd.prog (Instr.index 9 t13_13 (Go.Value.int Go.IntKind.i64 0)) k w) (@hid _ ⟨fun t14_15 w16 =>
  GuardK t11_11 false (fun k w => BinK Tryd.prog Go.BinOp.lss 5 t14_15 (Go.Value.int Go.IntKind.u8 97) k w) (@hid _ ⟨fun t15_17 w18 =>
  PickK Tryd.prog t11_11 (Go.Value.bool true) t15_17 (@hid _ ⟨fun t16_19 w20 =>
  GuardK t16_19 false (fun k w => k x0 w) (@hid _ ⟨fun t18_21 w22 =>
  GuardK t16_19 false (fun k w => ValK Tryd.prog (Instr.index 9 t18_21 (Go.Value.int Go.IntKind.i64 0)) k w) (@hid _ ⟨fun t19_23 w24 =>
  GuardK t16_19 false (fun k w => BinK Tryd.prog Go.BinOp.gtr 5 t19_23 (Go.Value.int Go.IntKind.u8 122) k w) (@hid _ ⟨fun t20_25 w26 =>
  PickK Tryd.prog t16_19 (Go.Value.bool true) t20_25 (@hid _ ⟨fun t21_27 w28 =>
  BrK t21_27 (@hid _ ⟨
   R (Go.Value.bool false) w28⟩) (@hid _ ⟨
   LoopK1 (Go.Value.int Go.IntKind.i64 0) w28 (@hid _ ⟨fun _ x3_29 w30 B31 =>
    BuiltinK Tryd.prog Go.Builtin.len #[9] 3 #[false] #[x0] (@hid _ ⟨fun t24_32 w33 =>
    BinK Tryd.prog Go.BinOp.lss 3 x3_29 t24_32 (@hid _ ⟨fun t25_34 w35 =>
    BrK t25_34 (@hid _ ⟨
     ValK Tryd.prog (Instr.index 9 x0 x3_29) (@hid _ ⟨fun t30_36 w37 =>
     BinK Tryd.prog Go.BinOp.lss 5 t30_36 (Go.Value.int Go.IntKind.u8 97) (@hid _ ⟨fun t31_38 w39 =>
     GuardK t31_38 false (fun k w => k x0 w) (@hid _ ⟨fun t33_40 w41 =>
     GuardK t31_38 false (fun k w => k x3_29 w) (@hid _ ⟨fun t34_42 w43 =>
     GuardK t31_38 false (fun k w => ValK Tryd.prog (Instr.index 9 t33_40 t34_42) k w) (@hid _ ⟨fun t35_44 w45 =>
     GuardK t31_38 false (fun k w => BinK Tryd.prog Go.BinOp.gtr 5 t35_44 (Go.Value.int Go.IntKind.u8 122) k w) (@hid _ ⟨fun t36_46 w47 =>
     PickK Tryd.prog t31_38 (Go.Value.bool true) t36_46 (@hid _ ⟨fun t37_48 w49 =>
     GuardK t37_48 true (fun k w => k x0 w) (@hid _ ⟨fun t39_50 w51 =>
     GuardK t37_48 true (fun k w => k x3_29 w) (@hid _ ⟨fun t40_52 w53 =>
     GuardK t37_48 true (fun k w => ValK Tryd.prog (Instr.index 9 t39_50 t40_52) k w) (@hid _ ⟨fun t41_54 w55 =>
     GuardK t37_48 true (fun k w => BinK Tryd.prog Go.BinOp.lss 5 t41_54 (Go.Value.int Go.IntKind.u8 48) k w) (@hid _ ⟨fun t42_56 w57 =>
     GuardK t37_48 true (fun k w => k t42_56 w) (@hid _ ⟨fun t43_58 w59 =>
     GuardK t43_58 false (fun k w => k x0 w) (@hid _ ⟨fun t44_60 w61 =>
     GuardK t43_58 false (fun k w => k x3_29 w) (@hid _ ⟨fun t45_62 w63 =>
     GuardK t43_58 false (fun k w => ValK Tryd.prog (Instr.index 9 t44_60 t45_62) k w) (@hid _ ⟨fun t46_64 w65 =>
     GuardK t43_58 false (fun k w => BinK Tryd.prog Go.BinOp.gtr 5 t46_64 (Go.Value.int Go.IntKind.u8 57) k w) (@hid _ ⟨fun t47_66 w67 =>
     GuardK t37_48 true (fun k w => PickK Tryd.prog t43_58 (Go.Value.bool true) t47_66 k w) (@hid _ ⟨fun t48_68 w69 =>
     PickK Tryd.prog t37_48 t48_68 (Go.Value.bool false) (@hid _ ⟨fun t49_70 w71 =>
     BrK t49_70 (@hid _ ⟨
      R (Go.Value.bool false) w71⟩) (@hid _ ⟨
      BinK Tryd.prog Go.BinOp.add 3 x3_29 (Go.Value.int Go.IntKind.i64 1) (@hid _ ⟨fun t27_72 w73 =>
      B31 t27_72 w73⟩) w71⟩)⟩) w69⟩) w67⟩) w65⟩) w63⟩) w61⟩) w59⟩) w57⟩) w55⟩) w53⟩) w51⟩) w49⟩) w47⟩) w45⟩) w43⟩) w41⟩) w39⟩) w37⟩) w35⟩) (@hid _ ⟨
     R (Go.Value.bool true) w35⟩)⟩) w33⟩) w30⟩)⟩)⟩) w26⟩) w24⟩) w22⟩) w20⟩) w18⟩) w16⟩) w14⟩) w12⟩) w10⟩) w8⟩) w6⟩) w4⟩) w2⟩) w0
def a36 : Ann := (.seq .no (.seq (.seq .no (.cond (.seq .no .no) .no)) (.seq (.seq .no (.block (.loop [3] [(2, 2), (22, 49)] (.seq (.seq .no (.cond .no .no)) (.seq (.block (.seq .no (.cond (.seq .no .no) .no))) .no))))) (.seq .no .no))))
theorem F36_eq (x0 : Value) (R : Value → World → Prop) (w0 : World) : F36 x0 R w0 = vc Tryd.prog (bodyOf Tryd.f36) a36 (retQ Tryd.prog Tryd.f36 R) (envOf 0 [x0]) w0 := by kernel_rfl
theorem F36_calls (x0 : Value) (R : Value → World → Prop) (w0 : World) (h : F36 x0 R w0) : CallK Tryd.prog 36 #[x0] R w0 :=
  calls_vc (c := bodyOf Tryd.f36) Tryd.func36 (by kernel_rfl) (by kernel_rfl) a36 (by kernel_rfl) (by kernel_rfl) [x0] (by rw [Tryd.ntmps36]; exact Nat.le_of_ble_eq_true rfl) w0 R ((F36_eq x0 R w0).mp h)

/-- slices.Clip[[]string,string], its body as a formula. -/
def F37 (x0 : Value) (R : Value → World → Prop) (w0 : World) : Prop :=
  BuiltinK Tryd.prog Go.Builtin.len #[23] 3 #[false] #[x0] (@hid _ ⟨fun t5_1 w2 =>
  BuiltinK Tryd.prog Go.Builtin.len #[23] 3 #[false] #[x0] (@hid _ ⟨fun t7_3 w4 =>
  SliceK Tryd.prog 23 x0 none (some t5_1) (some t7_3) (@hid _ ⟨fun t8_5 w6 =>
  R t8_5 w6⟩) w4⟩) w2⟩) w0
def a37 : Ann := (.seq .no (.seq .no .no))
theorem F37_eq (x0 : Value) (R : Value → World → Prop) (w0 : World) : F37 x0 R w0 = vc Tryd.prog (bodyOf Tryd.f37) a37 (retQ Tryd.prog Tryd.f37 R) (envOf 0 [x0]) w0 := by kernel_rfl
theorem F37_calls (x0 : Value) (R : Value → World → Prop) (w0 : World) (h : F37 x0 R w0) : CallK Tryd.prog 37 #[x0] R w0 :=
  calls_vc (c := bodyOf Tryd.f37) Tryd.func37 (by kernel_rfl) (by kernel_rfl) a37 (by kernel_rfl) (by kernel_rfl) [x0] (by rw [Tryd.ntmps37]; exact Nat.le_of_ble_eq_true rfl) w0 R ((F37_eq x0 R w0).mp h)

/-- strings.Join, its body as a formula. -/
def F38 (x0 x1 : Value) (R : Value → World → Prop) (w0 : World) : Prop :=
  BuiltinK Tryd.prog Go.Builtin.len #[23] 3 #[false] #[x0] (@hid _ ⟨fun t12_1 w2 =>
  BinK Tryd.prog Go.BinOp.eql 3 t12_1 (Go.Value.int Go.IntKind.i64 0) (@hid _ ⟨fun t14_3 w4 =>
  BrK t14_3 (@hid _ ⟨
   R (Go.Value.string { data := #[] }) w4⟩) (@hid _ ⟨
   BinK Tryd.prog Go.BinOp.eql 3 t12_1 (Go.Value.int Go.IntKind.i64 1) (@hid _ ⟨fun t16_5 w6 =>
   BrK t16_5 (@hid _ ⟨
    IndexAtK Tryd.prog 23 x0 (Go.Value.int Go.IntKind.i64 0) (@hid _ ⟨fun t18_7 w8 =>
    LoadK Tryd.prog 9 t18_7 (@hid _ ⟨fun t19_9 w10 =>
    R t19_9 w10⟩) w8⟩) w6⟩) (@hid _ ⟨
    CutK1 (@hid _ ⟨fun R11 =>
     BuiltinK Tryd.prog Go.Builtin.len #[9] 3 #[false] #[x1] (@hid _ ⟨fun t21_14 w15 =>
     BinK Tryd.prog Go.BinOp.gtr 3 t21_14 (Go.Value.int Go.IntKind.i64 0) (@hid _ ⟨fun t22_16 w17 =>
     BrK t22_16 (@hid _ ⟨
      CutK0 (@hid _ ⟨fun R18 =>
       BuiltinK Tryd.prog Go.Builtin.len #[9] 3 #[false] #[x1] (@hid _ ⟨fun t24_20 w21 =>
       BuiltinK Tryd.prog Go.Builtin.len #[23] 3 #[false] #[x0] (@hid _ ⟨fun t26_22 w23 =>
       BinK Tryd.prog Go.BinOp.sub 3 t26_22 (Go.Value.int Go.IntKind.i64 1) (@hid _ ⟨fun t27_24 w25 =>
       BinK Tryd.prog Go.BinOp.quo 3 (Go.Value.int Go.IntKind.i64 9223372036854775807) t27_24 (@hid _ ⟨fun t28_26 w27 =>
       BinK Tryd.prog Go.BinOp.geq 3 t24_20 t28_26 (@hid _ ⟨fun t29_28 w29 =>
       BrK t29_28 (@hid _ ⟨
        ValK Tryd.prog (Instr.makeInterface 9 (Go.Value.string { data := #[115, 116, 114, 105, 110, 103, 115, 58, 32, 74, 111, 105, 110, 32, 111, 117, 116, 112, 117, 116, 32, 108, 101, 110, 103, 116, 104, 32, 111, 118, 101, 114, 102, 108, 111, 119] })) (@hid _ ⟨fun t30_30 w31 =>
        OpK Tryd.prog (execOp (fun _ => t30_30) { dst := none, op := .panic (.tmp 0), type := 0, pos := "strings.go:479", after := #[], guard := none }) (@hid _ ⟨fun tu_32 w33 =>
        R18 w33⟩) w31⟩) w29⟩) (@hid _ ⟨
        R18 w29⟩)⟩) w27⟩) w25⟩) w23⟩) w21⟩) w17⟩)
      (@hid _ ⟨fun _ w19 =>
       BuiltinK Tryd.prog Go.Builtin.len #[9] 3 #[false] #[x1] (@hid _ ⟨fun t33_34 w35 =>
       BuiltinK Tryd.prog Go.Builtin.len #[23] 3 #[false] #[x0] (@hid _ ⟨fun t35_36 w37 =>
       BinK Tryd.prog Go.BinOp.sub 3 t35_36 (Go.Value.int Go.IntKind.i64 1) (@hid _ ⟨fun t36_38 w39 =>
       BinK Tryd.prog Go.BinOp.mul 3 t33_34 t36_38 (@hid _ ⟨fun t37_40 w41 =>
       BinK Tryd.prog Go.BinOp.add 3 (Go.Value.int Go.IntKind.i64 0) t37_40 (@hid _ ⟨fun t38_42 w43 =>
       R11 t38_42 w43⟩) w41⟩) w39⟩) w37⟩) w35⟩) w19⟩)⟩) (@hid _ ⟨
      R11 (Go.Value.int Go.IntKind.i64 0) w17⟩)⟩) w15⟩) w6⟩)
    (@hid _ ⟨fun _ x5_12 w13 =>
     BuiltinK Tryd.prog Go.Builtin.len #[23] 3 #[false] #[x0] (@hid _ ⟨fun t40_44 w45 =>
     LoopK2 x5_12 (Go.Value.int Go.IntKind.i64 0) w45 (@hid _ ⟨fun _ x5_46 x41_47 w48 B49 =>
      BinK Tryd.prog Go.BinOp.lss 3 x41_47 t40_44 (@hid _ ⟨fun t42_50 w51 =>
      BrK t42_50 (@hid _ ⟨
       IndexAtK Tryd.prog 23 x0 x41_47 (@hid _ ⟨fun t43_52 w53 =>
       LoadK Tryd.prog 9 t43_52 (@hid _ ⟨fun t44_54 w55 =>
       CutK0 (@hid _ ⟨fun R56 =>
        BuiltinK Tryd.prog Go.Builtin.len #[9] 3 #[false] #[t44_54] (@hid _ ⟨fun t46_58 w59 =>
        BinK Tryd.prog Go.BinOp.sub 3 (Go.Value.int Go.IntKind.i64 9223372036854775807) x5_46 (@hid _ ⟨fun t48_60 w61 =>
        BinK Tryd.prog Go.BinOp.gtr 3 t46_58 t48_60 (@hid _ ⟨fun t49_62 w63 =>
        BrK t49_62 (@hid _ ⟨
         ValK Tryd.prog (Instr.makeInterface 9 (Go.Value.string { data := #[115, 116, 114, 105, 110, 103, 115, 58, 32, 74, 111, 105, 110, 32, 111, 117, 116, 112, 117, 116, 32, 108, 101, 110, 103, 116, 104, 32, 111, 118, 101, 114, 102, 108, 111, 119] })) (@hid _ ⟨fun t50_64 w65 =>
         OpK Tryd.prog (execOp (fun _ => t50_64) { dst := none, op := .panic (.tmp 0), type := 0, pos := "strings.go:485", after := #[], guard := none }) (@hid _ ⟨fun tu_66 w67 =>
         R56 w67⟩) w65⟩) w63⟩) (@hid _ ⟨
         R56 w63⟩)⟩) w61⟩) w59⟩) w55⟩)
       (@hid _ ⟨fun _ w57 =>
        BuiltinK Tryd.prog Go.Builtin.len #[9] 3 #[false] #[t44_54] (@hid _ ⟨fun t53_68 w69 =>
        BinK Tryd.prog Go.BinOp.add 3 x5_46 t53_68 (@hid _ ⟨fun t54_70 w71 =>
        BinK Tryd.prog Go.BinOp.add 3 x41_47 (Go.Value.int Go.IntKind.i64 1) (@hid _ ⟨fun t55_72 w73 =>
        B49 t54_70 t55_72 w73⟩) w71⟩) w69⟩) w57⟩)⟩) w53⟩) w51⟩) (@hid _ ⟨
       AllocK Tryd.prog 58 (@hid _ ⟨fun t8_74 w75 =>
       CallV Tryd.prog (.func (.func 46) #[] #[]) #[t8_74, x5_46] (@hid _ ⟨fun t57_76 w77 =>
       IndexAtK Tryd.prog 23 x0 (Go.Value.int Go.IntKind.i64 0) (@hid _ ⟨fun t59_78 w79 =>
       LoadK Tryd.prog 9 t59_78 (@hid _ ⟨fun t60_80 w81 =>
       CallV Tryd.prog (.func (.func 47) #[] #[]) #[t8_74, t60_80] (@hid _ ⟨fun t61_82 w83 =>
       SliceK Tryd.prog 23 x0 (some (Go.Value.int Go.IntKind.i64 1)) none none (@hid _ ⟨fun t63_84 w85 =>
       BuiltinK Tryd.prog Go.Builtin.len #[23] 3 #[false] #[t63_84] (@hid _ ⟨fun t64_86 w87 =>
       LoopK1 (Go.Value.int Go.IntKind.i64 0) w87 (@hid _ ⟨fun _ x65_88 w89 B90 =>
        BinK Tryd.prog Go.BinOp.lss 3 x65_88 t64_86 (@hid _ ⟨fun t66_91 w92 =>
        BrK t66_91 (@hid _ ⟨
         IndexAtK Tryd.prog 23 t63_84 x65_88 (@hid _ ⟨fun t67_93 w94 =>
         LoadK Tryd.prog 9 t67_93 (@hid _ ⟨fun t68_95 w96 =>
         CallV Tryd.prog (.func (.func 47) #[] #[]) #[t8_74, x1] (@hid _ ⟨fun t70_97 w98 =>
         CallV Tryd.prog (.func (.func 47) #[] #[]) #[t8_74, t68_95] (@hid _ ⟨fun t72_99 w100 =>
         BinK Tryd.prog Go.BinOp.add 3 x65_88 (Go.Value.int Go.IntKind.i64 1) (@hid _ ⟨fun t73_101 w102 =>
         B90 t73_101 w102⟩) w100⟩) w98⟩) w96⟩) w94⟩) w92⟩) (@hid _ ⟨
         CallV Tryd.prog (.func (.func 48) #[] #[]) #[t8_74] (@hid _ ⟨fun t74_103 w104 =>
         R t74_103 w104⟩) w92⟩)⟩) w89⟩)⟩) w85⟩) w83⟩) w81⟩) w79⟩) w77⟩) w75⟩) w51⟩)⟩) w48⟩)⟩) w13⟩)⟩)⟩) w4⟩)⟩) w2⟩) w0
def a38 : Ann := (.seq .no (.seq (.seq .no (.block (.seq .no (.cond (.seq .no .no) (.seq .no (.cond (.seq .no .no) .no)))))) (.seq .no (.cut [5] [(20, 38)] (.seq .no (.cond (.cut [] [(23, 30)] (.seq .no (.cond .no .no)) .no) .no)) (.seq (.seq .no (.block (.loop [5, 41] [(7, 7), (42, 55)] (.seq .no (.seq (.cond .no .no) (.seq (.block (.seq .no (.cut [] [(45, 50)] (.seq .no (.cond .no .no)) .no))) .no)))))) (.seq .no (.seq .no (.seq .no (.seq (.seq .no (.block (.loop [65] [(10, 10), (66, 73)] (.seq .no (.seq (.cond .no .no) (.seq (.block (.seq .no (.seq .no .no))) .no)))))) (.seq .no .no))))))))))
theorem F38_eq (x0 x1 : Value) (R : Value → World → Prop) (w0 : World) : F38 x0 x1 R w0 = vc Tryd.prog (bodyOf Tryd.f38) a38 (retQ Tryd.prog Tryd.f38 R) (envOf 0 [x0, x1]) w0 := by kernel_rfl
theorem F38_calls (x0 x1 : Value) (R : Value → World → Prop) (w0 : World) (h : F38 x0 x1 R w0) : CallK Tryd.prog 38 #[x0, x1] R w0 :=
  calls_vc (c := bodyOf Tryd.f38) Tryd.func38 (by kernel_rfl) (by kernel_rfl) a38 (by kernel_rfl) (by kernel_rfl) [x0, x1] (by rw [Tryd.ntmps38]; exact Nat.le_of_ble_eq_true rfl) w0 R ((F38_eq x0 x1 R w0).mp h)

/-- canton/path.shared, its body as a formula. -/
def F39 (x0 x1 : Value) (R : Value → World → Prop) (w0 : World) : Prop :=
  LoopK1 (Go.Value.int Go.IntKind.i64 0) w0 (@hid _ ⟨fun _ x5_1 w2 B3 =>
   DrawK (@hid _ ⟨fun S4 w5 =>
   TakeO Tryd.prog S4 (builtin Go.Builtin.len #[23] 3 #[false] #[x0]) (@hid _ ⟨fun t8_6 =>
   TakeO Tryd.prog S4 (builtin Go.Builtin.len #[23] 3 #[false] #[x1]) (@hid _ ⟨fun t10_7 =>
   TakeO Tryd.prog S4 (builtin Go.Builtin.min #[3, 3] 3 #[false, false] #[t8_6, t10_7]) (@hid _ ⟨fun t11_8 =>
   BinT Tryd.prog S4 Go.BinOp.lss 3 x5_1 t11_8 (@hid _ ⟨fun t12_9 =>
   TakeG t12_9 true (fun k => k x0) (@hid _ ⟨fun t14_10 =>
   TakeG t12_9 true (fun k => k x5_1) (@hid _ ⟨fun t15_11 =>
   TakeG t12_9 true (fun k => TakeS Tryd.prog S4 (Instr.indexAt 23 t14_10 t15_11) k) (@hid _ ⟨fun t16_12 =>
   TakeG t12_9 true (fun k => TakeS Tryd.prog S4 (Instr.loadAt 9 t16_12) k) (@hid _ ⟨fun t17_13 =>
   TakeG t12_9 true (fun k => k x1) (@hid _ ⟨fun t18_14 =>
   TakeG t12_9 true (fun k => k x5_1) (@hid _ ⟨fun t19_15 =>
   TakeG t12_9 true (fun k => TakeS Tryd.prog S4 (Instr.indexAt 23 t18_14 t19_15) k) (@hid _ ⟨fun t20_16 =>
   TakeG t12_9 true (fun k => TakeS Tryd.prog S4 (Instr.loadAt 9 t20_16) k) (@hid _ ⟨fun t21_17 =>
   TakeG t12_9 true (fun k => BinT Tryd.prog S4 Go.BinOp.eql 9 t17_13 t21_17 k) (@hid _ ⟨fun t22_18 =>
   PickT t12_9 t22_18 (Go.Value.bool false) (@hid _ ⟨fun t23_19 =>
   BrK t23_19 (@hid _ ⟨
    BinK Tryd.prog Go.BinOp.add 3 x5_1 (Go.Value.int Go.IntKind.i64 1) (@hid _ ⟨fun t25_20 w21 =>
    B3 t25_20 w21⟩) w5⟩) (@hid _ ⟨
    R x5_1 w5⟩)⟩)⟩)⟩)⟩)⟩)⟩)⟩)⟩)⟩)⟩)⟩)⟩)⟩)⟩)⟩) w2⟩)
def a39 : Ann := (.seq .no (.seq .no (.seq (.block (.loop [5] [(6, 25)] (.seq (.seq (.plan (.take 0 (.take 1 (.take 2 (.take 3 (.take 4 (.take 5 (.take 6 (.take 7 (.take 8 (.take 9 (.take 10 (.take 11 (.take 12 (.take 13 (.take 14 (.take 15 (.take 16 (.take 17 .done))))))))))))))))))) (.cond .no .no)) (.block .no)))) (.seq .no .no))))
theorem F39_eq (x0 x1 : Value) (R : Value → World → Prop) (w0 : World) : F39 x0 x1 R w0 = vc Tryd.prog (bodyOf Tryd.f39) a39 (retQ Tryd.prog Tryd.f39 R) (envOf 0 [x0, x1]) w0 := by kernel_rfl
theorem F39_calls (x0 x1 : Value) (R : Value → World → Prop) (w0 : World) (h : F39 x0 x1 R w0) : CallK Tryd.prog 39 #[x0, x1] R w0 :=
  calls_vc (c := bodyOf Tryd.f39) Tryd.func39 (by kernel_rfl) (by kernel_rfl) a39 (by kernel_rfl) (by kernel_rfl) [x0, x1] (by rw [Tryd.ntmps39]; exact Nat.le_of_ble_eq_true rfl) w0 R ((F39_eq x0 x1 R w0).mp h)

/-- canton/path.is, its body as a formula. -/
def F40 (x0 : Value) (R : Value → World → Prop) (w0 : World) : Prop :=
  CallV Tryd.prog (.func (.func 9) #[] #[]) #[x0] (@hid _ ⟨fun t7_1 w2 =>
  ExtractK Tryd.prog t7_1 0 (@hid _ ⟨fun t8_3 w4 =>
  ExtractK Tryd.prog t7_1 1 (@hid _ ⟨fun t9_5 w6 =>
  BinK Tryd.prog Go.BinOp.eql 24 t9_5 (Go.Value.int Go.IntKind.i64 0) (@hid _ ⟨fun t11_7 w8 =>
  R t11_7 w8⟩) w6⟩) w4⟩) w2⟩) w0
def a40 : Ann := (.seq .no (.seq .no (.seq .no .no)))
theorem F40_eq (x0 : Value) (R : Value → World → Prop) (w0 : World) : F40 x0 R w0 = vc Tryd.prog (bodyOf Tryd.f40) a40 (retQ Tryd.prog Tryd.f40 R) (envOf 0 [x0]) w0 := by kernel_rfl
theorem F40_calls (x0 : Value) (R : Value → World → Prop) (w0 : World) (h : F40 x0 R w0) : CallK Tryd.prog 40 #[x0] R w0 :=
  calls_vc (c := bodyOf Tryd.f40) Tryd.func40 (by kernel_rfl) (by kernel_rfl) a40 (by kernel_rfl) (by kernel_rfl) [x0] (by rw [Tryd.ntmps40]; exact Nat.le_of_ble_eq_true rfl) w0 R ((F40_eq x0 R w0).mp h)

/-- canton/path.pattern, its body as a formula. -/
def F41 (x0 : Value) (R : Value → World → Prop) (w0 : World) : Prop :=
  CallV Tryd.prog (.func (.func 31) #[] #[]) #[x0] (@hid _ ⟨fun t8_1 w2 =>
  ExtractK Tryd.prog t8_1 0 (@hid _ ⟨fun t9_3 w4 =>
  ExtractK Tryd.prog t8_1 1 (@hid _ ⟨fun t10_5 w6 =>
  CutK2 (@hid _ ⟨fun R7 =>
   BuiltinK Tryd.prog Go.Builtin.len #[23] 3 #[false] #[t9_3] (@hid _ ⟨fun t12_11 w12 =>
   BinK Tryd.prog Go.BinOp.gtr 3 t12_11 (Go.Value.int Go.IntKind.i64 0) (@hid _ ⟨fun t14_13 w14 =>
   GuardK t14_13 true (fun k w => k t9_3 w) (@hid _ ⟨fun t16_15 w16 =>
   GuardK t14_13 true (fun k w => k t12_11 w) (@hid _ ⟨fun t17_17 w18 =>
   GuardK t14_13 true (fun k w => BinK Tryd.prog Go.BinOp.sub 3 t17_17 (Go.Value.int Go.IntKind.i64 1) k w) (@hid _ ⟨fun t18_19 w20 =>
   GuardK t14_13 true (fun k w => IndexAtK Tryd.prog 23 t16_15 t18_19 k w) (@hid _ ⟨fun t19_21 w22 =>
   GuardK t14_13 true (fun k w => LoadK Tryd.prog 9 t19_21 k w) (@hid _ ⟨fun t20_23 w24 =>
   GuardK t14_13 true (fun k w => BinK Tryd.prog Go.BinOp.eql 9 t20_23 (Go.Value.string { data := #[42, 42] }) k w) (@hid _ ⟨fun t21_25 w26 =>
   PickK Tryd.prog t14_13 t21_25 (Go.Value.bool false) (@hid _ ⟨fun t22_27 w28 =>
   BrK t22_27 (@hid _ ⟨
    BinK Tryd.prog Go.BinOp.sub 3 t12_11 (Go.Value.int Go.IntKind.i64 1) (@hid _ ⟨fun t25_29 w30 =>
    SliceK Tryd.prog 23 t9_3 none (some t25_29) none (@hid _ ⟨fun t26_31 w32 =>
    R7 t26_31 (Go.Value.bool true) w32⟩) w30⟩) w28⟩) (@hid _ ⟨
    R7 t9_3 (Go.Value.bool false) w28⟩)⟩) w26⟩) w24⟩) w22⟩) w20⟩) w18⟩) w16⟩) w14⟩) w12⟩) w6⟩)
  (@hid _ ⟨fun _ x2_8 x3_9 w10 =>
   GuardK t10_5 true (fun k w => k x2_8 w) (@hid _ ⟨fun t31_33 w34 =>
   GuardK t10_5 true (fun k w => CallV Tryd.prog (.func (.func 32) #[] #[]) #[t31_33, (.func (.func 49) #[] #[])] k w) (@hid _ ⟨fun t32_35 w36 =>
   GuardK t10_5 true (fun k w => UnK Tryd.prog Go.UnOp.not t32_35 k w) (@hid _ ⟨fun t33_37 w38 =>
   PickK Tryd.prog t10_5 t33_37 (Go.Value.bool false) (@hid _ ⟨fun t34_39 w40 =>
   R (.tuple #[x2_8, x3_9, t34_39]) w40⟩) w38⟩) w36⟩) w34⟩) w10⟩)⟩) w4⟩) w2⟩) w0
def a41 : Ann := (.seq .no (.seq .no (.cut [2, 3] [(5, 5), (11, 26)] (.seq .no (.seq .no (.cond .no .no))) (.seq .no .no))))
theorem F41_eq (x0 : Value) (R : Value → World → Prop) (w0 : World) : F41 x0 R w0 = vc Tryd.prog (bodyOf Tryd.f41) a41 (retQ Tryd.prog Tryd.f41 R) (envOf 0 [x0]) w0 := by kernel_rfl
theorem F41_calls (x0 : Value) (R : Value → World → Prop) (w0 : World) (h : F41 x0 R w0) : CallK Tryd.prog 41 #[x0] R w0 :=
  calls_vc (c := bodyOf Tryd.f41) Tryd.func41 (by kernel_rfl) (by kernel_rfl) a41 (by kernel_rfl) (by kernel_rfl) [x0] (by rw [Tryd.ntmps41]; exact Nat.le_of_ble_eq_true rfl) w0 R ((F41_eq x0 R w0).mp h)

/-- canton/cantonref7.Pattern, its body as a formula. -/
def F42 (x0 : Value) (R : Value → World → Prop) (w0 : World) : Prop :=
  CallV Tryd.prog (.func (.func 35) #[] #[]) #[x0] (@hid _ ⟨fun t8_1 w2 =>
  ExtractK Tryd.prog t8_1 0 (@hid _ ⟨fun t9_3 w4 =>
  ExtractK Tryd.prog t8_1 1 (@hid _ ⟨fun t10_5 w6 =>
  UnK Tryd.prog Go.UnOp.not t10_5 (@hid _ ⟨fun t12_7 w8 =>
  BrK t12_7 (@hid _ ⟨
   R (Go.Value.bool false) w8⟩) (@hid _ ⟨
   LoopK1 (Go.Value.int Go.IntKind.i64 0) w8 (@hid _ ⟨fun _ x5_9 w10 B11 =>
    BuiltinK Tryd.prog Go.Builtin.len #[23] 3 #[false] #[t9_3] (@hid _ ⟨fun t15_12 w13 =>
    BinK Tryd.prog Go.BinOp.lss 3 x5_9 t15_12 (@hid _ ⟨fun t16_14 w15 =>
    BrK t16_14 (@hid _ ⟨
     IndexAtK Tryd.prog 23 t9_3 x5_9 (@hid _ ⟨fun t21_16 w17 =>
     LoadK Tryd.prog 9 t21_16 (@hid _ ⟨fun t22_18 w19 =>
     CallV Tryd.prog (.func (.func 36) #[] #[]) #[t22_18] (@hid _ ⟨fun t23_20 w21 =>
     UnK Tryd.prog Go.UnOp.not t23_20 (@hid _ ⟨fun t24_22 w23 =>
     GuardK t24_22 true (fun k w => k t9_3 w) (@hid _ ⟨fun t26_24 w25 =>
     GuardK t24_22 true (fun k w => k x5_9 w) (@hid _ ⟨fun t27_26 w27 =>
     GuardK t24_22 true (fun k w => IndexAtK Tryd.prog 23 t26_24 t27_26 k w) (@hid _ ⟨fun t28_28 w29 =>
     GuardK t24_22 true (fun k w => LoadK Tryd.prog 9 t28_28 k w) (@hid _ ⟨fun t29_30 w31 =>
     GuardK t24_22 true (fun k w => BinK Tryd.prog Go.BinOp.neq 9 t29_30 (Go.Value.string { data := #[42] }) k w) (@hid _ ⟨fun t30_32 w33 =>
     PickK Tryd.prog t24_22 t30_32 (Go.Value.bool false) (@hid _ ⟨fun t31_34 w35 =>
     GuardK t31_34 true (fun k w => k t9_3 w) (@hid _ ⟨fun t33_36 w37 =>
     GuardK t31_34 true (fun k w => k x5_9 w) (@hid _ ⟨fun t34_38 w39 =>
     GuardK t31_34 true (fun k w => IndexAtK Tryd.prog 23 t33_36 t34_38 k w) (@hid _ ⟨fun t35_40 w41 =>
     GuardK t31_34 true (fun k w => LoadK Tryd.prog 9 t35_40 k w) (@hid _ ⟨fun t36_42 w43 =>
     GuardK t31_34 true (fun k w => BinK Tryd.prog Go.BinOp.neq 9 t36_42 (Go.Value.string { data := #[42, 42] }) k w) (@hid _ ⟨fun t37_44 w45 =>
     GuardK t31_34 true (fun k w => k t37_44 w) (@hid _ ⟨fun t38_46 w47 =>
     GuardK t38_46 false (fun k w => k x5_9 w) (@hid _ ⟨fun t39_48 w49 =>
     GuardK t38_46 false (fun k w => k t9_3 w) (@hid _ ⟨fun t40_50 w51 =>
     GuardK t38_46 false (fun k w => BuiltinK Tryd.prog Go.Builtin.len #[23] 3 #[false] #[t40_50] k w) (@hid _ ⟨fun t41_52 w53 =>
     GuardK t38_46 false (fun k w => BinK Tryd.prog Go.BinOp.sub 3 t41_52 (Go.Value.int Go.IntKind.i64 1) k w) (@hid _ ⟨fun t42_54 w55 =>
     GuardK t38_46 false (fun k w => BinK Tryd.prog Go.BinOp.lss 3 t39_48 t42_54 k w) (@hid _ ⟨fun t43_56 w57 =>
     GuardK t31_34 true (fun k w => PickK Tryd.prog t38_46 (Go.Value.bool true) t43_56 k w) (@hid _ ⟨fun t44_58 w59 =>
     PickK Tryd.prog t31_34 t44_58 (Go.Value.bool false) (@hid _ ⟨fun t45_60 w61 =>
     BrK t45_60 (@hid _ ⟨
      R (Go.Value.bool false) w61⟩) (@hid _ ⟨
      BinK Tryd.prog Go.BinOp.add 3 x5_9 (Go.Value.int Go.IntKind.i64 1) (@hid _ ⟨fun t18_62 w63 =>
      B11 t18_62 w63⟩) w61⟩)⟩) w59⟩) w57⟩) w55⟩) w53⟩) w51⟩) w49⟩) w47⟩) w45⟩) w43⟩) w41⟩) w39⟩) w37⟩) w35⟩) w33⟩) w31⟩) w29⟩) w27⟩) w25⟩) w23⟩) w21⟩) w19⟩) w17⟩) w15⟩) (@hid _ ⟨
     R (Go.Value.bool true) w15⟩)⟩) w13⟩) w10⟩)⟩)⟩) w6⟩) w4⟩) w2⟩) w0
def a42 : Ann := (.seq .no (.seq .no (.seq (.seq .no (.cond (.seq .no .no) .no)) (.seq (.seq .no (.block (.loop [5] [(2, 2), (13, 45)] (.seq (.seq .no (.cond .no .no)) (.seq (.block (.seq .no (.cond (.seq .no .no) .no))) .no))))) (.seq .no .no)))))
theorem F42_eq (x0 : Value) (R : Value → World → Prop) (w0 : World) : F42 x0 R w0 = vc Tryd.prog (bodyOf Tryd.f42) a42 (retQ Tryd.prog Tryd.f42 R) (envOf 0 [x0]) w0 := by kernel_rfl
theorem F42_calls (x0 : Value) (R : Value → World → Prop) (w0 : World) (h : F42 x0 R w0) : CallK Tryd.prog 42 #[x0] R w0 :=
  calls_vc (c := bodyOf Tryd.f42) Tryd.func42 (by kernel_rfl) (by kernel_rfl) a42 (by kernel_rfl) (by kernel_rfl) [x0] (by rw [Tryd.ntmps42]; exact Nat.le_of_ble_eq_true rfl) w0 R ((F42_eq x0 R w0).mp h)

/-- strings.CutPrefix, its body as a formula. -/
def F43 (x0 x1 : Value) (R : Value → World → Prop) (w0 : World) : Prop :=
  CallV Tryd.prog (.func (.func 50) #[] #[]) #[x0, x1] (@hid _ ⟨fun t8_1 w2 =>
  ExtractK Tryd.prog t8_1 0 (@hid _ ⟨fun t9_3 w4 =>
  ExtractK Tryd.prog t8_1 1 (@hid _ ⟨fun t10_5 w6 =>
  R (.tuple #[t9_3, t10_5]) w6⟩) w4⟩) w2⟩) w0
def a43 : Ann := (.seq .no (.seq .no .no))
theorem F43_eq (x0 x1 : Value) (R : Value → World → Prop) (w0 : World) : F43 x0 x1 R w0 = vc Tryd.prog (bodyOf Tryd.f43) a43 (retQ Tryd.prog Tryd.f43 R) (envOf 0 [x0, x1]) w0 := by kernel_rfl
theorem F43_calls (x0 x1 : Value) (R : Value → World → Prop) (w0 : World) (h : F43 x0 x1 R w0) : CallK Tryd.prog 43 #[x0, x1] R w0 :=
  calls_vc (c := bodyOf Tryd.f43) Tryd.func43 (by kernel_rfl) (by kernel_rfl) a43 (by kernel_rfl) (by kernel_rfl) [x0, x1] (by rw [Tryd.ntmps43]; exact Nat.le_of_ble_eq_true rfl) w0 R ((F43_eq x0 x1 R w0).mp h)

/-- slices.IndexFunc[[]string,string], its body as a formula. -/
def F45 (x0 x1 : Value) (R : Value → World → Prop) (w0 : World) : Prop :=
  BuiltinK Tryd.prog Go.Builtin.len #[23] 3 #[false] #[x0] (@hid _ ⟨fun t7_1 w2 =>
  LoopK1 (Go.Value.int Go.IntKind.i64 0) w2 (@hid _ ⟨fun _ x8_3 w4 B5 =>
   BinK Tryd.prog Go.BinOp.lss 3 x8_3 t7_1 (@hid _ ⟨fun t9_6 w7 =>
   BrK t9_6 (@hid _ ⟨
    IndexAtK Tryd.prog 23 x0 x8_3 (@hid _ ⟨fun t14_8 w9 =>
    LoadK Tryd.prog 9 t14_8 (@hid _ ⟨fun t15_10 w11 =>
    CallV Tryd.prog x1 #[t15_10] (@hid _ ⟨fun t16_12 w13 =>
    BrK t16_12 (@hid _ ⟨
     R x8_3 w13⟩) (@hid _ ⟨
     BinK Tryd.prog Go.BinOp.add 3 x8_3 (Go.Value.int Go.IntKind.i64 1) (@hid _ ⟨fun t18_14 w15 =>
     B5 t18_14 w15⟩) w13⟩)⟩) w11⟩) w9⟩) w7⟩) (@hid _ ⟨
    R (Go.Value.int Go.IntKind.i64 (-1)) w7⟩)⟩) w4⟩)⟩) w0
def a45 : Ann := (.seq .no (.seq (.seq .no (.block (.loop [8] [(4, 5), (9, 18)] (.seq .no (.seq (.cond .no .no) (.seq (.block (.seq .no (.seq .no (.cond (.seq .no .no) .no)))) .no)))))) (.seq .no .no)))
theorem F45_eq (x0 x1 : Value) (R : Value → World → Prop) (w0 : World) : F45 x0 x1 R w0 = vc Tryd.prog (bodyOf Tryd.f45) a45 (retQ Tryd.prog Tryd.f45 R) (envOf 0 [x0, x1]) w0 := by kernel_rfl
theorem F45_calls (x0 x1 : Value) (R : Value → World → Prop) (w0 : World) (h : F45 x0 x1 R w0) : CallK Tryd.prog 45 #[x0, x1] R w0 :=
  calls_vc (c := bodyOf Tryd.f45) Tryd.func45 (by kernel_rfl) (by kernel_rfl) a45 (by kernel_rfl) (by kernel_rfl) [x0, x1] (by rw [Tryd.ntmps45]; exact Nat.le_of_ble_eq_true rfl) w0 R ((F45_eq x0 x1 R w0).mp h)

/-- (*strings.Builder).WriteString, its body as a formula. -/
def F47 (x0 x1 : Value) (R : Value → World → Prop) (w0 : World) : Prop :=
  CallV Tryd.prog (.func (.func 52) #[] #[]) #[x0] (@hid _ ⟨fun t7_1 w2 =>
  NilK Tryd.prog x0 (@hid _ ⟨fun t10_3 w4 =>
  FieldAtK Tryd.prog 58 t10_3 1 (@hid _ ⟨fun t11_5 w6 =>
  LoadK Tryd.prog 56 t11_5 (@hid _ ⟨fun t12_7 w8 =>
  BuiltinK Tryd.prog Go.Builtin.append #[56, 9] 56 #[false, false] #[t12_7, x1] (@hid _ ⟨fun t14_9 w10 =>
  NilK Tryd.prog x0 (@hid _ ⟨fun t15_11 w12 =>
  FieldAtK Tryd.prog 58 t15_11 1 (@hid _ ⟨fun t16_13 w14 =>
  StoreK Tryd.prog 56 t16_13 t14_9 (@hid _ ⟨fun tu_15 w16 =>
  BuiltinK Tryd.prog Go.Builtin.len #[9] 3 #[false] #[x1] (@hid _ ⟨fun t18_17 w18 =>
  R (.tuple #[t18_17, Go.Value.nilIface]) w18⟩) w16⟩) w14⟩) w12⟩) w10⟩) w8⟩) w6⟩) w4⟩) w2⟩) w0
def a47 : Ann := (.seq .no (.seq .no (.seq .no (.seq .no .no))))
theorem F47_eq (x0 x1 : Value) (R : Value → World → Prop) (w0 : World) : F47 x0 x1 R w0 = vc Tryd.prog (bodyOf Tryd.f47) a47 (retQ Tryd.prog Tryd.f47 R) (envOf 0 [x0, x1]) w0 := by kernel_rfl
theorem F47_calls (x0 x1 : Value) (R : Value → World → Prop) (w0 : World) (h : F47 x0 x1 R w0) : CallK Tryd.prog 47 #[x0, x1] R w0 :=
  calls_vc (c := bodyOf Tryd.f47) Tryd.func47 (by kernel_rfl) (by kernel_rfl) a47 (by kernel_rfl) (by kernel_rfl) [x0, x1] (by rw [Tryd.ntmps47]; exact Nat.le_of_ble_eq_true rfl) w0 R ((F47_eq x0 x1 R w0).mp h)

/-- canton/path.pattern$1, its body as a formula. -/
def F49 (x0 : Value) (R : Value → World → Prop) (w0 : World) : Prop :=
  BinK Tryd.prog Go.BinOp.neq 9 x0 (Go.Value.string { data := #[42] }) (@hid _ ⟨fun t4_1 w2 =>
  GuardK t4_1 true (fun k w => k x0 w) (@hid _ ⟨fun t6_3 w4 =>
  GuardK t4_1 true (fun k w => CallV Tryd.prog (.func (.func 34) #[] #[]) #[t6_3] k w) (@hid _ ⟨fun t7_5 w6 =>
  GuardK t4_1 true (fun k w => UnK Tryd.prog Go.UnOp.not t7_5 k w) (@hid _ ⟨fun t8_7 w8 =>
  PickK Tryd.prog t4_1 t8_7 (Go.Value.bool false) (@hid _ ⟨fun t9_9 w10 =>
  R t9_9 w10⟩) w8⟩) w6⟩) w4⟩) w2⟩) w0
def a49 : Ann := (.seq .no (.seq .no .no))
theorem F49_eq (x0 : Value) (R : Value → World → Prop) (w0 : World) : F49 x0 R w0 = vc Tryd.prog (bodyOf Tryd.f49) a49 (retQ Tryd.prog Tryd.f49 R) (envOf 0 [x0]) w0 := by kernel_rfl
theorem F49_calls (x0 : Value) (R : Value → World → Prop) (w0 : World) (h : F49 x0 R w0) : CallK Tryd.prog 49 #[x0] R w0 :=
  calls_vc (c := bodyOf Tryd.f49) Tryd.func49 (by kernel_rfl) (by kernel_rfl) a49 (by kernel_rfl) (by kernel_rfl) [x0] (by rw [Tryd.ntmps49]; exact Nat.le_of_ble_eq_true rfl) w0 R ((F49_eq x0 R w0).mp h)

/-- internal/stringslite.CutPrefix, its body as a formula. -/
def F50 (x0 x1 : Value) (R : Value → World → Prop) (w0 : World) : Prop :=
  CallV Tryd.prog (.func (.func 54) #[] #[]) #[x0, x1] (@hid _ ⟨fun t8_1 w2 =>
  UnK Tryd.prog Go.UnOp.not t8_1 (@hid _ ⟨fun t9_3 w4 =>
  BrK t9_3 (@hid _ ⟨
   R (.tuple #[x0, (Go.Value.bool false)]) w4⟩) (@hid _ ⟨
   BuiltinK Tryd.prog Go.Builtin.len #[9] 3 #[false] #[x1] (@hid _ ⟨fun t13_5 w6 =>
   SliceK Tryd.prog 9 x0 (some t13_5) none none (@hid _ ⟨fun t14_7 w8 =>
   R (.tuple #[t14_7, (Go.Value.bool true)]) w8⟩) w6⟩) w4⟩)⟩) w2⟩) w0
def a50 : Ann := (.seq .no (.seq (.seq .no (.cond (.seq .no .no) .no)) (.seq .no .no)))
theorem F50_eq (x0 x1 : Value) (R : Value → World → Prop) (w0 : World) : F50 x0 x1 R w0 = vc Tryd.prog (bodyOf Tryd.f50) a50 (retQ Tryd.prog Tryd.f50 R) (envOf 0 [x0, x1]) w0 := by kernel_rfl
theorem F50_calls (x0 x1 : Value) (R : Value → World → Prop) (w0 : World) (h : F50 x0 x1 R w0) : CallK Tryd.prog 50 #[x0, x1] R w0 :=
  calls_vc (c := bodyOf Tryd.f50) Tryd.func50 (by kernel_rfl) (by kernel_rfl) a50 (by kernel_rfl) (by kernel_rfl) [x0, x1] (by rw [Tryd.ntmps50]; exact Nat.le_of_ble_eq_true rfl) w0 R ((F50_eq x0 x1 R w0).mp h)

/-- internal/stringslite.HasPrefix, its body as a formula. -/
def F54 (x0 x1 : Value) (R : Value → World → Prop) (w0 : World) : Prop :=
  BuiltinK Tryd.prog Go.Builtin.len #[9] 3 #[false] #[x0] (@hid _ ⟨fun t6_1 w2 =>
  BuiltinK Tryd.prog Go.Builtin.len #[9] 3 #[false] #[x1] (@hid _ ⟨fun t8_3 w4 =>
  BinK Tryd.prog Go.BinOp.geq 3 t6_1 t8_3 (@hid _ ⟨fun t9_5 w6 =>
  GuardK t9_5 true (fun k w => k x0 w) (@hid _ ⟨fun t11_7 w8 =>
  GuardK t9_5 true (fun k w => k x1 w) (@hid _ ⟨fun t12_9 w10 =>
  GuardK t9_5 true (fun k w => BuiltinK Tryd.prog Go.Builtin.len #[9] 3 #[false] #[t12_9] k w) (@hid _ ⟨fun t13_11 w12 =>
  GuardK t9_5 true (fun k w => SliceK Tryd.prog 9 t11_7 none (some t13_11) none k w) (@hid _ ⟨fun t14_13 w14 =>
  GuardK t9_5 true (fun k w => k x1 w) (@hid _ ⟨fun t15_15 w16 =>
  GuardK t9_5 true (fun k w => BinK Tryd.prog Go.BinOp.eql 9 t14_13 t15_15 k w) (@hid _ ⟨fun t16_17 w18 =>
  PickK Tryd.prog t9_5 t16_17 (Go.Value.bool false) (@hid _ ⟨fun t17_19 w20 =>
  R t17_19 w20⟩) w18⟩) w16⟩) w14⟩) w12⟩) w10⟩) w8⟩) w6⟩) w4⟩) w2⟩) w0
def a54 : Ann := (.seq .no (.seq .no .no))
theorem F54_eq (x0 x1 : Value) (R : Value → World → Prop) (w0 : World) : F54 x0 x1 R w0 = vc Tryd.prog (bodyOf Tryd.f54) a54 (retQ Tryd.prog Tryd.f54 R) (envOf 0 [x0, x1]) w0 := by kernel_rfl
theorem F54_calls (x0 x1 : Value) (R : Value → World → Prop) (w0 : World) (h : F54 x0 x1 R w0) : CallK Tryd.prog 54 #[x0, x1] R w0 :=
  calls_vc (c := bodyOf Tryd.f54) Tryd.func54 (by kernel_rfl) (by kernel_rfl) a54 (by kernel_rfl) (by kernel_rfl) [x0, x1] (by rw [Tryd.ntmps54]; exact Nat.le_of_ble_eq_true rfl) w0 R ((F54_eq x0 x1 R w0).mp h)

end Go.Proofs.YtnlfnkblhnnaoaaDoor