/- ValueOrder: the walk. Conditions: the rows read. -/
import Derived.Test.YtdnlenngbaaeaaaDoorTextsLaw
set_option linter.unusedVariables false
set_option linter.unusedSimpArgs false
set_option maxRecDepth 100000
namespace Go.Proofs.YtdnlenngbaaeaaaDoor
open Go.RowKit Go.Cn
/-- A value that lies in a block. -/
def VBox (w : World) (b : Nat) (v : Val) (A : Option Addr) (c : Nat) : Prop := (w.cell? ⟨b, 0, none⟩ = some (.int .i64 v.1) ∧ w.cell? ⟨b, 1, none⟩ = some (.int .i64 v.2.1) ∧ w.cell? ⟨b, 2, none⟩ = some (.string v.2.2.1) ∧ w.cell? ⟨b, 3, none⟩ = some (.slice A v.2.2.2.length c)) ∧ Reads w A (ints v.2.2.2)
theorem VBox.of {w w' : World} {b : Nat} {v : Val} {A : Option Addr} {c : Nat} {t : TypeId} (h : w.heap[b]? = some (.cells #[.int .i64 v.1, .int .i64 v.2.1, .string v.2.2.1, .slice A v.2.2.2.length c] t (0, 0))) (r : Reads w A (ints v.2.2.2)) (q : Qt w w') : VBox w' b v A c := ⟨cell4 (q.heap h (fun h => h)), r.quiet q⟩
set_option maxHeartbeats 4000000 in
theorem valueOrder_any {a b c : Val} {A B C : Option Addr} {ca cb cc : Nat} {w : World} {K : Value → World → Prop} (he : Env2 w) (ha : Reads w A (ints a.2.2.2)) (hb : Reads w B (ints b.2.2.2)) (hc : Reads w C (ints c.2.2.2)) (hK : ∀ w', Qt w w' → K (.bool true) w') : CallK Tryd.prog 5 #[vv a A ca, vv b B cb, vv c C cc] K w := by
  refine F5_calls _ _ _ _ _ ?_; unfold F5
  obtain ⟨q1, h1⟩ := box4 w a A ca 24
  simp (maxSteps := 1000000) (disch := omega) only [hid1', hid2', guardK_u, takeG_u, wrap_in64, optK_some', fzK_false', nilK_ptr, brK_true', brK_false', guardK_tt', guardK_ff', guardK_tf', guardK_ft', takeG_tt', takeG_ff', takeG_tf', takeG_ft', pickK_t', pickK_f', pickT_t', pickT_f', notK, extract2_0', extract2_1', extract3_0', extract3_1', extract3_2', here_load, here_fieldAt, here_indexAt, here_extract, here_un, here_conv, here_slice, here_bin, here_nil, and_here, true_and, Nat.zero_add, Nat.add_assoc, Nat.add_zero, Int.toNat_natCast, size_alloc, World.cell?_drew, World.frozen?_drew, Bool.not_true, Bool.not_false, Int.toNat_zero, dec_t, dec_f, int_eq_t, int_eq_f, int_ne_t, int_ne_f, wrap_in, kbx24, kld24, kbeql4, kbgtr3, kbleq3, kblss3]
  have hs1 : (w.alloc (.cells #[.int .i64 a.1, .int .i64 a.2.1, .string a.2.2.1, .slice A a.2.2.2.length ca] 24)).heap.size = w.heap.size + 1 := size_alloc _ _
  generalize (w.alloc (.cells #[.int .i64 a.1, .int .i64 a.2.1, .string a.2.2.1, .slice A a.2.2.2.length ca] 24)) = w1 at *
  obtain ⟨q2, h2⟩ := box4 w1 b B cb 24
  have hs2 : (w1.alloc (.cells #[.int .i64 b.1, .int .i64 b.2.1, .string b.2.2.1, .slice B b.2.2.2.length cb] 24)).heap.size = w1.heap.size + 1 := size_alloc _ _
  generalize (w1.alloc (.cells #[.int .i64 b.1, .int .i64 b.2.1, .string b.2.2.1, .slice B b.2.2.2.length cb] 24)) = w2 at *
  obtain ⟨q3, h3⟩ := box4 w2 c C cc 24
  generalize (w2.alloc (.cells #[.int .i64 c.1, .int .i64 c.2.1, .string c.2.2.1, .slice C c.2.2.2.length cc] 24)) = w3 at *
  rw [hs1] at h2 hs2
  rw [hs2] at h3
  have q13 := q2.trans q3
  have q03 := q1.trans q13
  refine ck9 (known_any (he.quiet q03) ?_)
  intro w4 q4
  have X := fun w' (q : Qt w3 w') => VBox.of h1 (ha.quiet q1) (q13.trans q)
  have Y := fun w' (q : Qt w3 w') => VBox.of h2 (hb.quiet (q1.trans q2)) (q3.trans q)
  have Z := fun w' (q : Qt w3 w') => VBox.of h3 (hc.quiet q03) q
  have hf := fun w' (q : Qt w3 w') => hK w' (q03.trans q)
  generalize w.heap.size = g at *
  obtain ⟨⟨x0, x1, x2, x3⟩, _⟩ := X w4 q4
  simp (maxSteps := 1000000) (disch := omega) only [hid1', hid2', guardK_u, takeG_u, wrap_in64, optK_some', fzK_false', nilK_ptr, brK_true', brK_false', guardK_tt', guardK_ff', guardK_tf', guardK_ft', takeG_tt', takeG_ff', takeG_tf', takeG_ft', pickK_t', pickK_f', pickT_t', pickT_f', notK, extract2_0', extract2_1', extract3_0', extract3_1', extract3_2', here_load, here_fieldAt, here_indexAt, here_extract, here_un, here_conv, here_slice, here_bin, here_nil, and_here, true_and, Nat.zero_add, Nat.add_assoc, Nat.add_zero, Int.toNat_natCast, size_alloc, World.cell?_drew, World.frozen?_drew, Bool.not_true, Bool.not_false, Int.toNat_zero, dec_t, dec_f, int_eq_t, int_eq_f, int_ne_t, int_ne_f, wrap_in, kbx24, kld24, kbeql4, kbgtr3, kbleq3, kblss3, x0, x1, x2, x3]
  refine ck10 (few10 ?_)
  intro f1 w5 q5 i1
  have q35 := q4.trans q5
  obtain ⟨⟨y0, y1, y2, y3⟩, _⟩ := Y w5 q35
  cases f1 with
  | false =>
    simp (maxSteps := 1000000) (disch := omega) only [hid1', hid2', guardK_u, takeG_u, wrap_in64, optK_some', fzK_false', nilK_ptr, brK_true', brK_false', guardK_tt', guardK_ff', guardK_tf', guardK_ft', takeG_tt', takeG_ff', takeG_tf', takeG_ft', pickK_t', pickK_f', pickT_t', pickT_f', notK, extract2_0', extract2_1', extract3_0', extract3_1', extract3_2', here_load, here_fieldAt, here_indexAt, here_extract, here_un, here_conv, here_slice, here_bin, here_nil, and_here, true_and, Nat.zero_add, Nat.add_assoc, Nat.add_zero, Int.toNat_natCast, size_alloc, World.cell?_drew, World.frozen?_drew, Bool.not_true, Bool.not_false, Int.toNat_zero, dec_t, dec_f, int_eq_t, int_eq_f, int_ne_t, int_ne_f, wrap_in, kbx24, kld24, kbeql4, kbgtr3, kbleq3, kblss3, guardK_u]
    exact hf _ q35
  | true =>
  simp (maxSteps := 1000000) (disch := omega) only [hid1', hid2', guardK_u, takeG_u, wrap_in64, optK_some', fzK_false', nilK_ptr, brK_true', brK_false', guardK_tt', guardK_ff', guardK_tf', guardK_ft', takeG_tt', takeG_ff', takeG_tf', takeG_ft', pickK_t', pickK_f', pickT_t', pickT_f', notK, extract2_0', extract2_1', extract3_0', extract3_1', extract3_2', here_load, here_fieldAt, here_indexAt, here_extract, here_un, here_conv, here_slice, here_bin, here_nil, and_here, true_and, Nat.zero_add, Nat.add_assoc, Nat.add_zero, Int.toNat_natCast, size_alloc, World.cell?_drew, World.frozen?_drew, Bool.not_true, Bool.not_false, Int.toNat_zero, dec_t, dec_f, int_eq_t, int_eq_f, int_ne_t, int_ne_f, wrap_in, kbx24, kld24, kbeql4, kbgtr3, kbleq3, kblss3, y0, y1, y2, y3]
  refine ck10 (few10 ?_)
  intro f2 w6 q6 i2
  have q36 := q35.trans q6
  obtain ⟨⟨z0, z1, z2, z3⟩, _⟩ := Z w6 q36
  cases f2 with
  | false =>
    simp (maxSteps := 1000000) (disch := omega) only [hid1', hid2', guardK_u, takeG_u, wrap_in64, optK_some', fzK_false', nilK_ptr, brK_true', brK_false', guardK_tt', guardK_ff', guardK_tf', guardK_ft', takeG_tt', takeG_ff', takeG_tf', takeG_ft', pickK_t', pickK_f', pickT_t', pickT_f', notK, extract2_0', extract2_1', extract3_0', extract3_1', extract3_2', here_load, here_fieldAt, here_indexAt, here_extract, here_un, here_conv, here_slice, here_bin, here_nil, and_here, true_and, Nat.zero_add, Nat.add_assoc, Nat.add_zero, Int.toNat_natCast, size_alloc, World.cell?_drew, World.frozen?_drew, Bool.not_true, Bool.not_false, Int.toNat_zero, dec_t, dec_f, int_eq_t, int_eq_f, int_ne_t, int_ne_f, wrap_in, kbx24, kld24, kbeql4, kbgtr3, kbleq3, kblss3, guardK_u]
    exact hf _ q36
  | true =>
  simp (maxSteps := 1000000) (disch := omega) only [hid1', hid2', guardK_u, takeG_u, wrap_in64, optK_some', fzK_false', nilK_ptr, brK_true', brK_false', guardK_tt', guardK_ff', guardK_tf', guardK_ft', takeG_tt', takeG_ff', takeG_tf', takeG_ft', pickK_t', pickK_f', pickT_t', pickT_f', notK, extract2_0', extract2_1', extract3_0', extract3_1', extract3_2', here_load, here_fieldAt, here_indexAt, here_extract, here_un, here_conv, here_slice, here_bin, here_nil, and_here, true_and, Nat.zero_add, Nat.add_assoc, Nat.add_zero, Int.toNat_natCast, size_alloc, World.cell?_drew, World.frozen?_drew, Bool.not_true, Bool.not_false, Int.toNat_zero, dec_t, dec_f, int_eq_t, int_eq_f, int_ne_t, int_ne_f, wrap_in, kbx24, kld24, kbeql4, kbgtr3, kbleq3, kblss3, z0, z1, z2, z3]
  refine ck10 (few10 ?_)
  intro f3 w7 q7 i3
  have q37 := q36.trans q7
  cases f3 with
  | false =>
    simp (maxSteps := 1000000) (disch := omega) only [hid1', hid2', guardK_u, takeG_u, wrap_in64, optK_some', fzK_false', nilK_ptr, brK_true', brK_false', guardK_tt', guardK_ff', guardK_tf', guardK_ft', takeG_tt', takeG_ff', takeG_tf', takeG_ft', pickK_t', pickK_f', pickT_t', pickT_f', notK, extract2_0', extract2_1', extract3_0', extract3_1', extract3_2', here_load, here_fieldAt, here_indexAt, here_extract, here_un, here_conv, here_slice, here_bin, here_nil, and_here, true_and, Nat.zero_add, Nat.add_assoc, Nat.add_zero, Int.toNat_natCast, size_alloc, World.cell?_drew, World.frozen?_drew, Bool.not_true, Bool.not_false, Int.toNat_zero, dec_t, dec_f, int_eq_t, int_eq_f, int_ne_t, int_ne_f, wrap_in, kbx24, kld24, kbeql4, kbgtr3, kbleq3, kblss3, guardK_u]
    exact hf _ q37
  | true =>
  obtain ⟨_, ga⟩ := i1.1 rfl
  obtain ⟨_, gb⟩ := i2.1 rfl
  obtain ⟨_, gc⟩ := i3.1 rfl
  have la : a.2.2.2.length ≤ 9223372036854775807 := by omega
  have lb : b.2.2.2.length ≤ 9223372036854775807 := by omega
  have lc : c.2.2.2.length ≤ 9223372036854775807 := by omega
  obtain ⟨⟨x0, x1, x2, x3⟩, xr⟩ := X w7 q37
  obtain ⟨⟨y0, y1, y2, y3⟩, yr⟩ := Y w7 q37
  simp (maxSteps := 1000000) (disch := omega) only [hid1', hid2', guardK_u, takeG_u, wrap_in64, optK_some', fzK_false', nilK_ptr, brK_true', brK_false', guardK_tt', guardK_ff', guardK_tf', guardK_ft', takeG_tt', takeG_ff', takeG_tf', takeG_ft', pickK_t', pickK_f', pickT_t', pickT_f', notK, extract2_0', extract2_1', extract3_0', extract3_1', extract3_2', here_load, here_fieldAt, here_indexAt, here_extract, here_un, here_conv, here_slice, here_bin, here_nil, and_here, true_and, Nat.zero_add, Nat.add_assoc, Nat.add_zero, Int.toNat_natCast, size_alloc, World.cell?_drew, World.frozen?_drew, Bool.not_true, Bool.not_false, Int.toNat_zero, dec_t, dec_f, int_eq_t, int_eq_f, int_ne_t, int_ne_f, wrap_in, kbx24, kld24, kbeql4, kbgtr3, kbleq3, kblss3, x0, x1, x2, x3, y0, y1, y2, y3]
  refine ck15 (cmp15 (a := a) (b := b) xr yr la lb ?_)
  intro w8 q8
  have q38 := q37.trans q8
  obtain ⟨⟨z0, z1, z2, z3⟩, zr⟩ := Z w8 q38
  obtain ⟨⟨y0, y1, y2, y3⟩, yr⟩ := Y w8 q38
  simp (maxSteps := 1000000) (disch := omega) only [hid1', hid2', guardK_u, takeG_u, wrap_in64, optK_some', fzK_false', nilK_ptr, brK_true', brK_false', guardK_tt', guardK_ff', guardK_tf', guardK_ft', takeG_tt', takeG_ff', takeG_tf', takeG_ft', pickK_t', pickK_f', pickT_t', pickT_f', notK, extract2_0', extract2_1', extract3_0', extract3_1', extract3_2', here_load, here_fieldAt, here_indexAt, here_extract, here_un, here_conv, here_slice, here_bin, here_nil, and_here, true_and, Nat.zero_add, Nat.add_assoc, Nat.add_zero, Int.toNat_natCast, size_alloc, World.cell?_drew, World.frozen?_drew, Bool.not_true, Bool.not_false, Int.toNat_zero, dec_t, dec_f, int_eq_t, int_eq_f, int_ne_t, int_ne_f, wrap_in, kbx24, kld24, kbeql4, kbgtr3, kbleq3, kblss3, y0, y1, y2, y3, z0, z1, z2, z3]
  refine ck15 (cmp15 (a := b) (b := c) yr zr lb lc ?_)
  intro w9 q9
  have q39 := q38.trans q9
  obtain ⟨⟨x0, x1, x2, x3⟩, xr⟩ := X w9 q39
  obtain ⟨⟨z0, z1, z2, z3⟩, zr⟩ := Z w9 q39
  have htr := cmpL_trans (keyV a) (keyV b) (keyV c)
  have e1 : cmpV a b = cmpL (keyV a) (keyV b) := rfl
  have e2 : cmpV b c = cmpL (keyV b) (keyV c) := rfl
  have e3 : cmpV a c = cmpL (keyV a) (keyV c) := rfl
  rw [← e1, ← e2, ← e3] at htr
  generalize cmpV a b = x at *
  generalize cmpV b c = y at *
  by_cases g1 : 0 < x
  · simp (maxSteps := 1000000) (disch := omega) only [hid1', hid2', guardK_u, takeG_u, wrap_in64, optK_some', fzK_false', nilK_ptr, brK_true', brK_false', guardK_tt', guardK_ff', guardK_tf', guardK_ft', takeG_tt', takeG_ff', takeG_tf', takeG_ft', pickK_t', pickK_f', pickT_t', pickT_f', notK, extract2_0', extract2_1', extract3_0', extract3_1', extract3_2', here_load, here_fieldAt, here_indexAt, here_extract, here_un, here_conv, here_slice, here_bin, here_nil, and_here, true_and, Nat.zero_add, Nat.add_assoc, Nat.add_zero, Int.toNat_natCast, size_alloc, World.cell?_drew, World.frozen?_drew, Bool.not_true, Bool.not_false, Int.toNat_zero, dec_t, dec_f, int_eq_t, int_eq_f, int_ne_t, int_ne_f, wrap_in, kbx24, kld24, kbeql4, kbgtr3, kbleq3, kblss3, guardK_u]
    exact hf _ q39
  by_cases g2 : 0 < y
  · simp (maxSteps := 1000000) (disch := omega) only [hid1', hid2', guardK_u, takeG_u, wrap_in64, optK_some', fzK_false', nilK_ptr, brK_true', brK_false', guardK_tt', guardK_ff', guardK_tf', guardK_ft', takeG_tt', takeG_ff', takeG_tf', takeG_ft', pickK_t', pickK_f', pickT_t', pickT_f', notK, extract2_0', extract2_1', extract3_0', extract3_1', extract3_2', here_load, here_fieldAt, here_indexAt, here_extract, here_un, here_conv, here_slice, here_bin, here_nil, and_here, true_and, Nat.zero_add, Nat.add_assoc, Nat.add_zero, Int.toNat_natCast, size_alloc, World.cell?_drew, World.frozen?_drew, Bool.not_true, Bool.not_false, Int.toNat_zero, dec_t, dec_f, int_eq_t, int_eq_f, int_ne_t, int_ne_f, wrap_in, kbx24, kld24, kbeql4, kbgtr3, kbleq3, kblss3, guardK_u]
    exact hf _ q39
  obtain ⟨t1, t2⟩ := htr (by omega) (by omega)
  simp (maxSteps := 1000000) (disch := omega) only [hid1', hid2', guardK_u, takeG_u, wrap_in64, optK_some', fzK_false', nilK_ptr, brK_true', brK_false', guardK_tt', guardK_ff', guardK_tf', guardK_ft', takeG_tt', takeG_ff', takeG_tf', takeG_ft', pickK_t', pickK_f', pickT_t', pickT_f', notK, extract2_0', extract2_1', extract3_0', extract3_1', extract3_2', here_load, here_fieldAt, here_indexAt, here_extract, here_un, here_conv, here_slice, here_bin, here_nil, and_here, true_and, Nat.zero_add, Nat.add_assoc, Nat.add_zero, Int.toNat_natCast, size_alloc, World.cell?_drew, World.frozen?_drew, Bool.not_true, Bool.not_false, Int.toNat_zero, dec_t, dec_f, int_eq_t, int_eq_f, int_ne_t, int_ne_f, wrap_in, kbx24, kld24, kbeql4, kbgtr3, kbleq3, kblss3, x0, x1, x2, x3, z0, z1, z2, z3]
  refine ck15 (cmp15 (a := a) (b := c) xr zr la lc ?_)
  intro w10 q10
  have fin := hf _ (q39.trans q10)
  generalize cmpV a c = z at *
  by_cases g3 : x < 0
  · have g4 : z < 0 := t2.2 (.inl g3)
    simp (maxSteps := 1000000) (disch := omega) only [hid1', hid2', guardK_u, takeG_u, wrap_in64, optK_some', fzK_false', nilK_ptr, brK_true', brK_false', guardK_tt', guardK_ff', guardK_tf', guardK_ft', takeG_tt', takeG_ff', takeG_tf', takeG_ft', pickK_t', pickK_f', pickT_t', pickT_f', notK, extract2_0', extract2_1', extract3_0', extract3_1', extract3_2', here_load, here_fieldAt, here_indexAt, here_extract, here_un, here_conv, here_slice, here_bin, here_nil, and_here, true_and, Nat.zero_add, Nat.add_assoc, Nat.add_zero, Int.toNat_natCast, size_alloc, World.cell?_drew, World.frozen?_drew, Bool.not_true, Bool.not_false, Int.toNat_zero, dec_t, dec_f, int_eq_t, int_eq_f, int_ne_t, int_ne_f, wrap_in, kbx24, kld24, kbeql4, kbgtr3, kbleq3, kblss3, guardK_u, btt]
    exact fin
  · by_cases g5 : y < 0
    · have g4 : z < 0 := t2.2 (.inr g5)
      simp (maxSteps := 1000000) (disch := omega) only [hid1', hid2', guardK_u, takeG_u, wrap_in64, optK_some', fzK_false', nilK_ptr, brK_true', brK_false', guardK_tt', guardK_ff', guardK_tf', guardK_ft', takeG_tt', takeG_ff', takeG_tf', takeG_ft', pickK_t', pickK_f', pickT_t', pickT_f', notK, extract2_0', extract2_1', extract3_0', extract3_1', extract3_2', here_load, here_fieldAt, here_indexAt, here_extract, here_un, here_conv, here_slice, here_bin, here_nil, and_here, true_and, Nat.zero_add, Nat.add_assoc, Nat.add_zero, Int.toNat_natCast, size_alloc, World.cell?_drew, World.frozen?_drew, Bool.not_true, Bool.not_false, Int.toNat_zero, dec_t, dec_f, int_eq_t, int_eq_f, int_ne_t, int_ne_f, wrap_in, kbx24, kld24, kbeql4, kbgtr3, kbleq3, kblss3, guardK_u, btt]
      exact fin
    · have g4 : ¬ z < 0 := fun h => (t2.1 h).elim g3 g5
      simp (maxSteps := 1000000) (disch := omega) only [hid1', hid2', guardK_u, takeG_u, wrap_in64, optK_some', fzK_false', nilK_ptr, brK_true', brK_false', guardK_tt', guardK_ff', guardK_tf', guardK_ft', takeG_tt', takeG_ff', takeG_tf', takeG_ft', pickK_t', pickK_f', pickT_t', pickT_f', notK, extract2_0', extract2_1', extract3_0', extract3_1', extract3_2', here_load, here_fieldAt, here_indexAt, here_extract, here_un, here_conv, here_slice, here_bin, here_nil, and_here, true_and, Nat.zero_add, Nat.add_assoc, Nat.add_zero, Int.toNat_natCast, size_alloc, World.cell?_drew, World.frozen?_drew, Bool.not_true, Bool.not_false, Int.toNat_zero, dec_t, dec_f, int_eq_t, int_eq_f, int_ne_t, int_ne_f, wrap_in, kbx24, kld24, kbeql4, kbgtr3, kbleq3, kblss3, guardK_u, bff]
      exact fin
end Go.Proofs.YtdnlenngbaaeaaaDoor
