/- ValueAny: the walk. Conditions: the rows read, the numbers are int64. -/
import Derived.Test.YtdnlenngbaaeaaaDoorOrdLaw
set_option linter.unusedVariables false
set_option linter.unusedSimpArgs false
set_option maxRecDepth 100000
namespace Go.Proofs.YtdnlenngbaaeaaaDoor
open Go.RowKit Go.Cn
theorem text_len {a : Val} (h : checkV a = 0) (hi : in64 a.2.1) (hl : ∀ x ∈ a.2.2.2, in64 x) : (textV a).length ≤ 1000 := by
  unfold checkV at h
  unfold textV
  by_cases k1 : a.1 = 1
  · rw [if_pos k1]; have := itoa_len hi; omega
  · rw [if_neg k1] at h ⊢
    by_cases k2 : a.1 = 2
    · rw [if_pos k2] at h ⊢
      unfold textE at h
      split at h
      · cases h
      · simp only [List.length_append, List.length_cons, List.length_nil]; omega
    · rw [if_neg k2] at h ⊢
      by_cases k3 : a.1 = 3
      · rw [if_pos k3] at h ⊢
        unfold listE at h
        split at h
        · cases h
        · have := joins_len a.2.2.2 hl
          simp only [List.length_append, List.length_cons, List.length_nil]; omega
      · rw [if_neg k3] at h; cases h
set_option maxHeartbeats 8000000 in
theorem valueAny_any {a b : Val} {A B : Option Addr} {ca cb : Nat} {w : World} {K : Value → World → Prop} (he : Env2 w) (ha : Reads w A (ints a.2.2.2)) (hb : Reads w B (ints b.2.2.2)) (ia : in64 a.2.1) (ja : ∀ x ∈ a.2.2.2, in64 x) (hK : ∀ w', Qt w w' → K (.bool true) w') : CallK Tryd.prog 3 #[vv a A ca, vv b B cb] K w := by
  refine F3_calls _ _ _ _ ?_; unfold F3
  obtain ⟨q1, h1⟩ := box4 w a A ca 24
  simp (maxSteps := 1000000) (disch := omega) only [hid1', hid2', guardK_u, takeG_u, wrap_in64, optK_some', fzK_false', nilK_ptr, brK_true', brK_false', guardK_tt', guardK_ff', guardK_tf', guardK_ft', takeG_tt', takeG_ff', takeG_tf', takeG_ft', pickK_t', pickK_f', pickT_t', pickT_f', notK, extract2_0', extract2_1', extract3_0', extract3_1', extract3_2', here_load, here_fieldAt, here_indexAt, here_extract, here_un, here_conv, here_slice, here_bin, here_nil, and_here, true_and, Nat.zero_add, Nat.add_assoc, Nat.add_zero, Int.toNat_natCast, size_alloc, World.cell?_drew, World.frozen?_drew, Bool.not_true, Bool.not_false, Int.toNat_zero, dec_t, dec_f, int_eq_t, int_eq_f, int_ne_t, int_ne_f, wrap_in, kbx24, kld24, kbneq3, kbsub3, kbneq9, kal24, kst24f, kbeql3, kbeql4]
  have hs1 : (w.alloc (.cells #[.int .i64 a.1, .int .i64 a.2.1, .string a.2.2.1, .slice A a.2.2.2.length ca] 24)).heap.size = w.heap.size + 1 := size_alloc _ _
  generalize (w.alloc (.cells #[.int .i64 a.1, .int .i64 a.2.1, .string a.2.2.1, .slice A a.2.2.2.length ca] 24)) = w1 at *
  obtain ⟨q2, h2⟩ := box4 w1 b B cb 24
  generalize (w1.alloc (.cells #[.int .i64 b.1, .int .i64 b.2.1, .string b.2.2.1, .slice B b.2.2.2.length cb] 24)) = w2 at *
  rw [hs1] at h2
  have q02 := q1.trans q2
  have he2 := he.quiet q02
  refine ck9 (known_any he2 ?_)
  intro w4 q4
  have X := fun w' (q : Qt w2 w') => VBox.of h1 (ha.quiet q1) (q2.trans q)
  have Y := fun w' (q : Qt w2 w') => VBox.of h2 (hb.quiet q02) q
  have hf := fun w' (q : Qt w2 w') => hK w' (q02.trans q)
  clear hK h1 h2 hs1 ha hb he q1 q2 q02
  generalize w.heap.size = g at *
  obtain ⟨⟨x0, x1, x2, x3⟩, _⟩ := X w4 q4
  simp (maxSteps := 1000000) (disch := omega) only [hid1', hid2', guardK_u, takeG_u, wrap_in64, optK_some', fzK_false', nilK_ptr, brK_true', brK_false', guardK_tt', guardK_ff', guardK_tf', guardK_ft', takeG_tt', takeG_ff', takeG_tf', takeG_ft', pickK_t', pickK_f', pickT_t', pickT_f', notK, extract2_0', extract2_1', extract3_0', extract3_1', extract3_2', here_load, here_fieldAt, here_indexAt, here_extract, here_un, here_conv, here_slice, here_bin, here_nil, and_here, true_and, Nat.zero_add, Nat.add_assoc, Nat.add_zero, Int.toNat_natCast, size_alloc, World.cell?_drew, World.frozen?_drew, Bool.not_true, Bool.not_false, Int.toNat_zero, dec_t, dec_f, int_eq_t, int_eq_f, int_ne_t, int_ne_f, wrap_in, kbx24, kld24, kbneq3, kbsub3, kbneq9, kal24, kst24f, kbeql3, kbeql4, x0, x1, x2, x3]
  refine ck10 (few10 ?_)
  intro f1 w5 q5 i1
  have q25 := q4.trans q5
  obtain ⟨⟨y0, y1, y2, y3⟩, _⟩ := Y w5 q25
  cases f1 with
  | false =>
    simp (maxSteps := 1000000) (disch := omega) only [hid1', hid2', guardK_u, takeG_u, wrap_in64, optK_some', fzK_false', nilK_ptr, brK_true', brK_false', guardK_tt', guardK_ff', guardK_tf', guardK_ft', takeG_tt', takeG_ff', takeG_tf', takeG_ft', pickK_t', pickK_f', pickT_t', pickT_f', notK, extract2_0', extract2_1', extract3_0', extract3_1', extract3_2', here_load, here_fieldAt, here_indexAt, here_extract, here_un, here_conv, here_slice, here_bin, here_nil, and_here, true_and, Nat.zero_add, Nat.add_assoc, Nat.add_zero, Int.toNat_natCast, size_alloc, World.cell?_drew, World.frozen?_drew, Bool.not_true, Bool.not_false, Int.toNat_zero, dec_t, dec_f, int_eq_t, int_eq_f, int_ne_t, int_ne_f, wrap_in, kbx24, kld24, kbneq3, kbsub3, kbneq9, kal24, kst24f, kbeql3, kbeql4, guardK_u]
    exact hf _ q25
  | true =>
  simp (maxSteps := 1000000) (disch := omega) only [hid1', hid2', guardK_u, takeG_u, wrap_in64, optK_some', fzK_false', nilK_ptr, brK_true', brK_false', guardK_tt', guardK_ff', guardK_tf', guardK_ft', takeG_tt', takeG_ff', takeG_tf', takeG_ft', pickK_t', pickK_f', pickT_t', pickT_f', notK, extract2_0', extract2_1', extract3_0', extract3_1', extract3_2', here_load, here_fieldAt, here_indexAt, here_extract, here_un, here_conv, here_slice, here_bin, here_nil, and_here, true_and, Nat.zero_add, Nat.add_assoc, Nat.add_zero, Int.toNat_natCast, size_alloc, World.cell?_drew, World.frozen?_drew, Bool.not_true, Bool.not_false, Int.toNat_zero, dec_t, dec_f, int_eq_t, int_eq_f, int_ne_t, int_ne_f, wrap_in, kbx24, kld24, kbneq3, kbsub3, kbneq9, kal24, kst24f, kbeql3, kbeql4, y0, y1, y2, y3]
  refine ck10 (few10 ?_)
  intro f2 w6 q6 i2
  have q26 := q25.trans q6
  cases f2 with
  | false =>
    simp (maxSteps := 1000000) (disch := omega) only [hid1', hid2', guardK_u, takeG_u, wrap_in64, optK_some', fzK_false', nilK_ptr, brK_true', brK_false', guardK_tt', guardK_ff', guardK_tf', guardK_ft', takeG_tt', takeG_ff', takeG_tf', takeG_ft', pickK_t', pickK_f', pickT_t', pickT_f', notK, extract2_0', extract2_1', extract3_0', extract3_1', extract3_2', here_load, here_fieldAt, here_indexAt, here_extract, here_un, here_conv, here_slice, here_bin, here_nil, and_here, true_and, Nat.zero_add, Nat.add_assoc, Nat.add_zero, Int.toNat_natCast, size_alloc, World.cell?_drew, World.frozen?_drew, Bool.not_true, Bool.not_false, Int.toNat_zero, dec_t, dec_f, int_eq_t, int_eq_f, int_ne_t, int_ne_f, wrap_in, kbx24, kld24, kbneq3, kbsub3, kbneq9, kal24, kst24f, kbeql3, kbeql4, guardK_u]
    exact hf _ q26
  | true =>
  obtain ⟨sa, ga⟩ := i1.1 rfl
  obtain ⟨sb, gb⟩ := i2.1 rfl
  have la : a.2.2.2.length ≤ 9223372036854775807 := by omega
  have lb : b.2.2.2.length ≤ 9223372036854775807 := by omega
  obtain ⟨⟨x0, x1, x2, x3⟩, xr⟩ := X w6 q26
  simp (maxSteps := 1000000) (disch := omega) only [hid1', hid2', guardK_u, takeG_u, wrap_in64, optK_some', fzK_false', nilK_ptr, brK_true', brK_false', guardK_tt', guardK_ff', guardK_tf', guardK_ft', takeG_tt', takeG_ff', takeG_tf', takeG_ft', pickK_t', pickK_f', pickT_t', pickT_f', notK, extract2_0', extract2_1', extract3_0', extract3_1', extract3_2', here_load, here_fieldAt, here_indexAt, here_extract, here_un, here_conv, here_slice, here_bin, here_nil, and_here, true_and, Nat.zero_add, Nat.add_assoc, Nat.add_zero, Int.toNat_natCast, size_alloc, World.cell?_drew, World.frozen?_drew, Bool.not_true, Bool.not_false, Int.toNat_zero, dec_t, dec_f, int_eq_t, int_eq_f, int_ne_t, int_ne_f, wrap_in, kbx24, kld24, kbneq3, kbsub3, kbneq9, kal24, kst24f, kbeql3, kbeql4, x0, x1, x2, x3]
  refine ck12 (of12 ?_)
  intro w7 q7
  have q27 := q26.trans q7
  simp (maxSteps := 1000000) (disch := omega) only [hid1', hid2', guardK_u, takeG_u, wrap_in64, optK_some', fzK_false', nilK_ptr, brK_true', brK_false', guardK_tt', guardK_ff', guardK_tf', guardK_ft', takeG_tt', takeG_ff', takeG_tf', takeG_ft', pickK_t', pickK_f', pickT_t', pickT_f', notK, extract2_0', extract2_1', extract3_0', extract3_1', extract3_2', here_load, here_fieldAt, here_indexAt, here_extract, here_un, here_conv, here_slice, here_bin, here_nil, and_here, true_and, Nat.zero_add, Nat.add_assoc, Nat.add_zero, Int.toNat_natCast, size_alloc, World.cell?_drew, World.frozen?_drew, Bool.not_true, Bool.not_false, Int.toNat_zero, dec_t, dec_f, int_eq_t, int_eq_f, int_ne_t, int_ne_f, wrap_in, kbx24, kld24, kbneq3, kbsub3, kbneq9, kal24, kst24f, kbeql3, kbeql4]
  refine ck11 (check11 (a := a) (X w7 q27).2 la (by omega) ?_)
  intro w8 q8
  have q28 := q27.trans q8
  obtain ⟨⟨y0, y1, y2, y3⟩, yr⟩ := Y w8 q28
  simp (maxSteps := 1000000) (disch := omega) only [hid1', hid2', guardK_u, takeG_u, wrap_in64, optK_some', fzK_false', nilK_ptr, brK_true', brK_false', guardK_tt', guardK_ff', guardK_tf', guardK_ft', takeG_tt', takeG_ff', takeG_tf', takeG_ft', pickK_t', pickK_f', pickT_t', pickT_f', notK, extract2_0', extract2_1', extract3_0', extract3_1', extract3_2', here_load, here_fieldAt, here_indexAt, here_extract, here_un, here_conv, here_slice, here_bin, here_nil, and_here, true_and, Nat.zero_add, Nat.add_assoc, Nat.add_zero, Int.toNat_natCast, size_alloc, World.cell?_drew, World.frozen?_drew, Bool.not_true, Bool.not_false, Int.toNat_zero, dec_t, dec_f, int_eq_t, int_eq_f, int_ne_t, int_ne_f, wrap_in, kbx24, kld24, kbneq3, kbsub3, kbneq9, kal24, kst24f, kbeql3, kbeql4, y0, y1, y2, y3]
  refine ck12 (of12 ?_)
  intro w9 q9
  have q29 := q28.trans q9
  simp (maxSteps := 1000000) (disch := omega) only [hid1', hid2', guardK_u, takeG_u, wrap_in64, optK_some', fzK_false', nilK_ptr, brK_true', brK_false', guardK_tt', guardK_ff', guardK_tf', guardK_ft', takeG_tt', takeG_ff', takeG_tf', takeG_ft', pickK_t', pickK_f', pickT_t', pickT_f', notK, extract2_0', extract2_1', extract3_0', extract3_1', extract3_2', here_load, here_fieldAt, here_indexAt, here_extract, here_un, here_conv, here_slice, here_bin, here_nil, and_here, true_and, Nat.zero_add, Nat.add_assoc, Nat.add_zero, Int.toNat_natCast, size_alloc, World.cell?_drew, World.frozen?_drew, Bool.not_true, Bool.not_false, Int.toNat_zero, dec_t, dec_f, int_eq_t, int_eq_f, int_ne_t, int_ne_f, wrap_in, kbx24, kld24, kbneq3, kbsub3, kbneq9, kal24, kst24f, kbeql3, kbeql4]
  refine ck11 (check11 (a := b) (Y w9 q29).2 lb (by omega) ?_)
  intro w10 q10
  have q210 := q29.trans q10
  obtain ⟨⟨x0, x1, x2, x3⟩, xr⟩ := X w10 q210
  simp (maxSteps := 1000000) (disch := omega) only [hid1', hid2', guardK_u, takeG_u, wrap_in64, optK_some', fzK_false', nilK_ptr, brK_true', brK_false', guardK_tt', guardK_ff', guardK_tf', guardK_ft', takeG_tt', takeG_ff', takeG_tf', takeG_ft', pickK_t', pickK_f', pickT_t', pickT_f', notK, extract2_0', extract2_1', extract3_0', extract3_1', extract3_2', here_load, here_fieldAt, here_indexAt, here_extract, here_un, here_conv, here_slice, here_bin, here_nil, and_here, true_and, Nat.zero_add, Nat.add_assoc, Nat.add_zero, Int.toNat_natCast, size_alloc, World.cell?_drew, World.frozen?_drew, Bool.not_true, Bool.not_false, Int.toNat_zero, dec_t, dec_f, int_eq_t, int_eq_f, int_ne_t, int_ne_f, wrap_in, kbx24, kld24, kbneq3, kbsub3, kbneq9, kal24, kst24f, kbeql3, kbeql4, x0, x1, x2, x3]
  refine ck13 (check13 (a := a) xr la (by omega) ?_)
  intro w11 q11
  have q211 := q210.trans q11
  obtain ⟨⟨y0, y1, y2, y3⟩, yr⟩ := Y w11 q211
  have ec : (checkV a != checkV a) = false := by simp
  have ed : (checkV b != checkV b) = false := by simp
  simp (maxSteps := 1000000) (disch := omega) only [hid1', hid2', guardK_u, takeG_u, wrap_in64, optK_some', fzK_false', nilK_ptr, brK_true', brK_false', guardK_tt', guardK_ff', guardK_tf', guardK_ft', takeG_tt', takeG_ff', takeG_tf', takeG_ft', pickK_t', pickK_f', pickT_t', pickT_f', notK, extract2_0', extract2_1', extract3_0', extract3_1', extract3_2', here_load, here_fieldAt, here_indexAt, here_extract, here_un, here_conv, here_slice, here_bin, here_nil, and_here, true_and, Nat.zero_add, Nat.add_assoc, Nat.add_zero, Int.toNat_natCast, size_alloc, World.cell?_drew, World.frozen?_drew, Bool.not_true, Bool.not_false, Int.toNat_zero, dec_t, dec_f, int_eq_t, int_eq_f, int_ne_t, int_ne_f, wrap_in, kbx24, kld24, kbneq3, kbsub3, kbneq9, kal24, kst24f, kbeql3, kbeql4, ec, y0, y1, y2, y3]
  refine ck13 (check13 (a := b) yr lb (by omega) ?_)
  intro w12 q12
  have q212 := q211.trans q12
  simp (maxSteps := 1000000) (disch := omega) only [hid1', hid2', guardK_u, takeG_u, wrap_in64, optK_some', fzK_false', nilK_ptr, brK_true', brK_false', guardK_tt', guardK_ff', guardK_tf', guardK_ft', takeG_tt', takeG_ff', takeG_tf', takeG_ft', pickK_t', pickK_f', pickT_t', pickT_f', notK, extract2_0', extract2_1', extract3_0', extract3_1', extract3_2', here_load, here_fieldAt, here_indexAt, here_extract, here_un, here_conv, here_slice, here_bin, here_nil, and_here, true_and, Nat.zero_add, Nat.add_assoc, Nat.add_zero, Int.toNat_natCast, size_alloc, World.cell?_drew, World.frozen?_drew, Bool.not_true, Bool.not_false, Int.toNat_zero, dec_t, dec_f, int_eq_t, int_eq_f, int_ne_t, int_ne_f, wrap_in, kbx24, kld24, kbneq3, kbsub3, kbneq9, kal24, kst24f, kbeql3, kbeql4, ed]
  clear q4 q5 q25 q6 q26 q7 q27 q8 q28 q9 q29 q10 q210 q11 q211 q12
  refine drawK_by (fun w' => Qt w2 w') (q212.trans (Qt.drew Qt.refl)) ?_
  refine take_load (vv a A ca) (fun w' hq => by obtain ⟨⟨h0, h1, h2, h3⟩, _⟩ := X w' hq; (simp (maxSteps := 1000000) (disch := omega) only [hid1', hid2', guardK_u, takeG_u, wrap_in64, optK_some', fzK_false', nilK_ptr, brK_true', brK_false', guardK_tt', guardK_ff', guardK_tf', guardK_ft', takeG_tt', takeG_ff', takeG_tf', takeG_ft', pickK_t', pickK_f', pickT_t', pickT_f', notK, extract2_0', extract2_1', extract3_0', extract3_1', extract3_2', here_load, here_fieldAt, here_indexAt, here_extract, here_un, here_conv, here_slice, here_bin, here_nil, and_here, true_and, Nat.zero_add, Nat.add_assoc, Nat.add_zero, Int.toNat_natCast, size_alloc, World.cell?_drew, World.frozen?_drew, Bool.not_true, Bool.not_false, Int.toNat_zero, dec_t, dec_f, int_eq_t, int_eq_f, int_ne_t, int_ne_f, wrap_in, kbx24, kld24, kbneq3, kbsub3, kbneq9, kal24, kst24f, kbeql3, kbeql4, h0, h1, h2, h3]) <;> exact ⟨rfl, rfl⟩) ?_
  refine take_load (vv b B cb) (fun w' hq => by obtain ⟨⟨h0, h1, h2, h3⟩, _⟩ := Y w' hq; (simp (maxSteps := 1000000) (disch := omega) only [hid1', hid2', guardK_u, takeG_u, wrap_in64, optK_some', fzK_false', nilK_ptr, brK_true', brK_false', guardK_tt', guardK_ff', guardK_tf', guardK_ft', takeG_tt', takeG_ff', takeG_tf', takeG_ft', pickK_t', pickK_f', pickT_t', pickT_f', notK, extract2_0', extract2_1', extract3_0', extract3_1', extract3_2', here_load, here_fieldAt, here_indexAt, here_extract, here_un, here_conv, here_slice, here_bin, here_nil, and_here, true_and, Nat.zero_add, Nat.add_assoc, Nat.add_zero, Int.toNat_natCast, size_alloc, World.cell?_drew, World.frozen?_drew, Bool.not_true, Bool.not_false, Int.toNat_zero, dec_t, dec_f, int_eq_t, int_eq_f, int_ne_t, int_ne_f, wrap_in, kbx24, kld24, kbneq3, kbsub3, kbneq9, kal24, kst24f, kbeql3, kbeql4, h0, h1, h2, h3]) <;> exact ⟨rfl, rfl⟩) ?_
  have q213 : Qt w2 w12.drew := q212.trans (Qt.drew Qt.refl)
  generalize w12.drew = w13 at *
  refine ⟨?_, trivial⟩
  refine ck12 (of12 ?_)
  intro w14 q14
  have q214 := q213.trans q14
  simp (maxSteps := 1000000) (disch := omega) only [hid1', hid2', guardK_u, takeG_u, wrap_in64, optK_some', fzK_false', nilK_ptr, brK_true', brK_false', guardK_tt', guardK_ff', guardK_tf', guardK_ft', takeG_tt', takeG_ff', takeG_tf', takeG_ft', pickK_t', pickK_f', pickT_t', pickT_f', notK, extract2_0', extract2_1', extract3_0', extract3_1', extract3_2', here_load, here_fieldAt, here_indexAt, here_extract, here_un, here_conv, here_slice, here_bin, here_nil, and_here, true_and, Nat.zero_add, Nat.add_assoc, Nat.add_zero, Int.toNat_natCast, size_alloc, World.cell?_drew, World.frozen?_drew, Bool.not_true, Bool.not_false, Int.toNat_zero, dec_t, dec_f, int_eq_t, int_eq_f, int_ne_t, int_ne_f, wrap_in, kbx24, kld24, kbneq3, kbsub3, kbneq9, kal24, kst24f, kbeql3, kbeql4]
  refine ⟨q214, ?_, trivial⟩
  refine ck12 (of12 ?_)
  intro w15 q15
  have q215 := q214.trans q15
  simp (maxSteps := 1000000) (disch := omega) only [hid1', hid2', guardK_u, takeG_u, wrap_in64, optK_some', fzK_false', nilK_ptr, brK_true', brK_false', guardK_tt', guardK_ff', guardK_tf', guardK_ft', takeG_tt', takeG_ff', takeG_tf', takeG_ft', pickK_t', pickK_f', pickT_t', pickT_f', notK, extract2_0', extract2_1', extract3_0', extract3_1', extract3_2', here_load, here_fieldAt, here_indexAt, here_extract, here_un, here_conv, here_slice, here_bin, here_nil, and_here, true_and, Nat.zero_add, Nat.add_assoc, Nat.add_zero, Int.toNat_natCast, size_alloc, World.cell?_drew, World.frozen?_drew, Bool.not_true, Bool.not_false, Int.toNat_zero, dec_t, dec_f, int_eq_t, int_eq_f, int_ne_t, int_ne_f, wrap_in, kbx24, kld24, kbneq3, kbsub3, kbneq9, kal24, kst24f, kbeql3, kbeql4]
  refine ⟨q215, ?_, trivial⟩
  refine ck14 (cmp14 (a := a) (b := b) (X w15 q215).2 (Y w15 q215).2 la lb ?_)
  intro w16 q16
  have q216 := q215.trans q16
  refine ⟨q216, ?_⟩
  have q217 : Qt w2 w16.drew := q216.trans (Qt.drew Qt.refl)
  refine drawK_by (fun w' => Qt w2 w') q217 ?_
  generalize w16.drew = w17 at *
  refine take_load (vv a A ca) (fun w' hq => by obtain ⟨⟨h0, h1, h2, h3⟩, _⟩ := X w' hq; (simp (maxSteps := 1000000) (disch := omega) only [hid1', hid2', guardK_u, takeG_u, wrap_in64, optK_some', fzK_false', nilK_ptr, brK_true', brK_false', guardK_tt', guardK_ff', guardK_tf', guardK_ft', takeG_tt', takeG_ff', takeG_tf', takeG_ft', pickK_t', pickK_f', pickT_t', pickT_f', notK, extract2_0', extract2_1', extract3_0', extract3_1', extract3_2', here_load, here_fieldAt, here_indexAt, here_extract, here_un, here_conv, here_slice, here_bin, here_nil, and_here, true_and, Nat.zero_add, Nat.add_assoc, Nat.add_zero, Int.toNat_natCast, size_alloc, World.cell?_drew, World.frozen?_drew, Bool.not_true, Bool.not_false, Int.toNat_zero, dec_t, dec_f, int_eq_t, int_eq_f, int_ne_t, int_ne_f, wrap_in, kbx24, kld24, kbneq3, kbsub3, kbneq9, kal24, kst24f, kbeql3, kbeql4, h0, h1, h2, h3]) <;> exact ⟨rfl, rfl⟩) ?_
  refine take_load (vv b B cb) (fun w' hq => by obtain ⟨⟨h0, h1, h2, h3⟩, _⟩ := Y w' hq; (simp (maxSteps := 1000000) (disch := omega) only [hid1', hid2', guardK_u, takeG_u, wrap_in64, optK_some', fzK_false', nilK_ptr, brK_true', brK_false', guardK_tt', guardK_ff', guardK_tf', guardK_ft', takeG_tt', takeG_ff', takeG_tf', takeG_ft', pickK_t', pickK_f', pickT_t', pickT_f', notK, extract2_0', extract2_1', extract3_0', extract3_1', extract3_2', here_load, here_fieldAt, here_indexAt, here_extract, here_un, here_conv, here_slice, here_bin, here_nil, and_here, true_and, Nat.zero_add, Nat.add_assoc, Nat.add_zero, Int.toNat_natCast, size_alloc, World.cell?_drew, World.frozen?_drew, Bool.not_true, Bool.not_false, Int.toNat_zero, dec_t, dec_f, int_eq_t, int_eq_f, int_ne_t, int_ne_f, wrap_in, kbx24, kld24, kbneq3, kbsub3, kbneq9, kal24, kst24f, kbeql3, kbeql4, h0, h1, h2, h3]) <;> exact ⟨rfl, rfl⟩) ?_
  refine ⟨?_, trivial⟩
  refine ck15 (cmp15 (a := a) (b := b) (X w17 q217).2 (Y w17 q217).2 la lb ?_)
  intro w18 q18
  have q218 := q217.trans q18
  have hanti : cmpV b a = 0 - cmpV a b := by
    have h : cmpV b a = - cmpV a b := cmpL_anti (keyV a) (keyV b)
    omega
  have hw : IntKind.i64.wrap (0 - cmpV a b) = 0 - cmpV a b := by
    have h3 : cmpV a b = -1 ∨ cmpV a b = 0 ∨ cmpV a b = 1 := cmpL_three (keyV a) (keyV b)
    exact wrapI _ (by omega) (by omega)
  have hsame : decide (cmpV a b = 0) = (cmpV a b == 0) := by
    by_cases h : cmpV a b = 0
    · rw [h]; rfl
    · rw [decide_eq_false h]; exact (beq_eq_false_iff_ne.2 h).symm
  have e5 : (cmpV b a != 0 - cmpV a b) = false := by rw [hanti]; simp
  have e4 : (cmpV a b != cmpV a b) = false := by simp
  refine ⟨q218, ?_⟩
  refine take_bin (.bool false) (fun w' _ => by simp (maxSteps := 1000000) (disch := omega) only [hid1', hid2', guardK_u, takeG_u, wrap_in64, optK_some', fzK_false', nilK_ptr, brK_true', brK_false', guardK_tt', guardK_ff', guardK_tf', guardK_ft', takeG_tt', takeG_ff', takeG_tf', takeG_ft', pickK_t', pickK_f', pickT_t', pickT_f', notK, extract2_0', extract2_1', extract3_0', extract3_1', extract3_2', here_load, here_fieldAt, here_indexAt, here_extract, here_un, here_conv, here_slice, here_bin, here_nil, and_here, true_and, Nat.zero_add, Nat.add_assoc, Nat.add_zero, Int.toNat_natCast, size_alloc, World.cell?_drew, World.frozen?_drew, Bool.not_true, Bool.not_false, Int.toNat_zero, dec_t, dec_f, int_eq_t, int_eq_f, int_ne_t, int_ne_f, wrap_in, kbx24, kld24, kbneq3, kbsub3, kbneq9, kal24, kst24f, kbeql3, kbeql4, e4, here_rfl]; try (exact ⟨trivial, trivial⟩)) ?_
  simp (maxSteps := 1000000) (disch := omega) only [hid1', hid2', guardK_u, takeG_u, wrap_in64, optK_some', fzK_false', nilK_ptr, brK_true', brK_false', guardK_tt', guardK_ff', guardK_tf', guardK_ft', takeG_tt', takeG_ff', takeG_tf', takeG_ft', pickK_t', pickK_f', pickT_t', pickT_f', notK, extract2_0', extract2_1', extract3_0', extract3_1', extract3_2', here_load, here_fieldAt, here_indexAt, here_extract, here_un, here_conv, here_slice, here_bin, here_nil, and_here, true_and, Nat.zero_add, Nat.add_assoc, Nat.add_zero, Int.toNat_natCast, size_alloc, World.cell?_drew, World.frozen?_drew, Bool.not_true, Bool.not_false, Int.toNat_zero, dec_t, dec_f, int_eq_t, int_eq_f, int_ne_t, int_ne_f, wrap_in, kbx24, kld24, kbneq3, kbsub3, kbneq9, kal24, kst24f, kbeql3, kbeql4]
  refine take_load (vv b B cb) (fun w' hq => by obtain ⟨⟨h0, h1, h2, h3⟩, _⟩ := Y w' hq; (simp (maxSteps := 1000000) (disch := omega) only [hid1', hid2', guardK_u, takeG_u, wrap_in64, optK_some', fzK_false', nilK_ptr, brK_true', brK_false', guardK_tt', guardK_ff', guardK_tf', guardK_ft', takeG_tt', takeG_ff', takeG_tf', takeG_ft', pickK_t', pickK_f', pickT_t', pickT_f', notK, extract2_0', extract2_1', extract3_0', extract3_1', extract3_2', here_load, here_fieldAt, here_indexAt, here_extract, here_un, here_conv, here_slice, here_bin, here_nil, and_here, true_and, Nat.zero_add, Nat.add_assoc, Nat.add_zero, Int.toNat_natCast, size_alloc, World.cell?_drew, World.frozen?_drew, Bool.not_true, Bool.not_false, Int.toNat_zero, dec_t, dec_f, int_eq_t, int_eq_f, int_ne_t, int_ne_f, wrap_in, kbx24, kld24, kbneq3, kbsub3, kbneq9, kal24, kst24f, kbeql3, kbeql4, h0, h1, h2, h3]) <;> exact ⟨rfl, rfl⟩) ?_
  simp (maxSteps := 1000000) (disch := omega) only [hid1', hid2', guardK_u, takeG_u, wrap_in64, optK_some', fzK_false', nilK_ptr, brK_true', brK_false', guardK_tt', guardK_ff', guardK_tf', guardK_ft', takeG_tt', takeG_ff', takeG_tf', takeG_ft', pickK_t', pickK_f', pickT_t', pickT_f', notK, extract2_0', extract2_1', extract3_0', extract3_1', extract3_2', here_load, here_fieldAt, here_indexAt, here_extract, here_un, here_conv, here_slice, here_bin, here_nil, and_here, true_and, Nat.zero_add, Nat.add_assoc, Nat.add_zero, Int.toNat_natCast, size_alloc, World.cell?_drew, World.frozen?_drew, Bool.not_true, Bool.not_false, Int.toNat_zero, dec_t, dec_f, int_eq_t, int_eq_f, int_ne_t, int_ne_f, wrap_in, kbx24, kld24, kbneq3, kbsub3, kbneq9, kal24, kst24f, kbeql3, kbeql4]
  refine take_load (vv a A ca) (fun w' hq => by obtain ⟨⟨h0, h1, h2, h3⟩, _⟩ := X w' hq; (simp (maxSteps := 1000000) (disch := omega) only [hid1', hid2', guardK_u, takeG_u, wrap_in64, optK_some', fzK_false', nilK_ptr, brK_true', brK_false', guardK_tt', guardK_ff', guardK_tf', guardK_ft', takeG_tt', takeG_ff', takeG_tf', takeG_ft', pickK_t', pickK_f', pickT_t', pickT_f', notK, extract2_0', extract2_1', extract3_0', extract3_1', extract3_2', here_load, here_fieldAt, here_indexAt, here_extract, here_un, here_conv, here_slice, here_bin, here_nil, and_here, true_and, Nat.zero_add, Nat.add_assoc, Nat.add_zero, Int.toNat_natCast, size_alloc, World.cell?_drew, World.frozen?_drew, Bool.not_true, Bool.not_false, Int.toNat_zero, dec_t, dec_f, int_eq_t, int_eq_f, int_ne_t, int_ne_f, wrap_in, kbx24, kld24, kbneq3, kbsub3, kbneq9, kal24, kst24f, kbeql3, kbeql4, h0, h1, h2, h3]) <;> exact ⟨rfl, rfl⟩) ?_
  simp (maxSteps := 1000000) (disch := omega) only [hid1', hid2', guardK_u, takeG_u, wrap_in64, optK_some', fzK_false', nilK_ptr, brK_true', brK_false', guardK_tt', guardK_ff', guardK_tf', guardK_ft', takeG_tt', takeG_ff', takeG_tf', takeG_ft', pickK_t', pickK_f', pickT_t', pickT_f', notK, extract2_0', extract2_1', extract3_0', extract3_1', extract3_2', here_load, here_fieldAt, here_indexAt, here_extract, here_un, here_conv, here_slice, here_bin, here_nil, and_here, true_and, Nat.zero_add, Nat.add_assoc, Nat.add_zero, Int.toNat_natCast, size_alloc, World.cell?_drew, World.frozen?_drew, Bool.not_true, Bool.not_false, Int.toNat_zero, dec_t, dec_f, int_eq_t, int_eq_f, int_ne_t, int_ne_f, wrap_in, kbx24, kld24, kbneq3, kbsub3, kbneq9, kal24, kst24f, kbeql3, kbeql4]
  refine take_bin (.int .i64 (0 - cmpV a b)) (fun w' _ => by simp (maxSteps := 1000000) (disch := omega) only [hid1', hid2', guardK_u, takeG_u, wrap_in64, optK_some', fzK_false', nilK_ptr, brK_true', brK_false', guardK_tt', guardK_ff', guardK_tf', guardK_ft', takeG_tt', takeG_ff', takeG_tf', takeG_ft', pickK_t', pickK_f', pickT_t', pickT_f', notK, extract2_0', extract2_1', extract3_0', extract3_1', extract3_2', here_load, here_fieldAt, here_indexAt, here_extract, here_un, here_conv, here_slice, here_bin, here_nil, and_here, true_and, Nat.zero_add, Nat.add_assoc, Nat.add_zero, Int.toNat_natCast, size_alloc, World.cell?_drew, World.frozen?_drew, Bool.not_true, Bool.not_false, Int.toNat_zero, dec_t, dec_f, int_eq_t, int_eq_f, int_ne_t, int_ne_f, wrap_in, kbx24, kld24, kbneq3, kbsub3, kbneq9, kal24, kst24f, kbeql3, kbeql4, hw, here_rfl]; try (exact ⟨trivial, trivial⟩)) ?_
  simp (maxSteps := 1000000) (disch := omega) only [hid1', hid2', guardK_u, takeG_u, wrap_in64, optK_some', fzK_false', nilK_ptr, brK_true', brK_false', guardK_tt', guardK_ff', guardK_tf', guardK_ft', takeG_tt', takeG_ff', takeG_tf', takeG_ft', pickK_t', pickK_f', pickT_t', pickT_f', notK, extract2_0', extract2_1', extract3_0', extract3_1', extract3_2', here_load, here_fieldAt, here_indexAt, here_extract, here_un, here_conv, here_slice, here_bin, here_nil, and_here, true_and, Nat.zero_add, Nat.add_assoc, Nat.add_zero, Int.toNat_natCast, size_alloc, World.cell?_drew, World.frozen?_drew, Bool.not_true, Bool.not_false, Int.toNat_zero, dec_t, dec_f, int_eq_t, int_eq_f, int_ne_t, int_ne_f, wrap_in, kbx24, kld24, kbneq3, kbsub3, kbneq9, kal24, kst24f, kbeql3, kbeql4]
  refine ⟨?_, trivial⟩
  refine ck15 (cmp15 (a := b) (b := a) (Y w18 q218).2 (X w18 q218).2 lb la ?_)
  intro w19 q19
  have q219 := q218.trans q19
  simp (maxSteps := 1000000) (disch := omega) only [hid1', hid2', guardK_u, takeG_u, wrap_in64, optK_some', fzK_false', nilK_ptr, brK_true', brK_false', guardK_tt', guardK_ff', guardK_tf', guardK_ft', takeG_tt', takeG_ff', takeG_tf', takeG_ft', pickK_t', pickK_f', pickT_t', pickT_f', notK, extract2_0', extract2_1', extract3_0', extract3_1', extract3_2', here_load, here_fieldAt, here_indexAt, here_extract, here_un, here_conv, here_slice, here_bin, here_nil, and_here, true_and, Nat.zero_add, Nat.add_assoc, Nat.add_zero, Int.toNat_natCast, size_alloc, World.cell?_drew, World.frozen?_drew, Bool.not_true, Bool.not_false, Int.toNat_zero, dec_t, dec_f, int_eq_t, int_eq_f, int_ne_t, int_ne_f, wrap_in, kbx24, kld24, kbneq3, kbsub3, kbneq9, kal24, kst24f, kbeql3, kbeql4]
  refine ⟨q219, ?_⟩
  refine take_bin (.bool false) (fun w' _ => by simp (maxSteps := 1000000) (disch := omega) only [hid1', hid2', guardK_u, takeG_u, wrap_in64, optK_some', fzK_false', nilK_ptr, brK_true', brK_false', guardK_tt', guardK_ff', guardK_tf', guardK_ft', takeG_tt', takeG_ff', takeG_tf', takeG_ft', pickK_t', pickK_f', pickT_t', pickT_f', notK, extract2_0', extract2_1', extract3_0', extract3_1', extract3_2', here_load, here_fieldAt, here_indexAt, here_extract, here_un, here_conv, here_slice, here_bin, here_nil, and_here, true_and, Nat.zero_add, Nat.add_assoc, Nat.add_zero, Int.toNat_natCast, size_alloc, World.cell?_drew, World.frozen?_drew, Bool.not_true, Bool.not_false, Int.toNat_zero, dec_t, dec_f, int_eq_t, int_eq_f, int_ne_t, int_ne_f, wrap_in, kbx24, kld24, kbneq3, kbsub3, kbneq9, kal24, kst24f, kbeql3, kbeql4, e5, here_rfl]; try (exact ⟨trivial, trivial⟩)) ?_
  simp (maxSteps := 1000000) (disch := omega) only [hid1', hid2', guardK_u, takeG_u, wrap_in64, optK_some', fzK_false', nilK_ptr, brK_true', brK_false', guardK_tt', guardK_ff', guardK_tf', guardK_ft', takeG_tt', takeG_ff', takeG_tf', takeG_ft', pickK_t', pickK_f', pickT_t', pickT_f', notK, extract2_0', extract2_1', extract3_0', extract3_1', extract3_2', here_load, here_fieldAt, here_indexAt, here_extract, here_un, here_conv, here_slice, here_bin, here_nil, and_here, true_and, Nat.zero_add, Nat.add_assoc, Nat.add_zero, Int.toNat_natCast, size_alloc, World.cell?_drew, World.frozen?_drew, Bool.not_true, Bool.not_false, Int.toNat_zero, dec_t, dec_f, int_eq_t, int_eq_f, int_ne_t, int_ne_f, wrap_in, kbx24, kld24, kbneq3, kbsub3, kbneq9, kal24, kst24f, kbeql3, kbeql4]
  refine take_load (vv a A ca) (fun w' hq => by obtain ⟨⟨h0, h1, h2, h3⟩, _⟩ := X w' hq; (simp (maxSteps := 1000000) (disch := omega) only [hid1', hid2', guardK_u, takeG_u, wrap_in64, optK_some', fzK_false', nilK_ptr, brK_true', brK_false', guardK_tt', guardK_ff', guardK_tf', guardK_ft', takeG_tt', takeG_ff', takeG_tf', takeG_ft', pickK_t', pickK_f', pickT_t', pickT_f', notK, extract2_0', extract2_1', extract3_0', extract3_1', extract3_2', here_load, here_fieldAt, here_indexAt, here_extract, here_un, here_conv, here_slice, here_bin, here_nil, and_here, true_and, Nat.zero_add, Nat.add_assoc, Nat.add_zero, Int.toNat_natCast, size_alloc, World.cell?_drew, World.frozen?_drew, Bool.not_true, Bool.not_false, Int.toNat_zero, dec_t, dec_f, int_eq_t, int_eq_f, int_ne_t, int_ne_f, wrap_in, kbx24, kld24, kbneq3, kbsub3, kbneq9, kal24, kst24f, kbeql3, kbeql4, h0, h1, h2, h3]) <;> exact ⟨rfl, rfl⟩) ?_
  simp (maxSteps := 1000000) (disch := omega) only [hid1', hid2', guardK_u, takeG_u, wrap_in64, optK_some', fzK_false', nilK_ptr, brK_true', brK_false', guardK_tt', guardK_ff', guardK_tf', guardK_ft', takeG_tt', takeG_ff', takeG_tf', takeG_ft', pickK_t', pickK_f', pickT_t', pickT_f', notK, extract2_0', extract2_1', extract3_0', extract3_1', extract3_2', here_load, here_fieldAt, here_indexAt, here_extract, here_un, here_conv, here_slice, here_bin, here_nil, and_here, true_and, Nat.zero_add, Nat.add_assoc, Nat.add_zero, Int.toNat_natCast, size_alloc, World.cell?_drew, World.frozen?_drew, Bool.not_true, Bool.not_false, Int.toNat_zero, dec_t, dec_f, int_eq_t, int_eq_f, int_ne_t, int_ne_f, wrap_in, kbx24, kld24, kbneq3, kbsub3, kbneq9, kal24, kst24f, kbeql3, kbeql4]
  refine take_load (vv a A ca) (fun w' hq => by obtain ⟨⟨h0, h1, h2, h3⟩, _⟩ := X w' hq; (simp (maxSteps := 1000000) (disch := omega) only [hid1', hid2', guardK_u, takeG_u, wrap_in64, optK_some', fzK_false', nilK_ptr, brK_true', brK_false', guardK_tt', guardK_ff', guardK_tf', guardK_ft', takeG_tt', takeG_ff', takeG_tf', takeG_ft', pickK_t', pickK_f', pickT_t', pickT_f', notK, extract2_0', extract2_1', extract3_0', extract3_1', extract3_2', here_load, here_fieldAt, here_indexAt, here_extract, here_un, here_conv, here_slice, here_bin, here_nil, and_here, true_and, Nat.zero_add, Nat.add_assoc, Nat.add_zero, Int.toNat_natCast, size_alloc, World.cell?_drew, World.frozen?_drew, Bool.not_true, Bool.not_false, Int.toNat_zero, dec_t, dec_f, int_eq_t, int_eq_f, int_ne_t, int_ne_f, wrap_in, kbx24, kld24, kbneq3, kbsub3, kbneq9, kal24, kst24f, kbeql3, kbeql4, h0, h1, h2, h3]) <;> exact ⟨rfl, rfl⟩) ?_
  simp (maxSteps := 1000000) (disch := omega) only [hid1', hid2', guardK_u, takeG_u, wrap_in64, optK_some', fzK_false', nilK_ptr, brK_true', brK_false', guardK_tt', guardK_ff', guardK_tf', guardK_ft', takeG_tt', takeG_ff', takeG_tf', takeG_ft', pickK_t', pickK_f', pickT_t', pickT_f', notK, extract2_0', extract2_1', extract3_0', extract3_1', extract3_2', here_load, here_fieldAt, here_indexAt, here_extract, here_un, here_conv, here_slice, here_bin, here_nil, and_here, true_and, Nat.zero_add, Nat.add_assoc, Nat.add_zero, Int.toNat_natCast, size_alloc, World.cell?_drew, World.frozen?_drew, Bool.not_true, Bool.not_false, Int.toNat_zero, dec_t, dec_f, int_eq_t, int_eq_f, int_ne_t, int_ne_f, wrap_in, kbx24, kld24, kbneq3, kbsub3, kbneq9, kal24, kst24f, kbeql3, kbeql4]
  refine ⟨?_, trivial⟩
  refine ck16 (text16 (a := a) (X w19 q219).2 (by omega) (by omega) ia ja (he2.quiet q219) ?_)
  intro w20 q20
  have q220 := q219.trans q20
  simp (maxSteps := 1000000) (disch := omega) only [hid1', hid2', guardK_u, takeG_u, wrap_in64, optK_some', fzK_false', nilK_ptr, brK_true', brK_false', guardK_tt', guardK_ff', guardK_tf', guardK_ft', takeG_tt', takeG_ff', takeG_tf', takeG_ft', pickK_t', pickK_f', pickT_t', pickT_f', notK, extract2_0', extract2_1', extract3_0', extract3_1', extract3_2', here_load, here_fieldAt, here_indexAt, here_extract, here_un, here_conv, here_slice, here_bin, here_nil, and_here, true_and, Nat.zero_add, Nat.add_assoc, Nat.add_zero, Int.toNat_natCast, size_alloc, World.cell?_drew, World.frozen?_drew, Bool.not_true, Bool.not_false, Int.toNat_zero, dec_t, dec_f, int_eq_t, int_eq_f, int_ne_t, int_ne_f, wrap_in, kbx24, kld24, kbneq3, kbsub3, kbneq9, kal24, kst24f, kbeql3, kbeql4]
  refine ⟨q220, ?_, trivial⟩
  refine ck12 (of12 ?_)
  intro w21 q21
  have q221 := q220.trans q21
  simp (maxSteps := 1000000) (disch := omega) only [hid1', hid2', guardK_u, takeG_u, wrap_in64, optK_some', fzK_false', nilK_ptr, brK_true', brK_false', guardK_tt', guardK_ff', guardK_tf', guardK_ft', takeG_tt', takeG_ff', takeG_tf', takeG_ft', pickK_t', pickK_f', pickT_t', pickT_f', notK, extract2_0', extract2_1', extract3_0', extract3_1', extract3_2', here_load, here_fieldAt, here_indexAt, here_extract, here_un, here_conv, here_slice, here_bin, here_nil, and_here, true_and, Nat.zero_add, Nat.add_assoc, Nat.add_zero, Int.toNat_natCast, size_alloc, World.cell?_drew, World.frozen?_drew, Bool.not_true, Bool.not_false, Int.toNat_zero, dec_t, dec_f, int_eq_t, int_eq_f, int_ne_t, int_ne_f, wrap_in, kbx24, kld24, kbneq3, kbsub3, kbneq9, kal24, kst24f, kbeql3, kbeql4]
  refine ⟨q221, ?_, trivial⟩
  refine ck17 (text17 (a := a) (X w21 q221).2 (by omega) (by omega) ia ja ?_)
  intro w22 q22
  have q222 := q221.trans q22
  simp (maxSteps := 1000000) (disch := omega) only [hid1', hid2', guardK_u, takeG_u, wrap_in64, optK_some', fzK_false', nilK_ptr, brK_true', brK_false', guardK_tt', guardK_ff', guardK_tf', guardK_ft', takeG_tt', takeG_ff', takeG_tf', takeG_ft', pickK_t', pickK_f', pickT_t', pickT_f', notK, extract2_0', extract2_1', extract3_0', extract3_1', extract3_2', here_load, here_fieldAt, here_indexAt, here_extract, here_un, here_conv, here_slice, here_bin, here_nil, and_here, true_and, Nat.zero_add, Nat.add_assoc, Nat.add_zero, Int.toNat_natCast, size_alloc, World.cell?_drew, World.frozen?_drew, Bool.not_true, Bool.not_false, Int.toNat_zero, dec_t, dec_f, int_eq_t, int_eq_f, int_ne_t, int_ne_f, wrap_in, kbx24, kld24, kbneq3, kbsub3, kbneq9, kal24, kst24f, kbeql3, kbeql4]
  refine ⟨q222, ?_⟩
  refine take_bin (.bool false) (fun w' _ => by simp (maxSteps := 1000000) (disch := omega) only [hid1', hid2', guardK_u, takeG_u, wrap_in64, optK_some', fzK_false', nilK_ptr, brK_true', brK_false', guardK_tt', guardK_ff', guardK_tf', guardK_ft', takeG_tt', takeG_ff', takeG_tf', takeG_ft', pickK_t', pickK_f', pickT_t', pickT_f', notK, extract2_0', extract2_1', extract3_0', extract3_1', extract3_2', here_load, here_fieldAt, here_indexAt, here_extract, here_un, here_conv, here_slice, here_bin, here_nil, and_here, true_and, Nat.zero_add, Nat.add_assoc, Nat.add_zero, Int.toNat_natCast, size_alloc, World.cell?_drew, World.frozen?_drew, Bool.not_true, Bool.not_false, Int.toNat_zero, dec_t, dec_f, int_eq_t, int_eq_f, int_ne_t, int_ne_f, wrap_in, kbx24, kld24, kbneq3, kbsub3, kbneq9, kal24, kst24f, kbeql3, kbeql4, beq_self_eq_true, here_rfl]; try (exact ⟨trivial, trivial⟩)) ?_
  clear q213 q14 q214 q15 q215 q16 q216 q217 q18 q218 q19 q219 q20 q220 q21 q221 q22 q212
  by_cases k1 : checkV a = 0
  case neg =>
    have z : (checkV a != 0) = true := by rw [bne_iff_ne]; exact k1
    simp (maxSteps := 1000000) (disch := omega) only [hid1', hid2', guardK_u, takeG_u, wrap_in64, optK_some', fzK_false', nilK_ptr, brK_true', brK_false', guardK_tt', guardK_ff', guardK_tf', guardK_ft', takeG_tt', takeG_ff', takeG_tf', takeG_ft', pickK_t', pickK_f', pickT_t', pickT_f', notK, extract2_0', extract2_1', extract3_0', extract3_1', extract3_2', here_load, here_fieldAt, here_indexAt, here_extract, here_un, here_conv, here_slice, here_bin, here_nil, and_here, true_and, Nat.zero_add, Nat.add_assoc, Nat.add_zero, Int.toNat_natCast, size_alloc, World.cell?_drew, World.frozen?_drew, Bool.not_true, Bool.not_false, Int.toNat_zero, dec_t, dec_f, int_eq_t, int_eq_f, int_ne_t, int_ne_f, wrap_in, kbx24, kld24, kbneq3, kbsub3, kbneq9, kal24, kst24f, kbeql3, kbeql4, z, guardK_u]
    exact hf _ q222
  have z1 : (checkV a != 0) = false := by rw [k1]; rfl
  by_cases k2 : checkV b = 0
  case neg =>
    have z : (checkV b != 0) = true := by rw [bne_iff_ne]; exact k2
    simp (maxSteps := 1000000) (disch := omega) only [hid1', hid2', guardK_u, takeG_u, wrap_in64, optK_some', fzK_false', nilK_ptr, brK_true', brK_false', guardK_tt', guardK_ff', guardK_tf', guardK_ft', takeG_tt', takeG_ff', takeG_tf', takeG_ft', pickK_t', pickK_f', pickT_t', pickT_f', notK, extract2_0', extract2_1', extract3_0', extract3_1', extract3_2', here_load, here_fieldAt, here_indexAt, here_extract, here_un, here_conv, here_slice, here_bin, here_nil, and_here, true_and, Nat.zero_add, Nat.add_assoc, Nat.add_zero, Int.toNat_natCast, size_alloc, World.cell?_drew, World.frozen?_drew, Bool.not_true, Bool.not_false, Int.toNat_zero, dec_t, dec_f, int_eq_t, int_eq_f, int_ne_t, int_ne_f, wrap_in, kbx24, kld24, kbneq3, kbsub3, kbneq9, kal24, kst24f, kbeql3, kbeql4, z1, z, guardK_u]
    exact hf _ q222
  have z2 : (checkV b != 0) = false := by rw [k2]; rfl
  obtain ⟨⟨x0, x1, x2, x3⟩, xr⟩ := X w22 q222
  simp (maxSteps := 1000000) (disch := omega) only [hid1', hid2', guardK_u, takeG_u, wrap_in64, optK_some', fzK_false', nilK_ptr, brK_true', brK_false', guardK_tt', guardK_ff', guardK_tf', guardK_ft', takeG_tt', takeG_ff', takeG_tf', takeG_ft', pickK_t', pickK_f', pickT_t', pickT_f', notK, extract2_0', extract2_1', extract3_0', extract3_1', extract3_2', here_load, here_fieldAt, here_indexAt, here_extract, here_un, here_conv, here_slice, here_bin, here_nil, and_here, true_and, Nat.zero_add, Nat.add_assoc, Nat.add_zero, Int.toNat_natCast, size_alloc, World.cell?_drew, World.frozen?_drew, Bool.not_true, Bool.not_false, Int.toNat_zero, dec_t, dec_f, int_eq_t, int_eq_f, int_ne_t, int_ne_f, wrap_in, kbx24, kld24, kbneq3, kbsub3, kbneq9, kal24, kst24f, kbeql3, kbeql4, z1, z2, x0, x1, x2, x3]
  refine ck16 (text16 (a := a) xr (by omega) (by omega) ia ja (he2.quiet q222) ?_)
  intro w23 q23
  have q223 := q222.trans q23
  simp (maxSteps := 1000000) (disch := omega) only [hid1', hid2', guardK_u, takeG_u, wrap_in64, optK_some', fzK_false', nilK_ptr, brK_true', brK_false', guardK_tt', guardK_ff', guardK_tf', guardK_ft', takeG_tt', takeG_ff', takeG_tf', takeG_ft', pickK_t', pickK_f', pickT_t', pickT_f', notK, extract2_0', extract2_1', extract3_0', extract3_1', extract3_2', here_load, here_fieldAt, here_indexAt, here_extract, here_un, here_conv, here_slice, here_bin, here_nil, and_here, true_and, Nat.zero_add, Nat.add_assoc, Nat.add_zero, Int.toNat_natCast, size_alloc, World.cell?_drew, World.frozen?_drew, Bool.not_true, Bool.not_false, Int.toNat_zero, dec_t, dec_f, int_eq_t, int_eq_f, int_ne_t, int_ne_f, wrap_in, kbx24, kld24, kbneq3, kbsub3, kbneq9, kal24, kst24f, kbeql3, kbeql4]
  obtain ⟨v, hp, hv⟩ := parse_text k1 ia ja
  refine ck18 (parse18 (s := textV a) (text_len k1 ia ja) (he2.quiet q223) ?_)
  rw [hp]
  intro A4 c4 w24 q24 r24 f24
  simp only at r24
  have lv := parse_list hp
  obtain ⟨q25, h25⟩ := box4 w24 v A4 c4 24
  have q224 := (q223.trans q24).trans q25
  simp (maxSteps := 1000000) (disch := omega) only [hid1', hid2', guardK_u, takeG_u, wrap_in64, optK_some', fzK_false', nilK_ptr, brK_true', brK_false', guardK_tt', guardK_ff', guardK_tf', guardK_ft', takeG_tt', takeG_ff', takeG_tf', takeG_ft', pickK_t', pickK_f', pickT_t', pickT_f', notK, extract2_0', extract2_1', extract3_0', extract3_1', extract3_2', here_load, here_fieldAt, here_indexAt, here_extract, here_un, here_conv, here_slice, here_bin, here_nil, and_here, true_and, Nat.zero_add, Nat.add_assoc, Nat.add_zero, Int.toNat_natCast, size_alloc, World.cell?_drew, World.frozen?_drew, Bool.not_true, Bool.not_false, Int.toNat_zero, dec_t, dec_f, int_eq_t, int_eq_f, int_ne_t, int_ne_f, wrap_in, kbx24, kld24, kbneq3, kbsub3, kbneq9, kal24, kst24f, kbeql3, kbeql4]
  generalize (w24.alloc (.cells #[.int .i64 v.1, .int .i64 v.2.1, .string v.2.2.1, .slice A4 v.2.2.2.length c4] 24)) = w25 at *
  generalize w24.heap.size = b8 at *
  have Z := fun w' (q : Qt w25 w') => VBox.of h25 (r24.quiet q25) q
  obtain ⟨⟨x0, x1, x2, x3⟩, xr⟩ := X w25 q224
  obtain ⟨⟨y0, y1, y2, y3⟩, yr⟩ := Y w25 q224
  simp (maxSteps := 1000000) (disch := omega) only [hid1', hid2', guardK_u, takeG_u, wrap_in64, optK_some', fzK_false', nilK_ptr, brK_true', brK_false', guardK_tt', guardK_ff', guardK_tf', guardK_ft', takeG_tt', takeG_ff', takeG_tf', takeG_ft', pickK_t', pickK_f', pickT_t', pickT_f', notK, extract2_0', extract2_1', extract3_0', extract3_1', extract3_2', here_load, here_fieldAt, here_indexAt, here_extract, here_un, here_conv, here_slice, here_bin, here_nil, and_here, true_and, Nat.zero_add, Nat.add_assoc, Nat.add_zero, Int.toNat_natCast, size_alloc, World.cell?_drew, World.frozen?_drew, Bool.not_true, Bool.not_false, Int.toNat_zero, dec_t, dec_f, int_eq_t, int_eq_f, int_ne_t, int_ne_f, wrap_in, kbx24, kld24, kbneq3, kbsub3, kbneq9, kal24, kst24f, kbeql3, kbeql4, x0, x1, x2, x3, y0, y1, y2, y3]
  refine ck19 (same19 (a := a) (b := b) xr yr la lb ?_)
  intro w26 q26
  have z0 : ((0 : Int) == 0) = true := rfl
  rw [hsame]
  have ess : ((cmpV a b == 0) == (cmpV a b == 0)) = true := beq_self_eq_true _
  obtain ⟨⟨x0, x1, x2, x3⟩, xr⟩ := X w26 (q224.trans q26)
  obtain ⟨⟨u0, u1, u2, u3⟩, ur⟩ := Z w26 q26
  simp (maxSteps := 1000000) (disch := omega) only [hid1', hid2', guardK_u, takeG_u, wrap_in64, optK_some', fzK_false', nilK_ptr, brK_true', brK_false', guardK_tt', guardK_ff', guardK_tf', guardK_ft', takeG_tt', takeG_ff', takeG_tf', takeG_ft', pickK_t', pickK_f', pickT_t', pickT_f', notK, extract2_0', extract2_1', extract3_0', extract3_1', extract3_2', here_load, here_fieldAt, here_indexAt, here_extract, here_un, here_conv, here_slice, here_bin, here_nil, and_here, true_and, Nat.zero_add, Nat.add_assoc, Nat.add_zero, Int.toNat_natCast, size_alloc, World.cell?_drew, World.frozen?_drew, Bool.not_true, Bool.not_false, Int.toNat_zero, dec_t, dec_f, int_eq_t, int_eq_f, int_ne_t, int_ne_f, wrap_in, kbx24, kld24, kbneq3, kbsub3, kbneq9, kal24, kst24f, kbeql3, kbeql4, ess, z0, x0, x1, x2, x3, u0, u1, u2, u3]
  refine ck19 (same19 (a := v) (b := a) ur xr (by omega) la ?_)
  intro w27 q27
  have z3 : decide ((0 : Int) = 0) = true := rfl
  rw [hv, z3]
  obtain ⟨⟨x0, x1, x2, x3⟩, xr⟩ := X w27 ((q224.trans q26).trans q27)
  obtain ⟨⟨u0, u1, u2, u3⟩, ur⟩ := Z w27 (q26.trans q27)
  simp (maxSteps := 1000000) (disch := omega) only [hid1', hid2', guardK_u, takeG_u, wrap_in64, optK_some', fzK_false', nilK_ptr, brK_true', brK_false', guardK_tt', guardK_ff', guardK_tf', guardK_ft', takeG_tt', takeG_ff', takeG_tf', takeG_ft', pickK_t', pickK_f', pickT_t', pickT_f', notK, extract2_0', extract2_1', extract3_0', extract3_1', extract3_2', here_load, here_fieldAt, here_indexAt, here_extract, here_un, here_conv, here_slice, here_bin, here_nil, and_here, true_and, Nat.zero_add, Nat.add_assoc, Nat.add_zero, Int.toNat_natCast, size_alloc, World.cell?_drew, World.frozen?_drew, Bool.not_true, Bool.not_false, Int.toNat_zero, dec_t, dec_f, int_eq_t, int_eq_f, int_ne_t, int_ne_f, wrap_in, kbx24, kld24, kbneq3, kbsub3, kbneq9, kal24, kst24f, kbeql3, kbeql4, x0, x1, x2, x3, u0, u1, u2, u3]
  refine ck15 (cmp15 (a := v) (b := a) ur xr (by omega) la ?_)
  intro w28 q28
  rw [hv]
  simp (maxSteps := 1000000) (disch := omega) only [hid1', hid2', guardK_u, takeG_u, wrap_in64, optK_some', fzK_false', nilK_ptr, brK_true', brK_false', guardK_tt', guardK_ff', guardK_tf', guardK_ft', takeG_tt', takeG_ff', takeG_tf', takeG_ft', pickK_t', pickK_f', pickT_t', pickT_f', notK, extract2_0', extract2_1', extract3_0', extract3_1', extract3_2', here_load, here_fieldAt, here_indexAt, here_extract, here_un, here_conv, here_slice, here_bin, here_nil, and_here, true_and, Nat.zero_add, Nat.add_assoc, Nat.add_zero, Int.toNat_natCast, size_alloc, World.cell?_drew, World.frozen?_drew, Bool.not_true, Bool.not_false, Int.toNat_zero, dec_t, dec_f, int_eq_t, int_eq_f, int_ne_t, int_ne_f, wrap_in, kbx24, kld24, kbneq3, kbsub3, kbneq9, kal24, kst24f, kbeql3, kbeql4, z0]
  exact hf _ (((q224.trans q26).trans q27).trans q28)
end Go.Proofs.YtdnlenngbaaeaaaDoor
