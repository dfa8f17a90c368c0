/- Products cut at the ends; quotients and rests; by the program and by the document. No condition but that they are int64. -/
import Derived.Test.YtdnlenngbaaeaaaDoorArith
set_option linter.unusedVariables false
set_option linter.unusedSimpArgs false
set_option maxRecDepth 100000
namespace Go.Proofs.YtdnlenngbaaeaaaDoor
open Go.RowKit Go.Cn
theorem quoI (x y : Int) (h : y ≠ 0) (K : Value → World → Prop) (w : World) : BinK Tryd.prog .quo 2 (.int .i64 x) (.int .i64 y) K w = K (.int .i64 (IntKind.i64.wrap (x.tdiv y))) w := by
  unfold BinK; go_simp
  exact Iff.rfl
theorem remI (x y : Int) (h : y ≠ 0) (K : Value → World → Prop) (w : World) : BinK Tryd.prog .rem 2 (.int .i64 x) (.int .i64 y) K w = K (.int .i64 (x.tmod y)) w := by
  unfold BinK; go_simp
  exact Iff.rfl
theorem size47 {n : Int} {w : World} {K : Value → World → Prop} (hn : in64 n) (hK : K (.int .u64 (n.natAbs : Int)) w) : CallK Tryd.prog 47 #[.int .i64 n] K w := by
  refine F47_calls _ _ _ ?_; unfold F47
  obtain ⟨h1, h2⟩ := hn
  by_cases h : n < 0
  · have e1 : IntKind.u64.wrap n = n + 18446744073709551616 := by
      have : IntKind.u64.wrap n = n % 18446744073709551616 := by simp [IntKind.wrap, IntKind.bits, IntKind.signed]
      rw [this]; omega
    have e2 : IntKind.u64.wrap (-(n + 18446744073709551616)) = (n.natAbs : Int) := by
      have : IntKind.u64.wrap (-(n + 18446744073709551616)) = (-(n + 18446744073709551616)) % 18446744073709551616 := by simp [IntKind.wrap, IntKind.bits, IntKind.signed]
      rw [this]; omega
    simp (maxSteps := 1000000) (disch := omega) only [hid1', hid2', guardK_u, takeG_u, wrap_in64, optK_some', fzK_false', nilK_ptr, brK_true', brK_false', guardK_tt', guardK_ff', guardK_tf', guardK_ft', takeG_tt', takeG_ff', takeG_tf', takeG_ft', pickK_t', pickK_f', pickT_t', pickT_f', notK, extract2_0', extract2_1', extract3_0', extract3_1', extract3_2', here_load, here_fieldAt, here_indexAt, here_extract, here_un, here_conv, here_slice, here_bin, here_nil, and_here, true_and, Nat.zero_add, Nat.add_assoc, Nat.add_zero, Int.toNat_natCast, size_alloc, World.cell?_drew, World.frozen?_drew, Bool.not_true, Bool.not_false, Int.toNat_zero, dec_t, dec_f, int_eq_t, int_eq_f, int_ne_t, int_ne_f, wrap_in, kblss2, kcv2_63, kuneg63, e1, e2]
    exact hK
  · have e1 : IntKind.u64.wrap n = (n.natAbs : Int) := by
      have : IntKind.u64.wrap n = n % 18446744073709551616 := by simp [IntKind.wrap, IntKind.bits, IntKind.signed]
      rw [this]; omega
    simp (maxSteps := 1000000) (disch := omega) only [hid1', hid2', guardK_u, takeG_u, wrap_in64, optK_some', fzK_false', nilK_ptr, brK_true', brK_false', guardK_tt', guardK_ff', guardK_tf', guardK_ft', takeG_tt', takeG_ff', takeG_tf', takeG_ft', pickK_t', pickK_f', pickT_t', pickT_f', notK, extract2_0', extract2_1', extract3_0', extract3_1', extract3_2', here_load, here_fieldAt, here_indexAt, here_extract, here_un, here_conv, here_slice, here_bin, here_nil, and_here, true_and, Nat.zero_add, Nat.add_assoc, Nat.add_zero, Int.toNat_natCast, size_alloc, World.cell?_drew, World.frozen?_drew, Bool.not_true, Bool.not_false, Int.toNat_zero, dec_t, dec_f, int_eq_t, int_eq_f, int_ne_t, int_ne_f, wrap_in, kblss2, kcv2_63, kuneg63, e1]
    exact hK
theorem mul_sign (a b : Int) : a * b = if (decide (a < 0) != decide (b < 0)) = true then -((a.natAbs * b.natAbs : Nat) : Int) else ((a.natAbs * b.natAbs : Nat) : Int) := by
  have h := Int.natAbs_mul a b
  by_cases ha : a < 0
  · by_cases hb : b < 0
    · have := Int.mul_pos_of_neg_of_neg ha hb
      rw [decide_eq_true ha, decide_eq_true hb, if_neg (by decide)]; omega
    · have := Int.mul_nonpos_of_nonpos_of_nonneg (Int.le_of_lt ha) (Int.not_lt.1 hb)
      rw [decide_eq_true ha, decide_eq_false hb, if_pos (by decide)]; omega
  · by_cases hb : b < 0
    · have := Int.mul_nonpos_of_nonneg_of_nonpos (Int.not_lt.1 ha) (Int.le_of_lt hb)
      rw [decide_eq_false ha, decide_eq_true hb, if_pos (by decide)]; omega
    · have := Int.mul_nonneg (Int.not_lt.1 ha) (Int.not_lt.1 hb)
      rw [decide_eq_false ha, decide_eq_false hb, if_neg (by decide)]; omega
set_option maxHeartbeats 1000000 in
theorem mul29 {a b : Int} {w : World} {K : Value → World → Prop} (ha : in64 a) (hb : in64 b) (hK : K (.int .i64 (cutI (a * b))) w) : CallK Tryd.prog 29 #[.int .i64 a, .int .i64 b] K w := by
  refine F29_calls _ _ _ _ ?_; unfold F29
  rw [mul_sign a b] at hK
  have hx : a.natAbs < 18446744073709551616 := by have := ha.1; have := ha.2; omega
  have hy : b.natAbs < 18446744073709551616 := by have := hb.1; have := hb.2; omega
  simp (maxSteps := 1000000) (disch := omega) only [hid1', hid2', guardK_u, takeG_u, wrap_in64, optK_some', fzK_false', nilK_ptr, brK_true', brK_false', guardK_tt', guardK_ff', guardK_tf', guardK_ft', takeG_tt', takeG_ff', takeG_tf', takeG_ft', pickK_t', pickK_f', pickT_t', pickT_f', notK, extract2_0', extract2_1', extract3_0', extract3_1', extract3_2', here_load, here_fieldAt, here_indexAt, here_extract, here_un, here_conv, here_slice, here_bin, here_nil, and_here, true_and, Nat.zero_add, Nat.add_assoc, Nat.add_zero, Int.toNat_natCast, size_alloc, World.cell?_drew, World.frozen?_drew, Bool.not_true, Bool.not_false, Int.toNat_zero, dec_t, dec_f, int_eq_t, int_eq_f, int_ne_t, int_ne_f, wrap_in, kblss2, kbneq4, kbeql63, kbleq63, kcv63_2, kuneg2]
  refine ck47 (size47 ha ?_)
  simp (maxSteps := 1000000) (disch := omega) only [hid1', hid2', guardK_u, takeG_u, wrap_in64, optK_some', fzK_false', nilK_ptr, brK_true', brK_false', guardK_tt', guardK_ff', guardK_tf', guardK_ft', takeG_tt', takeG_ff', takeG_tf', takeG_ft', pickK_t', pickK_f', pickT_t', pickT_f', notK, extract2_0', extract2_1', extract3_0', extract3_1', extract3_2', here_load, here_fieldAt, here_indexAt, here_extract, here_un, here_conv, here_slice, here_bin, here_nil, and_here, true_and, Nat.zero_add, Nat.add_assoc, Nat.add_zero, Int.toNat_natCast, size_alloc, World.cell?_drew, World.frozen?_drew, Bool.not_true, Bool.not_false, Int.toNat_zero, dec_t, dec_f, int_eq_t, int_eq_f, int_ne_t, int_ne_f, wrap_in, kblss2, kbneq4, kbeql63, kbleq63, kcv63_2, kuneg2]
  refine ck47 (size47 hb ?_)
  simp (maxSteps := 1000000) (disch := omega) only [hid1', hid2', guardK_u, takeG_u, wrap_in64, optK_some', fzK_false', nilK_ptr, brK_true', brK_false', guardK_tt', guardK_ff', guardK_tf', guardK_ft', takeG_tt', takeG_ff', takeG_tf', takeG_ft', pickK_t', pickK_f', pickT_t', pickT_f', notK, extract2_0', extract2_1', extract3_0', extract3_1', extract3_2', here_load, here_fieldAt, here_indexAt, here_extract, here_un, here_conv, here_slice, here_bin, here_nil, and_here, true_and, Nat.zero_add, Nat.add_assoc, Nat.add_zero, Int.toNat_natCast, size_alloc, World.cell?_drew, World.frozen?_drew, Bool.not_true, Bool.not_false, Int.toNat_zero, dec_t, dec_f, int_eq_t, int_eq_f, int_ne_t, int_ne_f, wrap_in, kblss2, kbneq4, kbeql63, kbleq63, kcv63_2, kuneg2]
  refine mul46 hx hy ?_
  generalize a.natAbs * b.natAbs = P at *
  generalize (decide (a < 0) != decide (b < 0)) = neg at *
  by_cases h64 : P < 18446744073709551616
  · rw [Nat.div_eq_of_lt h64, Nat.mod_eq_of_lt h64]
    have z0 : (((0 : Nat) : Int) == 0) = true := rfl
    by_cases h0 : P = 0
    · have e0 : ((P : Int) == 0) = true := by rw [h0]; rfl
      have ec : cutI (if neg = true then -(P : Int) else (P : Int)) = 0 := by
        rw [h0]; cases neg <;> rfl
      rw [ec] at hK
      simp (maxSteps := 1000000) (disch := omega) only [hid1', hid2', guardK_u, takeG_u, wrap_in64, optK_some', fzK_false', nilK_ptr, brK_true', brK_false', guardK_tt', guardK_ff', guardK_tf', guardK_ft', takeG_tt', takeG_ff', takeG_tf', takeG_ft', pickK_t', pickK_f', pickT_t', pickT_f', notK, extract2_0', extract2_1', extract3_0', extract3_1', extract3_2', here_load, here_fieldAt, here_indexAt, here_extract, here_un, here_conv, here_slice, here_bin, here_nil, and_here, true_and, Nat.zero_add, Nat.add_assoc, Nat.add_zero, Int.toNat_natCast, size_alloc, World.cell?_drew, World.frozen?_drew, Bool.not_true, Bool.not_false, Int.toNat_zero, dec_t, dec_f, int_eq_t, int_eq_f, int_ne_t, int_ne_f, wrap_in, kblss2, kbneq4, kbeql63, kbleq63, kcv63_2, kuneg2, e0, z0]
      exact hK
    · have e0 : ((P : Int) == 0) = false := by rw [beq_eq_false_iff_ne]; omega
      cases neg with
      | true =>
        rw [if_pos rfl] at hK
        by_cases h63 : P ≤ 9223372036854775808
        · have ew : IntKind.i64.wrap (-(IntKind.i64.wrap (P : Int))) = -(P : Int) := by
            by_cases h : P = 9223372036854775808
            · rw [h]; rfl
            · rw [wrapI (P : Int) (by omega) (by omega), wrapI _ (by omega) (by omega)]
          rw [cutI_in (by omega) (by omega)] at hK
          simp (maxSteps := 1000000) (disch := omega) only [hid1', hid2', guardK_u, takeG_u, wrap_in64, optK_some', fzK_false', nilK_ptr, brK_true', brK_false', guardK_tt', guardK_ff', guardK_tf', guardK_ft', takeG_tt', takeG_ff', takeG_tf', takeG_ft', pickK_t', pickK_f', pickT_t', pickT_f', notK, extract2_0', extract2_1', extract3_0', extract3_1', extract3_2', here_load, here_fieldAt, here_indexAt, here_extract, here_un, here_conv, here_slice, here_bin, here_nil, and_here, true_and, Nat.zero_add, Nat.add_assoc, Nat.add_zero, Int.toNat_natCast, size_alloc, World.cell?_drew, World.frozen?_drew, Bool.not_true, Bool.not_false, Int.toNat_zero, dec_t, dec_f, int_eq_t, int_eq_f, int_ne_t, int_ne_f, wrap_in, kblss2, kbneq4, kbeql63, kbleq63, kcv63_2, kuneg2, e0, z0]
          rw [ew]
          exact hK
        · rw [cutI_lo (by omega)] at hK
          simp (maxSteps := 1000000) (disch := omega) only [hid1', hid2', guardK_u, takeG_u, wrap_in64, optK_some', fzK_false', nilK_ptr, brK_true', brK_false', guardK_tt', guardK_ff', guardK_tf', guardK_ft', takeG_tt', takeG_ff', takeG_tf', takeG_ft', pickK_t', pickK_f', pickT_t', pickT_f', notK, extract2_0', extract2_1', extract3_0', extract3_1', extract3_2', here_load, here_fieldAt, here_indexAt, here_extract, here_un, here_conv, here_slice, here_bin, here_nil, and_here, true_and, Nat.zero_add, Nat.add_assoc, Nat.add_zero, Int.toNat_natCast, size_alloc, World.cell?_drew, World.frozen?_drew, Bool.not_true, Bool.not_false, Int.toNat_zero, dec_t, dec_f, int_eq_t, int_eq_f, int_ne_t, int_ne_f, wrap_in, kblss2, kbneq4, kbeql63, kbleq63, kcv63_2, kuneg2, e0, z0, guardK_u]
          refine ck45 (cut45 ?_)
          simp (maxSteps := 1000000) (disch := omega) only [hid1', hid2', guardK_u, takeG_u, wrap_in64, optK_some', fzK_false', nilK_ptr, brK_true', brK_false', guardK_tt', guardK_ff', guardK_tf', guardK_ft', takeG_tt', takeG_ff', takeG_tf', takeG_ft', pickK_t', pickK_f', pickT_t', pickT_f', notK, extract2_0', extract2_1', extract3_0', extract3_1', extract3_2', here_load, here_fieldAt, here_indexAt, here_extract, here_un, here_conv, here_slice, here_bin, here_nil, and_here, true_and, Nat.zero_add, Nat.add_assoc, Nat.add_zero, Int.toNat_natCast, size_alloc, World.cell?_drew, World.frozen?_drew, Bool.not_true, Bool.not_false, Int.toNat_zero, dec_t, dec_f, int_eq_t, int_eq_f, int_ne_t, int_ne_f, wrap_in, kblss2, kbneq4, kbeql63, kbleq63, kcv63_2, kuneg2]
          exact hK
      | false =>
        rw [if_neg (by decide)] at hK
        by_cases h63 : P ≤ 9223372036854775807
        · rw [cutI_in (by omega) (by omega)] at hK
          simp (maxSteps := 1000000) (disch := omega) only [hid1', hid2', guardK_u, takeG_u, wrap_in64, optK_some', fzK_false', nilK_ptr, brK_true', brK_false', guardK_tt', guardK_ff', guardK_tf', guardK_ft', takeG_tt', takeG_ff', takeG_tf', takeG_ft', pickK_t', pickK_f', pickT_t', pickT_f', notK, extract2_0', extract2_1', extract3_0', extract3_1', extract3_2', here_load, here_fieldAt, here_indexAt, here_extract, here_un, here_conv, here_slice, here_bin, here_nil, and_here, true_and, Nat.zero_add, Nat.add_assoc, Nat.add_zero, Int.toNat_natCast, size_alloc, World.cell?_drew, World.frozen?_drew, Bool.not_true, Bool.not_false, Int.toNat_zero, dec_t, dec_f, int_eq_t, int_eq_f, int_ne_t, int_ne_f, wrap_in, kblss2, kbneq4, kbeql63, kbleq63, kcv63_2, kuneg2, e0, z0, guardK_u]
          exact hK
        · rw [cutI_hi (by omega)] at hK
          simp (maxSteps := 1000000) (disch := omega) only [hid1', hid2', guardK_u, takeG_u, wrap_in64, optK_some', fzK_false', nilK_ptr, brK_true', brK_false', guardK_tt', guardK_ff', guardK_tf', guardK_ft', takeG_tt', takeG_ff', takeG_tf', takeG_ft', pickK_t', pickK_f', pickT_t', pickT_f', notK, extract2_0', extract2_1', extract3_0', extract3_1', extract3_2', here_load, here_fieldAt, here_indexAt, here_extract, here_un, here_conv, here_slice, here_bin, here_nil, and_here, true_and, Nat.zero_add, Nat.add_assoc, Nat.add_zero, Int.toNat_natCast, size_alloc, World.cell?_drew, World.frozen?_drew, Bool.not_true, Bool.not_false, Int.toNat_zero, dec_t, dec_f, int_eq_t, int_eq_f, int_ne_t, int_ne_f, wrap_in, kblss2, kbneq4, kbeql63, kbleq63, kcv63_2, kuneg2, e0, z0, guardK_u]
          refine ck45 (cut45 ?_)
          simp (maxSteps := 1000000) (disch := omega) only [hid1', hid2', guardK_u, takeG_u, wrap_in64, optK_some', fzK_false', nilK_ptr, brK_true', brK_false', guardK_tt', guardK_ff', guardK_tf', guardK_ft', takeG_tt', takeG_ff', takeG_tf', takeG_ft', pickK_t', pickK_f', pickT_t', pickT_f', notK, extract2_0', extract2_1', extract3_0', extract3_1', extract3_2', here_load, here_fieldAt, here_indexAt, here_extract, here_un, here_conv, here_slice, here_bin, here_nil, and_here, true_and, Nat.zero_add, Nat.add_assoc, Nat.add_zero, Int.toNat_natCast, size_alloc, World.cell?_drew, World.frozen?_drew, Bool.not_true, Bool.not_false, Int.toNat_zero, dec_t, dec_f, int_eq_t, int_eq_f, int_ne_t, int_ne_f, wrap_in, kblss2, kbneq4, kbeql63, kbleq63, kcv63_2, kuneg2]
          exact hK
  · have zh : (((P / 18446744073709551616 : Nat) : Int) == 0) = false := by rw [beq_eq_false_iff_ne]; omega
    cases neg with
    | true =>
      rw [if_pos rfl, cutI_lo (by omega)] at hK
      by_cases h0 : ((P % 18446744073709551616 : Nat) : Int) = 0
      · have e0 : (((P % 18446744073709551616 : Nat) : Int) == 0) = true := by rw [h0]; rfl
        simp (maxSteps := 1000000) (disch := omega) only [hid1', hid2', guardK_u, takeG_u, wrap_in64, optK_some', fzK_false', nilK_ptr, brK_true', brK_false', guardK_tt', guardK_ff', guardK_tf', guardK_ft', takeG_tt', takeG_ff', takeG_tf', takeG_ft', pickK_t', pickK_f', pickT_t', pickT_f', notK, extract2_0', extract2_1', extract3_0', extract3_1', extract3_2', here_load, here_fieldAt, here_indexAt, here_extract, here_un, here_conv, here_slice, here_bin, here_nil, and_here, true_and, Nat.zero_add, Nat.add_assoc, Nat.add_zero, Int.toNat_natCast, size_alloc, World.cell?_drew, World.frozen?_drew, Bool.not_true, Bool.not_false, Int.toNat_zero, dec_t, dec_f, int_eq_t, int_eq_f, int_ne_t, int_ne_f, wrap_in, kblss2, kbneq4, kbeql63, kbleq63, kcv63_2, kuneg2, e0, zh, guardK_u]
        refine ck45 (cut45 ?_)
        simp (maxSteps := 1000000) (disch := omega) only [hid1', hid2', guardK_u, takeG_u, wrap_in64, optK_some', fzK_false', nilK_ptr, brK_true', brK_false', guardK_tt', guardK_ff', guardK_tf', guardK_ft', takeG_tt', takeG_ff', takeG_tf', takeG_ft', pickK_t', pickK_f', pickT_t', pickT_f', notK, extract2_0', extract2_1', extract3_0', extract3_1', extract3_2', here_load, here_fieldAt, here_indexAt, here_extract, here_un, here_conv, here_slice, here_bin, here_nil, and_here, true_and, Nat.zero_add, Nat.add_assoc, Nat.add_zero, Int.toNat_natCast, size_alloc, World.cell?_drew, World.frozen?_drew, Bool.not_true, Bool.not_false, Int.toNat_zero, dec_t, dec_f, int_eq_t, int_eq_f, int_ne_t, int_ne_f, wrap_in, kblss2, kbneq4, kbeql63, kbleq63, kcv63_2, kuneg2]
        exact hK
      · have e0 : (((P % 18446744073709551616 : Nat) : Int) == 0) = false := by rw [beq_eq_false_iff_ne]; exact h0
        simp (maxSteps := 1000000) (disch := omega) only [hid1', hid2', guardK_u, takeG_u, wrap_in64, optK_some', fzK_false', nilK_ptr, brK_true', brK_false', guardK_tt', guardK_ff', guardK_tf', guardK_ft', takeG_tt', takeG_ff', takeG_tf', takeG_ft', pickK_t', pickK_f', pickT_t', pickT_f', notK, extract2_0', extract2_1', extract3_0', extract3_1', extract3_2', here_load, here_fieldAt, here_indexAt, here_extract, here_un, here_conv, here_slice, here_bin, here_nil, and_here, true_and, Nat.zero_add, Nat.add_assoc, Nat.add_zero, Int.toNat_natCast, size_alloc, World.cell?_drew, World.frozen?_drew, Bool.not_true, Bool.not_false, Int.toNat_zero, dec_t, dec_f, int_eq_t, int_eq_f, int_ne_t, int_ne_f, wrap_in, kblss2, kbneq4, kbeql63, kbleq63, kcv63_2, kuneg2, e0, zh, guardK_u]
        refine ck45 (cut45 ?_)
        simp (maxSteps := 1000000) (disch := omega) only [hid1', hid2', guardK_u, takeG_u, wrap_in64, optK_some', fzK_false', nilK_ptr, brK_true', brK_false', guardK_tt', guardK_ff', guardK_tf', guardK_ft', takeG_tt', takeG_ff', takeG_tf', takeG_ft', pickK_t', pickK_f', pickT_t', pickT_f', notK, extract2_0', extract2_1', extract3_0', extract3_1', extract3_2', here_load, here_fieldAt, here_indexAt, here_extract, here_un, here_conv, here_slice, here_bin, here_nil, and_here, true_and, Nat.zero_add, Nat.add_assoc, Nat.add_zero, Int.toNat_natCast, size_alloc, World.cell?_drew, World.frozen?_drew, Bool.not_true, Bool.not_false, Int.toNat_zero, dec_t, dec_f, int_eq_t, int_eq_f, int_ne_t, int_ne_f, wrap_in, kblss2, kbneq4, kbeql63, kbleq63, kcv63_2, kuneg2]
        exact hK
    | false =>
      rw [if_neg (by decide), cutI_hi (by omega)] at hK
      by_cases h0 : ((P % 18446744073709551616 : Nat) : Int) = 0
      · have e0 : (((P % 18446744073709551616 : Nat) : Int) == 0) = true := by rw [h0]; rfl
        simp (maxSteps := 1000000) (disch := omega) only [hid1', hid2', guardK_u, takeG_u, wrap_in64, optK_some', fzK_false', nilK_ptr, brK_true', brK_false', guardK_tt', guardK_ff', guardK_tf', guardK_ft', takeG_tt', takeG_ff', takeG_tf', takeG_ft', pickK_t', pickK_f', pickT_t', pickT_f', notK, extract2_0', extract2_1', extract3_0', extract3_1', extract3_2', here_load, here_fieldAt, here_indexAt, here_extract, here_un, here_conv, here_slice, here_bin, here_nil, and_here, true_and, Nat.zero_add, Nat.add_assoc, Nat.add_zero, Int.toNat_natCast, size_alloc, World.cell?_drew, World.frozen?_drew, Bool.not_true, Bool.not_false, Int.toNat_zero, dec_t, dec_f, int_eq_t, int_eq_f, int_ne_t, int_ne_f, wrap_in, kblss2, kbneq4, kbeql63, kbleq63, kcv63_2, kuneg2, e0, zh, guardK_u]
        refine ck45 (cut45 ?_)
        simp (maxSteps := 1000000) (disch := omega) only [hid1', hid2', guardK_u, takeG_u, wrap_in64, optK_some', fzK_false', nilK_ptr, brK_true', brK_false', guardK_tt', guardK_ff', guardK_tf', guardK_ft', takeG_tt', takeG_ff', takeG_tf', takeG_ft', pickK_t', pickK_f', pickT_t', pickT_f', notK, extract2_0', extract2_1', extract3_0', extract3_1', extract3_2', here_load, here_fieldAt, here_indexAt, here_extract, here_un, here_conv, here_slice, here_bin, here_nil, and_here, true_and, Nat.zero_add, Nat.add_assoc, Nat.add_zero, Int.toNat_natCast, size_alloc, World.cell?_drew, World.frozen?_drew, Bool.not_true, Bool.not_false, Int.toNat_zero, dec_t, dec_f, int_eq_t, int_eq_f, int_ne_t, int_ne_f, wrap_in, kblss2, kbneq4, kbeql63, kbleq63, kcv63_2, kuneg2]
        exact hK
      · have e0 : (((P % 18446744073709551616 : Nat) : Int) == 0) = false := by rw [beq_eq_false_iff_ne]; exact h0
        simp (maxSteps := 1000000) (disch := omega) only [hid1', hid2', guardK_u, takeG_u, wrap_in64, optK_some', fzK_false', nilK_ptr, brK_true', brK_false', guardK_tt', guardK_ff', guardK_tf', guardK_ft', takeG_tt', takeG_ff', takeG_tf', takeG_ft', pickK_t', pickK_f', pickT_t', pickT_f', notK, extract2_0', extract2_1', extract3_0', extract3_1', extract3_2', here_load, here_fieldAt, here_indexAt, here_extract, here_un, here_conv, here_slice, here_bin, here_nil, and_here, true_and, Nat.zero_add, Nat.add_assoc, Nat.add_zero, Int.toNat_natCast, size_alloc, World.cell?_drew, World.frozen?_drew, Bool.not_true, Bool.not_false, Int.toNat_zero, dec_t, dec_f, int_eq_t, int_eq_f, int_ne_t, int_ne_f, wrap_in, kblss2, kbneq4, kbeql63, kbleq63, kcv63_2, kuneg2, e0, zh, guardK_u]
        refine ck45 (cut45 ?_)
        simp (maxSteps := 1000000) (disch := omega) only [hid1', hid2', guardK_u, takeG_u, wrap_in64, optK_some', fzK_false', nilK_ptr, brK_true', brK_false', guardK_tt', guardK_ff', guardK_tf', guardK_ft', takeG_tt', takeG_ff', takeG_tf', takeG_ft', pickK_t', pickK_f', pickT_t', pickT_f', notK, extract2_0', extract2_1', extract3_0', extract3_1', extract3_2', here_load, here_fieldAt, here_indexAt, here_extract, here_un, here_conv, here_slice, here_bin, here_nil, and_here, true_and, Nat.zero_add, Nat.add_assoc, Nat.add_zero, Int.toNat_natCast, size_alloc, World.cell?_drew, World.frozen?_drew, Bool.not_true, Bool.not_false, Int.toNat_zero, dec_t, dec_f, int_eq_t, int_eq_f, int_ne_t, int_ne_f, wrap_in, kblss2, kbneq4, kbeql63, kbleq63, kcv63_2, kuneg2]
        exact hK
theorem tdiv_in (x y : Int) : (x.tdiv y).natAbs ≤ x.natAbs := by
  rw [Int.natAbs_tdiv]; exact Nat.div_le_self _ _
theorem tdiv_m1 (x : Int) : x.tdiv (-1) = -x := by rw [Int.tdiv_neg, Int.tdiv_one]
/-- A quotient, once it has gone round, is the factor only where the product has not. -/
theorem mul_round {a b : Int} (ha : in64 a) (hb : in64 b) (hb0 : b ≠ 0) (hout : a * b < -9223372036854775808 ∨ 9223372036854775807 < a * b) (hs : ¬ (a = -9223372036854775808 ∧ b = -1)) : IntKind.i64.wrap ((IntKind.i64.wrap (a * b)).tdiv b) ≠ a := by
  obtain ⟨a1, a2⟩ := ha
  obtain ⟨b1, b2⟩ := hb
  intro e
  have hw := wrap64_eq (a * b)
  generalize hc : IntKind.i64.wrap (a * b) = c at *
  have hcr : -9223372036854775808 ≤ c ∧ c ≤ 9223372036854775807 := by omega
  by_cases hb1 : b = -1
  · subst hb1
    rw [tdiv_m1] at e
    rw [Int.mul_neg, Int.mul_one] at *
    have := wrap64_eq (-c)
    omega
  · have hd := Int.mul_tdiv_add_tmod c b
    have hm : (c.tmod b).natAbs < b.natAbs := by
      rw [Int.natAbs_tmod]; exact Nat.mod_lt _ (by omega)
    have hq := tdiv_in c b
    have hq2 : (c.tdiv b).natAbs * b.natAbs ≤ c.natAbs := by
      rw [Int.natAbs_tdiv]; exact Nat.div_mul_le_self _ _
    have hqr : -9223372036854775808 ≤ c.tdiv b ∧ c.tdiv b ≤ 9223372036854775807 := by
      refine ⟨by omega, ?_⟩
      by_cases h : c.tdiv b ≤ 9223372036854775807
      · exact h
      · exfalso
        have h1 : b.natAbs = 1 := by
          have h2 : 9223372036854775808 ≤ (c.tdiv b).natAbs := by omega
          have h3 : 9223372036854775808 * b.natAbs ≤ (c.tdiv b).natAbs * b.natAbs := Nat.mul_le_mul_right _ h2
          omega
        have : b = 1 := by omega
        rw [this, Int.tdiv_one] at h
        omega
    rw [wrapI _ hqr.1 hqr.2] at e
    rw [e, Int.mul_comm b a] at hd
    omega
theorem mul_exact {a b : Int} (ha : in64 a) (hb0 : b ≠ 0) : (a * b).tdiv b = a := Int.mul_tdiv_cancel a hb0
set_option maxHeartbeats 1000000 in
theorem mul30 {a b : Int} {w : World} {K : Value → World → Prop} (ha : in64 a) (hb : in64 b) (hK : K (.int .i64 (cutI (a * b))) w) : CallK Tryd.prog 30 #[.int .i64 a, .int .i64 b] K w := by
  refine F30_calls _ _ _ _ ?_; unfold F30
  by_cases a0 : a = 0
  · have e0 : (a == 0) = true := by rw [a0]; rfl
    rw [a0, Int.zero_mul] at hK
    simp (maxSteps := 1000000) (disch := omega) only [hid1', hid2', guardK_u, takeG_u, wrap_in64, optK_some', fzK_false', nilK_ptr, brK_true', brK_false', guardK_tt', guardK_ff', guardK_tf', guardK_ft', takeG_tt', takeG_ff', takeG_tf', takeG_ft', pickK_t', pickK_f', pickT_t', pickT_f', notK, extract2_0', extract2_1', extract3_0', extract3_1', extract3_2', here_load, here_fieldAt, here_indexAt, here_extract, here_un, here_conv, here_slice, here_bin, here_nil, and_here, true_and, Nat.zero_add, Nat.add_assoc, Nat.add_zero, Int.toNat_natCast, size_alloc, World.cell?_drew, World.frozen?_drew, Bool.not_true, Bool.not_false, Int.toNat_zero, dec_t, dec_f, int_eq_t, int_eq_f, int_ne_t, int_ne_f, wrap_in, kbeql4, kbeql2, kbmul2, kblss2, kbquo2, e0, guardK_u]
    exact hK
  have e0 : (a == 0) = false := by rw [beq_eq_false_iff_ne]; exact a0
  by_cases b0 : b = 0
  · have e1 : (b == 0) = true := by rw [b0]; rfl
    rw [b0, Int.mul_zero] at hK
    simp (maxSteps := 1000000) (disch := omega) only [hid1', hid2', guardK_u, takeG_u, wrap_in64, optK_some', fzK_false', nilK_ptr, brK_true', brK_false', guardK_tt', guardK_ff', guardK_tf', guardK_ft', takeG_tt', takeG_ff', takeG_tf', takeG_ft', pickK_t', pickK_f', pickT_t', pickT_f', notK, extract2_0', extract2_1', extract3_0', extract3_1', extract3_2', here_load, here_fieldAt, here_indexAt, here_extract, here_un, here_conv, here_slice, here_bin, here_nil, and_here, true_and, Nat.zero_add, Nat.add_assoc, Nat.add_zero, Int.toNat_natCast, size_alloc, World.cell?_drew, World.frozen?_drew, Bool.not_true, Bool.not_false, Int.toNat_zero, dec_t, dec_f, int_eq_t, int_eq_f, int_ne_t, int_ne_f, wrap_in, kbeql4, kbeql2, kbmul2, kblss2, kbquo2, e0, e1]
    exact hK
  have e1 : (b == 0) = false := by rw [beq_eq_false_iff_ne]; exact b0
  have hm : ∀ (K : Value → World → Prop) (w : World), BinK Tryd.prog .mul 2 (.int .i64 a) (.int .i64 b) K w = K (.int .i64 (IntKind.i64.wrap (a * b))) w := fun K w => by
    unfold BinK; go_simp
    exact Iff.rfl
  by_cases hin : -9223372036854775808 ≤ a * b ∧ a * b ≤ 9223372036854775807
  · rw [cutI_in hin.1 hin.2] at hK
    have ew := wrapI _ hin.1 hin.2
    have eq : IntKind.i64.wrap ((a * b).tdiv b) = a := by rw [mul_exact ha b0, wrapI _ ha.1 ha.2]
    have n1 : ¬ (a = -9223372036854775808 ∧ b = -1) := by rintro ⟨rfl, rfl⟩; simp at hin
    have n2 : ¬ (b = -9223372036854775808 ∧ a = -1) := by rintro ⟨rfl, rfl⟩; simp at hin
    have eaa : (a == a) = true := beq_self_eq_true a
    have hba : (b == -9223372036854775808) = true → (a == -1) = false := fun h => by
      rw [beq_eq_false_iff_ne]; exact fun e => n2 ⟨beq_iff_eq.1 h, e⟩
    have hab : (a == -9223372036854775808) = true → (b == -1) = false := fun h => by
      rw [beq_eq_false_iff_ne]; exact fun e => n1 ⟨beq_iff_eq.1 h, e⟩
    cases f1 : (a == -9223372036854775808) with
    | true =>
      have f1' := hab f1
      cases f2 : (b == -9223372036854775808) with
      | true =>
        have f2' := hba f2
        simp (maxSteps := 1000000) (disch := omega) only [hid1', hid2', guardK_u, takeG_u, wrap_in64, optK_some', fzK_false', nilK_ptr, brK_true', brK_false', guardK_tt', guardK_ff', guardK_tf', guardK_ft', takeG_tt', takeG_ff', takeG_tf', takeG_ft', pickK_t', pickK_f', pickT_t', pickT_f', notK, extract2_0', extract2_1', extract3_0', extract3_1', extract3_2', here_load, here_fieldAt, here_indexAt, here_extract, here_un, here_conv, here_slice, here_bin, here_nil, and_here, true_and, Nat.zero_add, Nat.add_assoc, Nat.add_zero, Int.toNat_natCast, size_alloc, World.cell?_drew, World.frozen?_drew, Bool.not_true, Bool.not_false, Int.toNat_zero, dec_t, dec_f, int_eq_t, int_eq_f, int_ne_t, int_ne_f, wrap_in, kbeql4, kbeql2, kbmul2, kblss2, kbquo2, e0, e1, hm, ew, quoI _ _ b0, eq, eaa, f1, f1', f2, f2', guardK_u]
        exact hK
      | false =>
        simp (maxSteps := 1000000) (disch := omega) only [hid1', hid2', guardK_u, takeG_u, wrap_in64, optK_some', fzK_false', nilK_ptr, brK_true', brK_false', guardK_tt', guardK_ff', guardK_tf', guardK_ft', takeG_tt', takeG_ff', takeG_tf', takeG_ft', pickK_t', pickK_f', pickT_t', pickT_f', notK, extract2_0', extract2_1', extract3_0', extract3_1', extract3_2', here_load, here_fieldAt, here_indexAt, here_extract, here_un, here_conv, here_slice, here_bin, here_nil, and_here, true_and, Nat.zero_add, Nat.add_assoc, Nat.add_zero, Int.toNat_natCast, size_alloc, World.cell?_drew, World.frozen?_drew, Bool.not_true, Bool.not_false, Int.toNat_zero, dec_t, dec_f, int_eq_t, int_eq_f, int_ne_t, int_ne_f, wrap_in, kbeql4, kbeql2, kbmul2, kblss2, kbquo2, e0, e1, hm, ew, quoI _ _ b0, eq, eaa, f1, f1', f2, guardK_u]
        exact hK
    | false =>
      cases f2 : (b == -9223372036854775808) with
      | true =>
        have f2' := hba f2
        simp (maxSteps := 1000000) (disch := omega) only [hid1', hid2', guardK_u, takeG_u, wrap_in64, optK_some', fzK_false', nilK_ptr, brK_true', brK_false', guardK_tt', guardK_ff', guardK_tf', guardK_ft', takeG_tt', takeG_ff', takeG_tf', takeG_ft', pickK_t', pickK_f', pickT_t', pickT_f', notK, extract2_0', extract2_1', extract3_0', extract3_1', extract3_2', here_load, here_fieldAt, here_indexAt, here_extract, here_un, here_conv, here_slice, here_bin, here_nil, and_here, true_and, Nat.zero_add, Nat.add_assoc, Nat.add_zero, Int.toNat_natCast, size_alloc, World.cell?_drew, World.frozen?_drew, Bool.not_true, Bool.not_false, Int.toNat_zero, dec_t, dec_f, int_eq_t, int_eq_f, int_ne_t, int_ne_f, wrap_in, kbeql4, kbeql2, kbmul2, kblss2, kbquo2, e0, e1, hm, ew, quoI _ _ b0, eq, eaa, f1, f2, f2', guardK_u]
        exact hK
      | false =>
        simp (maxSteps := 1000000) (disch := omega) only [hid1', hid2', guardK_u, takeG_u, wrap_in64, optK_some', fzK_false', nilK_ptr, brK_true', brK_false', guardK_tt', guardK_ff', guardK_tf', guardK_ft', takeG_tt', takeG_ff', takeG_tf', takeG_ft', pickK_t', pickK_f', pickT_t', pickT_f', notK, extract2_0', extract2_1', extract3_0', extract3_1', extract3_2', here_load, here_fieldAt, here_indexAt, here_extract, here_un, here_conv, here_slice, here_bin, here_nil, and_here, true_and, Nat.zero_add, Nat.add_assoc, Nat.add_zero, Int.toNat_natCast, size_alloc, World.cell?_drew, World.frozen?_drew, Bool.not_true, Bool.not_false, Int.toNat_zero, dec_t, dec_f, int_eq_t, int_eq_f, int_ne_t, int_ne_f, wrap_in, kbeql4, kbeql2, kbmul2, kblss2, kbquo2, e0, e1, hm, ew, quoI _ _ b0, eq, eaa, f1, f2, guardK_u]
        exact hK
  · have hout : a * b < -9223372036854775808 ∨ 9223372036854775807 < a * b := by omega
    have fin : K (.int .i64 (if (decide (a < 0) == decide (b < 0)) = true then 9223372036854775807 else -9223372036854775808)) w := by
      have hs := mul_sign a b
      have hx : (decide (a < 0) == decide (b < 0)) = !(decide (a < 0) != decide (b < 0)) := by
        cases decide (a < 0) <;> cases decide (b < 0) <;> rfl
      rw [hx]
      cases hn : (decide (a < 0) != decide (b < 0)) with
      | true =>
        rw [hn, if_pos rfl] at hs
        rw [cutI_lo (by omega)] at hK
        exact hK
      | false =>
        rw [hn, if_neg (by decide)] at hs
        rw [cutI_hi (by omega)] at hK
        exact hK
    by_cases hs : a = -9223372036854775808 ∧ b = -1
    · obtain ⟨rfl, rfl⟩ := hs
      have fin' : K (.int .i64 9223372036854775807) w := fin
      have f1 : IntKind.i64.wrap (-9223372036854775808 * -1) = -9223372036854775808 := rfl
      have f2 : IntKind.i64.wrap ((-9223372036854775808 : Int).tdiv (-1)) = -9223372036854775808 := rfl
      have f3 : ((-9223372036854775808 : Int) == -9223372036854775808) = true := rfl
      have f4 : ((-1 : Int) == -1) = true := rfl
      have f5 : ((-1 : Int) == -9223372036854775808) = false := rfl
      simp (maxSteps := 1000000) (disch := omega) only [hid1', hid2', guardK_u, takeG_u, wrap_in64, optK_some', fzK_false', nilK_ptr, brK_true', brK_false', guardK_tt', guardK_ff', guardK_tf', guardK_ft', takeG_tt', takeG_ff', takeG_tf', takeG_ft', pickK_t', pickK_f', pickT_t', pickT_f', notK, extract2_0', extract2_1', extract3_0', extract3_1', extract3_2', here_load, here_fieldAt, here_indexAt, here_extract, here_un, here_conv, here_slice, here_bin, here_nil, and_here, true_and, Nat.zero_add, Nat.add_assoc, Nat.add_zero, Int.toNat_natCast, size_alloc, World.cell?_drew, World.frozen?_drew, Bool.not_true, Bool.not_false, Int.toNat_zero, dec_t, dec_f, int_eq_t, int_eq_f, int_ne_t, int_ne_f, wrap_in, kbeql4, kbeql2, kbmul2, kblss2, kbquo2, e0, e1, hm, f1, quoI _ _ b0, f2, f3, f4, btt, guardK_u]
      exact fin'
    · have hne := mul_round ha hb b0 hout hs
      have eq : (IntKind.i64.wrap ((IntKind.i64.wrap (a * b)).tdiv b) == a) = false := by rw [beq_eq_false_iff_ne]; exact hne
      by_cases ha0 : a < 0
      · by_cases hb0 : b < 0
        · rw [decide_eq_true ha0, decide_eq_true hb0, if_pos btt] at fin
          simp (maxSteps := 1000000) (disch := omega) only [hid1', hid2', guardK_u, takeG_u, wrap_in64, optK_some', fzK_false', nilK_ptr, brK_true', brK_false', guardK_tt', guardK_ff', guardK_tf', guardK_ft', takeG_tt', takeG_ff', takeG_tf', takeG_ft', pickK_t', pickK_f', pickT_t', pickT_f', notK, extract2_0', extract2_1', extract3_0', extract3_1', extract3_2', here_load, here_fieldAt, here_indexAt, here_extract, here_un, here_conv, here_slice, here_bin, here_nil, and_here, true_and, Nat.zero_add, Nat.add_assoc, Nat.add_zero, Int.toNat_natCast, size_alloc, World.cell?_drew, World.frozen?_drew, Bool.not_true, Bool.not_false, Int.toNat_zero, dec_t, dec_f, int_eq_t, int_eq_f, int_ne_t, int_ne_f, wrap_in, kbeql4, kbeql2, kbmul2, kblss2, kbquo2, e0, e1, hm, quoI _ _ b0, eq, btt, guardK_u]
          exact fin
        · rw [decide_eq_true ha0, decide_eq_false hb0, if_neg (by decide)] at fin
          simp (maxSteps := 1000000) (disch := omega) only [hid1', hid2', guardK_u, takeG_u, wrap_in64, optK_some', fzK_false', nilK_ptr, brK_true', brK_false', guardK_tt', guardK_ff', guardK_tf', guardK_ft', takeG_tt', takeG_ff', takeG_tf', takeG_ft', pickK_t', pickK_f', pickT_t', pickT_f', notK, extract2_0', extract2_1', extract3_0', extract3_1', extract3_2', here_load, here_fieldAt, here_indexAt, here_extract, here_un, here_conv, here_slice, here_bin, here_nil, and_here, true_and, Nat.zero_add, Nat.add_assoc, Nat.add_zero, Int.toNat_natCast, size_alloc, World.cell?_drew, World.frozen?_drew, Bool.not_true, Bool.not_false, Int.toNat_zero, dec_t, dec_f, int_eq_t, int_eq_f, int_ne_t, int_ne_f, wrap_in, kbeql4, kbeql2, kbmul2, kblss2, kbquo2, e0, e1, hm, quoI _ _ b0, eq, btf, guardK_u]
          exact fin
      · by_cases hb0 : b < 0
        · rw [decide_eq_false ha0, decide_eq_true hb0, if_neg (by decide)] at fin
          simp (maxSteps := 1000000) (disch := omega) only [hid1', hid2', guardK_u, takeG_u, wrap_in64, optK_some', fzK_false', nilK_ptr, brK_true', brK_false', guardK_tt', guardK_ff', guardK_tf', guardK_ft', takeG_tt', takeG_ff', takeG_tf', takeG_ft', pickK_t', pickK_f', pickT_t', pickT_f', notK, extract2_0', extract2_1', extract3_0', extract3_1', extract3_2', here_load, here_fieldAt, here_indexAt, here_extract, here_un, here_conv, here_slice, here_bin, here_nil, and_here, true_and, Nat.zero_add, Nat.add_assoc, Nat.add_zero, Int.toNat_natCast, size_alloc, World.cell?_drew, World.frozen?_drew, Bool.not_true, Bool.not_false, Int.toNat_zero, dec_t, dec_f, int_eq_t, int_eq_f, int_ne_t, int_ne_f, wrap_in, kbeql4, kbeql2, kbmul2, kblss2, kbquo2, e0, e1, hm, quoI _ _ b0, eq, bft, guardK_u]
          exact fin
        · rw [decide_eq_false ha0, decide_eq_false hb0, if_pos bff] at fin
          simp (maxSteps := 1000000) (disch := omega) only [hid1', hid2', guardK_u, takeG_u, wrap_in64, optK_some', fzK_false', nilK_ptr, brK_true', brK_false', guardK_tt', guardK_ff', guardK_tf', guardK_ft', takeG_tt', takeG_ff', takeG_tf', takeG_ft', pickK_t', pickK_f', pickT_t', pickT_f', notK, extract2_0', extract2_1', extract3_0', extract3_1', extract3_2', here_load, here_fieldAt, here_indexAt, here_extract, here_un, here_conv, here_slice, here_bin, here_nil, and_here, true_and, Nat.zero_add, Nat.add_assoc, Nat.add_zero, Int.toNat_natCast, size_alloc, World.cell?_drew, World.frozen?_drew, Bool.not_true, Bool.not_false, Int.toNat_zero, dec_t, dec_f, int_eq_t, int_eq_f, int_ne_t, int_ne_f, wrap_in, kbeql4, kbeql2, kbmul2, kblss2, kbquo2, e0, e1, hm, quoI _ _ b0, eq, bff, guardK_u]
          exact fin
/-- The quotient, the rest. -/
def divI (a b : Int) : Int := if b = 0 then 0 else if b = -1 then cutI (0 - a) else a.tdiv b
def modI (a b : Int) : Int := if b = 0 then 0 else if b = -1 then 0 else a.tmod b
theorem tdiv_64 {a b : Int} (ha : in64 a) (h0 : b ≠ 0) (h1 : b ≠ -1) : in64 (a.tdiv b) := by
  obtain ⟨a1, a2⟩ := ha
  have h := tdiv_in a b
  refine ⟨by omega, ?_⟩
  by_cases hl : a = -9223372036854775808
  · by_cases hb : b = 1
    · rw [hb, Int.tdiv_one]; omega
    · have hq : (a.tdiv b).natAbs ≤ 4611686018427387904 := by
        rw [Int.natAbs_tdiv]
        refine Nat.le_trans (Nat.div_le_div_left (c := 2) (by omega) (by omega)) ?_
        rw [hl]; decide
      omega
  · omega
theorem div21 {a b : Int} {w : World} {K : Value → World → Prop} (ha : in64 a) (hb : in64 b) (hK : K (.tuple #[.int .i64 (divI a b), .bool (!decide (b = 0))]) w) : CallK Tryd.prog 21 #[.int .i64 a, .int .i64 b] K w := by
  refine F21_calls _ _ _ _ ?_; unfold F21
  unfold divI at hK
  by_cases h0 : b = 0
  · rw [if_pos h0, decide_eq_true h0] at hK
    have e0 : (b == 0) = true := by rw [h0]; rfl
    simp (maxSteps := 1000000) (disch := omega) only [hid1', hid2', guardK_u, takeG_u, wrap_in64, optK_some', fzK_false', nilK_ptr, brK_true', brK_false', guardK_tt', guardK_ff', guardK_tf', guardK_ft', takeG_tt', takeG_ff', takeG_tf', takeG_ft', pickK_t', pickK_f', pickT_t', pickT_f', notK, extract2_0', extract2_1', extract3_0', extract3_1', extract3_2', here_load, here_fieldAt, here_indexAt, here_extract, here_un, here_conv, here_slice, here_bin, here_nil, and_here, true_and, Nat.zero_add, Nat.add_assoc, Nat.add_zero, Int.toNat_natCast, size_alloc, World.cell?_drew, World.frozen?_drew, Bool.not_true, Bool.not_false, Int.toNat_zero, dec_t, dec_f, int_eq_t, int_eq_f, int_ne_t, int_ne_f, wrap_in, kbeql2, kbquo2, e0]
    exact hK
  · rw [if_neg h0, decide_eq_false h0] at hK
    have e0 : (b == 0) = false := by rw [beq_eq_false_iff_ne]; exact h0
    by_cases h1 : b = -1
    · rw [if_pos h1] at hK
      have e1 : (b == -1) = true := by rw [h1]; rfl
      simp (maxSteps := 1000000) (disch := omega) only [hid1', hid2', guardK_u, takeG_u, wrap_in64, optK_some', fzK_false', nilK_ptr, brK_true', brK_false', guardK_tt', guardK_ff', guardK_tf', guardK_ft', takeG_tt', takeG_ff', takeG_tf', takeG_ft', pickK_t', pickK_f', pickT_t', pickT_f', notK, extract2_0', extract2_1', extract3_0', extract3_1', extract3_2', here_load, here_fieldAt, here_indexAt, here_extract, here_un, here_conv, here_slice, here_bin, here_nil, and_here, true_and, Nat.zero_add, Nat.add_assoc, Nat.add_zero, Int.toNat_natCast, size_alloc, World.cell?_drew, World.frozen?_drew, Bool.not_true, Bool.not_false, Int.toNat_zero, dec_t, dec_f, int_eq_t, int_eq_f, int_ne_t, int_ne_f, wrap_in, kbeql2, kbquo2, e0, e1]
      refine ck27 (sub27 ⟨by decide, by decide⟩ ha ?_)
      simp (maxSteps := 1000000) (disch := omega) only [hid1', hid2', guardK_u, takeG_u, wrap_in64, optK_some', fzK_false', nilK_ptr, brK_true', brK_false', guardK_tt', guardK_ff', guardK_tf', guardK_ft', takeG_tt', takeG_ff', takeG_tf', takeG_ft', pickK_t', pickK_f', pickT_t', pickT_f', notK, extract2_0', extract2_1', extract3_0', extract3_1', extract3_2', here_load, here_fieldAt, here_indexAt, here_extract, here_un, here_conv, here_slice, here_bin, here_nil, and_here, true_and, Nat.zero_add, Nat.add_assoc, Nat.add_zero, Int.toNat_natCast, size_alloc, World.cell?_drew, World.frozen?_drew, Bool.not_true, Bool.not_false, Int.toNat_zero, dec_t, dec_f, int_eq_t, int_eq_f, int_ne_t, int_ne_f, wrap_in, kbeql2, kbquo2]
      exact hK
    · rw [if_neg h1] at hK
      have e1 : (b == -1) = false := by rw [beq_eq_false_iff_ne]; exact h1
      have hr := tdiv_64 ha h0 h1
      have ew := wrapI _ hr.1 hr.2
      simp (maxSteps := 1000000) (disch := omega) only [hid1', hid2', guardK_u, takeG_u, wrap_in64, optK_some', fzK_false', nilK_ptr, brK_true', brK_false', guardK_tt', guardK_ff', guardK_tf', guardK_ft', takeG_tt', takeG_ff', takeG_tf', takeG_ft', pickK_t', pickK_f', pickT_t', pickT_f', notK, extract2_0', extract2_1', extract3_0', extract3_1', extract3_2', here_load, here_fieldAt, here_indexAt, here_extract, here_un, here_conv, here_slice, here_bin, here_nil, and_here, true_and, Nat.zero_add, Nat.add_assoc, Nat.add_zero, Int.toNat_natCast, size_alloc, World.cell?_drew, World.frozen?_drew, Bool.not_true, Bool.not_false, Int.toNat_zero, dec_t, dec_f, int_eq_t, int_eq_f, int_ne_t, int_ne_f, wrap_in, kbeql2, kbquo2, e0, e1, quoI _ _ h0, ew]
      exact hK
theorem mod22 {a b : Int} {w : World} {K : Value → World → Prop} (ha : in64 a) (hb : in64 b) (hK : K (.tuple #[.int .i64 (modI a b), .bool (!decide (b = 0))]) w) : CallK Tryd.prog 22 #[.int .i64 a, .int .i64 b] K w := by
  refine F22_calls _ _ _ _ ?_; unfold F22
  unfold modI at hK
  by_cases h0 : b = 0
  · rw [if_pos h0, decide_eq_true h0] at hK
    have e0 : (b == 0) = true := by rw [h0]; rfl
    simp (maxSteps := 1000000) (disch := omega) only [hid1', hid2', guardK_u, takeG_u, wrap_in64, optK_some', fzK_false', nilK_ptr, brK_true', brK_false', guardK_tt', guardK_ff', guardK_tf', guardK_ft', takeG_tt', takeG_ff', takeG_tf', takeG_ft', pickK_t', pickK_f', pickT_t', pickT_f', notK, extract2_0', extract2_1', extract3_0', extract3_1', extract3_2', here_load, here_fieldAt, here_indexAt, here_extract, here_un, here_conv, here_slice, here_bin, here_nil, and_here, true_and, Nat.zero_add, Nat.add_assoc, Nat.add_zero, Int.toNat_natCast, size_alloc, World.cell?_drew, World.frozen?_drew, Bool.not_true, Bool.not_false, Int.toNat_zero, dec_t, dec_f, int_eq_t, int_eq_f, int_ne_t, int_ne_f, wrap_in, kbeql2, kbrem2, e0]
    exact hK
  · rw [if_neg h0, decide_eq_false h0] at hK
    have e0 : (b == 0) = false := by rw [beq_eq_false_iff_ne]; exact h0
    by_cases h1 : b = -1
    · rw [if_pos h1] at hK
      have e1 : (b == -1) = true := by rw [h1]; rfl
      simp (maxSteps := 1000000) (disch := omega) only [hid1', hid2', guardK_u, takeG_u, wrap_in64, optK_some', fzK_false', nilK_ptr, brK_true', brK_false', guardK_tt', guardK_ff', guardK_tf', guardK_ft', takeG_tt', takeG_ff', takeG_tf', takeG_ft', pickK_t', pickK_f', pickT_t', pickT_f', notK, extract2_0', extract2_1', extract3_0', extract3_1', extract3_2', here_load, here_fieldAt, here_indexAt, here_extract, here_un, here_conv, here_slice, here_bin, here_nil, and_here, true_and, Nat.zero_add, Nat.add_assoc, Nat.add_zero, Int.toNat_natCast, size_alloc, World.cell?_drew, World.frozen?_drew, Bool.not_true, Bool.not_false, Int.toNat_zero, dec_t, dec_f, int_eq_t, int_eq_f, int_ne_t, int_ne_f, wrap_in, kbeql2, kbrem2, e0, e1]
      exact hK
    · rw [if_neg h1] at hK
      have e1 : (b == -1) = false := by rw [beq_eq_false_iff_ne]; exact h1
      simp (maxSteps := 1000000) (disch := omega) only [hid1', hid2', guardK_u, takeG_u, wrap_in64, optK_some', fzK_false', nilK_ptr, brK_true', brK_false', guardK_tt', guardK_ff', guardK_tf', guardK_ft', takeG_tt', takeG_ff', takeG_tf', takeG_ft', pickK_t', pickK_f', pickT_t', pickT_f', notK, extract2_0', extract2_1', extract3_0', extract3_1', extract3_2', here_load, here_fieldAt, here_indexAt, here_extract, here_un, here_conv, here_slice, here_bin, here_nil, and_here, true_and, Nat.zero_add, Nat.add_assoc, Nat.add_zero, Int.toNat_natCast, size_alloc, World.cell?_drew, World.frozen?_drew, Bool.not_true, Bool.not_false, Int.toNat_zero, dec_t, dec_f, int_eq_t, int_eq_f, int_ne_t, int_ne_f, wrap_in, kbeql2, kbrem2, e0, e1, remI _ _ h0]
      exact hK
theorem mod24 {a b : Int} {w : World} {K : Value → World → Prop} (ha : in64 a) (hb : in64 b) (hK : K (.tuple #[.int .i64 (modI a b), .bool (!decide (b = 0))]) w) : CallK Tryd.prog 24 #[.int .i64 a, .int .i64 b] K w := by
  refine F24_calls _ _ _ _ ?_; unfold F24
  unfold modI at hK
  by_cases h0 : b = 0
  · rw [if_pos h0, decide_eq_true h0] at hK
    have e0 : (b == 0) = true := by rw [h0]; rfl
    simp (maxSteps := 1000000) (disch := omega) only [hid1', hid2', guardK_u, takeG_u, wrap_in64, optK_some', fzK_false', nilK_ptr, brK_true', brK_false', guardK_tt', guardK_ff', guardK_tf', guardK_ft', takeG_tt', takeG_ff', takeG_tf', takeG_ft', pickK_t', pickK_f', pickT_t', pickT_f', notK, extract2_0', extract2_1', extract3_0', extract3_1', extract3_2', here_load, here_fieldAt, here_indexAt, here_extract, here_un, here_conv, here_slice, here_bin, here_nil, and_here, true_and, Nat.zero_add, Nat.add_assoc, Nat.add_zero, Int.toNat_natCast, size_alloc, World.cell?_drew, World.frozen?_drew, Bool.not_true, Bool.not_false, Int.toNat_zero, dec_t, dec_f, int_eq_t, int_eq_f, int_ne_t, int_ne_f, wrap_in, kbeql2, kbrem2, e0]
    exact hK
  · rw [if_neg h0, decide_eq_false h0] at hK
    have e0 : (b == 0) = false := by rw [beq_eq_false_iff_ne]; exact h0
    by_cases h1 : b = -1
    · rw [if_pos h1] at hK
      have e1 : (b == -1) = true := by rw [h1]; rfl
      simp (maxSteps := 1000000) (disch := omega) only [hid1', hid2', guardK_u, takeG_u, wrap_in64, optK_some', fzK_false', nilK_ptr, brK_true', brK_false', guardK_tt', guardK_ff', guardK_tf', guardK_ft', takeG_tt', takeG_ff', takeG_tf', takeG_ft', pickK_t', pickK_f', pickT_t', pickT_f', notK, extract2_0', extract2_1', extract3_0', extract3_1', extract3_2', here_load, here_fieldAt, here_indexAt, here_extract, here_un, here_conv, here_slice, here_bin, here_nil, and_here, true_and, Nat.zero_add, Nat.add_assoc, Nat.add_zero, Int.toNat_natCast, size_alloc, World.cell?_drew, World.frozen?_drew, Bool.not_true, Bool.not_false, Int.toNat_zero, dec_t, dec_f, int_eq_t, int_eq_f, int_ne_t, int_ne_f, wrap_in, kbeql2, kbrem2, e0, e1]
      exact hK
    · rw [if_neg h1] at hK
      have e1 : (b == -1) = false := by rw [beq_eq_false_iff_ne]; exact h1
      simp (maxSteps := 1000000) (disch := omega) only [hid1', hid2', guardK_u, takeG_u, wrap_in64, optK_some', fzK_false', nilK_ptr, brK_true', brK_false', guardK_tt', guardK_ff', guardK_tf', guardK_ft', takeG_tt', takeG_ff', takeG_tf', takeG_ft', pickK_t', pickK_f', pickT_t', pickT_f', notK, extract2_0', extract2_1', extract3_0', extract3_1', extract3_2', here_load, here_fieldAt, here_indexAt, here_extract, here_un, here_conv, here_slice, here_bin, here_nil, and_here, true_and, Nat.zero_add, Nat.add_assoc, Nat.add_zero, Int.toNat_natCast, size_alloc, World.cell?_drew, World.frozen?_drew, Bool.not_true, Bool.not_false, Int.toNat_zero, dec_t, dec_f, int_eq_t, int_eq_f, int_ne_t, int_ne_f, wrap_in, kbeql2, kbrem2, e0, e1, remI _ _ h0]
      exact hK
theorem div23 {a b : Int} {w : World} {K : Value → World → Prop} (ha : in64 a) (hb : in64 b) (hK : K (.tuple #[.int .i64 (divI a b), .bool (!decide (b = 0))]) w) : CallK Tryd.prog 23 #[.int .i64 a, .int .i64 b] K w := by
  refine F23_calls _ _ _ _ ?_; unfold F23
  unfold divI at hK
  by_cases h0 : b = 0
  · rw [if_pos h0, decide_eq_true h0] at hK
    have e0 : (b == 0) = true := by rw [h0]; rfl
    simp (maxSteps := 1000000) (disch := omega) only [hid1', hid2', guardK_u, takeG_u, wrap_in64, optK_some', fzK_false', nilK_ptr, brK_true', brK_false', guardK_tt', guardK_ff', guardK_tf', guardK_ft', takeG_tt', takeG_ff', takeG_tf', takeG_ft', pickK_t', pickK_f', pickT_t', pickT_f', notK, extract2_0', extract2_1', extract3_0', extract3_1', extract3_2', here_load, here_fieldAt, here_indexAt, here_extract, here_un, here_conv, here_slice, here_bin, here_nil, and_here, true_and, Nat.zero_add, Nat.add_assoc, Nat.add_zero, Int.toNat_natCast, size_alloc, World.cell?_drew, World.frozen?_drew, Bool.not_true, Bool.not_false, Int.toNat_zero, dec_t, dec_f, int_eq_t, int_eq_f, int_ne_t, int_ne_f, wrap_in, kbeql2, kbquo2, e0]
    exact hK
  · rw [if_neg h0, decide_eq_false h0] at hK
    have e0 : (b == 0) = false := by rw [beq_eq_false_iff_ne]; exact h0
    by_cases h1 : b = -1
    · rw [if_pos h1] at hK
      subst h1
      have e4 : ((-1 : Int) == -1) = true := rfl
      by_cases hl : a = -9223372036854775808
      · have e3 : (a == -9223372036854775808) = true := by rw [hl]; rfl
        rw [hl] at hK
        have hK' : K (.tuple #[.int .i64 9223372036854775807, .bool true]) w := hK
        simp (maxSteps := 1000000) (disch := omega) only [hid1', hid2', guardK_u, takeG_u, wrap_in64, optK_some', fzK_false', nilK_ptr, brK_true', brK_false', guardK_tt', guardK_ff', guardK_tf', guardK_ft', takeG_tt', takeG_ff', takeG_tf', takeG_ft', pickK_t', pickK_f', pickT_t', pickT_f', notK, extract2_0', extract2_1', extract3_0', extract3_1', extract3_2', here_load, here_fieldAt, here_indexAt, here_extract, here_un, here_conv, here_slice, here_bin, here_nil, and_here, true_and, Nat.zero_add, Nat.add_assoc, Nat.add_zero, Int.toNat_natCast, size_alloc, World.cell?_drew, World.frozen?_drew, Bool.not_true, Bool.not_false, Int.toNat_zero, dec_t, dec_f, int_eq_t, int_eq_f, int_ne_t, int_ne_f, wrap_in, kbeql2, kbquo2, e0, e3, e4]
        exact hK'
      · have e3 : (a == -9223372036854775808) = false := by rw [beq_eq_false_iff_ne]; exact hl
        have ew : IntKind.i64.wrap (a.tdiv (-1)) = 0 - a := by
          rw [tdiv_m1, wrapI _ (by have := ha.1; have := ha.2; omega) (by have := ha.1; omega)]; omega
        rw [cutI_in (by have := ha.2; omega) (by have := ha.1; omega)] at hK
        simp (maxSteps := 1000000) (disch := omega) only [hid1', hid2', guardK_u, takeG_u, wrap_in64, optK_some', fzK_false', nilK_ptr, brK_true', brK_false', guardK_tt', guardK_ff', guardK_tf', guardK_ft', takeG_tt', takeG_ff', takeG_tf', takeG_ft', pickK_t', pickK_f', pickT_t', pickT_f', notK, extract2_0', extract2_1', extract3_0', extract3_1', extract3_2', here_load, here_fieldAt, here_indexAt, here_extract, here_un, here_conv, here_slice, here_bin, here_nil, and_here, true_and, Nat.zero_add, Nat.add_assoc, Nat.add_zero, Int.toNat_natCast, size_alloc, World.cell?_drew, World.frozen?_drew, Bool.not_true, Bool.not_false, Int.toNat_zero, dec_t, dec_f, int_eq_t, int_eq_f, int_ne_t, int_ne_f, wrap_in, kbeql2, kbquo2, e0, e3, quoI _ _ h0, ew, guardK_u]
        exact hK
    · rw [if_neg h1] at hK
      have e1 : (b == -1) = false := by rw [beq_eq_false_iff_ne]; exact h1
      have hr := tdiv_64 ha h0 h1
      have ew := wrapI _ hr.1 hr.2
      cases e3 : (a == -9223372036854775808) with
      | true =>
        simp (maxSteps := 1000000) (disch := omega) only [hid1', hid2', guardK_u, takeG_u, wrap_in64, optK_some', fzK_false', nilK_ptr, brK_true', brK_false', guardK_tt', guardK_ff', guardK_tf', guardK_ft', takeG_tt', takeG_ff', takeG_tf', takeG_ft', pickK_t', pickK_f', pickT_t', pickT_f', notK, extract2_0', extract2_1', extract3_0', extract3_1', extract3_2', here_load, here_fieldAt, here_indexAt, here_extract, here_un, here_conv, here_slice, here_bin, here_nil, and_here, true_and, Nat.zero_add, Nat.add_assoc, Nat.add_zero, Int.toNat_natCast, size_alloc, World.cell?_drew, World.frozen?_drew, Bool.not_true, Bool.not_false, Int.toNat_zero, dec_t, dec_f, int_eq_t, int_eq_f, int_ne_t, int_ne_f, wrap_in, kbeql2, kbquo2, e0, e3, e1, quoI _ _ h0, ew, guardK_u]
        exact hK
      | false =>
        simp (maxSteps := 1000000) (disch := omega) only [hid1', hid2', guardK_u, takeG_u, wrap_in64, optK_some', fzK_false', nilK_ptr, brK_true', brK_false', guardK_tt', guardK_ff', guardK_tf', guardK_ft', takeG_tt', takeG_ff', takeG_tf', takeG_ft', pickK_t', pickK_f', pickT_t', pickT_f', notK, extract2_0', extract2_1', extract3_0', extract3_1', extract3_2', here_load, here_fieldAt, here_indexAt, here_extract, here_un, here_conv, here_slice, here_bin, here_nil, and_here, true_and, Nat.zero_add, Nat.add_assoc, Nat.add_zero, Int.toNat_natCast, size_alloc, World.cell?_drew, World.frozen?_drew, Bool.not_true, Bool.not_false, Int.toNat_zero, dec_t, dec_f, int_eq_t, int_eq_f, int_ne_t, int_ne_f, wrap_in, kbeql2, kbquo2, e0, e3, e1, quoI _ _ h0, ew, guardK_u]
        exact hK
end Go.Proofs.YtdnlenngbaaeaaaDoor
