/- The document's decimal, a value in its words. Conditions: the rows read, at most 100 numbers. -/
import Derived.Test.YtdnlenngbaaeaaaDoorTxt
set_option linter.unusedVariables false
set_option linter.unusedSimpArgs false
set_option maxRecDepth 100000
namespace Go.Proofs.YtdnlenngbaaeaaaDoor
open Go.RowKit Go.Cn
def dg (u : Nat) : UInt8 := UInt8.ofNat (48 + u)
theorem dg_wrap (u : Nat) (h : u < 10) : IntKind.u8.wrap (48 + (u : Int)) = ((dg u).toNat : Int) := by
  have : IntKind.u8.wrap (48 + (u : Int)) = (48 + (u : Int)) % 256 := by simp [IntKind.wrap, IntKind.bits, IntKind.signed]
  rw [this]
  unfold dg
  simp
theorem one_reads (w : World) (a : UInt8) : Reads (w.alloc (.cells #[.int .u8 (a.toNat : Int)] 5)) (some ⟨w.heap.size, 0, none⟩) ([a].map vb) := by
  refine .inr ⟨w.heap.size, 0, rfl, fun j hj => ?_⟩
  rw [blk_cell (blk_new _ _), Nat.zero_add]
  simp [vb]
theorem dec_stop {u : Nat} (h : u < 10) : Lib.decDigits u = [dg (u % 10)] := by rw [dec_one h, Nat.mod_eq_of_lt h]; rfl
theorem dec_next {u : Nat} (h : ¬ u < 10) : Lib.decDigits u = Lib.decDigits (u / 10) ++ [dg (u % 10)] := dec_more h
set_option maxHeartbeats 1000000 in
theorem dec41p {n : Nat} {w : World} {K : Value → World → Prop} (hn : n ≤ 9223372036854775807) (hK : ∀ w', Qt w w' → K (.string (txt (Lib.decDigits n))) w') : CallK Tryd.prog 41 #[.int .i64 n] K w := by
  refine F41_calls _ _ _ ?_; unfold F41
  have e0 : ((n : Int) == -9223372036854775808) = false := by rw [beq_eq_false_iff_ne]; omega
  have em : (n : Int) % 10 = ((n % 10 : Nat) : Int) := by omega
  have ew := dg_wrap (n % 10) (by omega)
  simp (maxSteps := 1000000) (disch := omega) only [hid1', hid2', guardK_u, takeG_u, wrap_in64, optK_some', fzK_false', nilK_ptr, brK_true', brK_false', guardK_tt', guardK_ff', guardK_tf', guardK_ft', takeG_tt', takeG_ff', takeG_tf', takeG_ft', pickK_t', pickK_f', pickT_t', pickT_f', notK, extract2_0', extract2_1', extract3_0', extract3_1', extract3_2', here_load, here_fieldAt, here_indexAt, here_extract, here_un, here_conv, here_slice, here_bin, here_nil, and_here, true_and, Nat.zero_add, Nat.add_assoc, Nat.add_zero, Int.toNat_natCast, size_alloc, World.cell?_drew, World.frozen?_drew, Bool.not_true, Bool.not_false, Int.toNat_zero, dec_t, dec_f, int_eq_t, int_eq_f, int_ne_t, int_ne_f, wrap_in, kbeql2, kbadd2, kblss2, kbsub2, kbgeq2, kbquo2, kbrem2, kcv2_5, kbs71_1_0, e0, em, ew]
  refine convK (l := [dg (n % 10)]) Tryd.underlying71 Tryd.underlying5 Tryd.underlying9 (one_reads w _) ?_
  have qa : Qt w (w.alloc (.cells #[.int .u8 ((dg (n % 10)).toNat : Int)] 5)) := Chg.alloc Qt.refl _
  generalize (w.alloc (.cells #[.int .u8 ((dg (n % 10)).toNat : Int)] 5)) = w1 at *
  simp (maxSteps := 1000000) (disch := omega) only [hid1', hid2', guardK_u, takeG_u, wrap_in64, optK_some', fzK_false', nilK_ptr, brK_true', brK_false', guardK_tt', guardK_ff', guardK_tf', guardK_ft', takeG_tt', takeG_ff', takeG_tf', takeG_ft', pickK_t', pickK_f', pickT_t', pickT_f', notK, extract2_0', extract2_1', extract3_0', extract3_1', extract3_2', here_load, here_fieldAt, here_indexAt, here_extract, here_un, here_conv, here_slice, here_bin, here_nil, and_here, true_and, Nat.zero_add, Nat.add_assoc, Nat.add_zero, Int.toNat_natCast, size_alloc, World.cell?_drew, World.frozen?_drew, Bool.not_true, Bool.not_false, Int.toNat_zero, dec_t, dec_f, int_eq_t, int_eq_f, int_ne_t, int_ne_f, wrap_in, kbeql2, kbadd2, kblss2, kbsub2, kbgeq2, kbquo2, kbrem2, kcv2_5, kbs71_1_0]
  refine loopK2 (fun v s w' => ∃ (u : Nat) (r : List UInt8), v = .int .i64 u ∧ s = .string (txt (dg (u % 10) :: r)) ∧ u ≤ n ∧ r.length + u ≤ n ∧ Lib.decDigits n = (if u < 10 then [] else Lib.decDigits (u / 10)) ++ dg (u % 10) :: r ∧ Qt w w') (fun v _ _ => (intOf v).toNat) ⟨n, [], rfl, rfl, Nat.le_refl _, by simp, ?_, qa⟩ ?_
  · by_cases h : n < 10
    · rw [if_pos h, dec_stop h]; rfl
    · rw [if_neg h]; exact dec_next h
  rintro _ _ _ w2 ⟨u, r, rfl, rfl, hu, hr, hd, q2⟩
  by_cases hlt : u < 10
  · rw [if_pos hlt, List.nil_append] at hd
    rw [hd] at hK
    simp (maxSteps := 1000000) (disch := omega) only [hid1', hid2', guardK_u, takeG_u, wrap_in64, optK_some', fzK_false', nilK_ptr, brK_true', brK_false', guardK_tt', guardK_ff', guardK_tf', guardK_ft', takeG_tt', takeG_ff', takeG_tf', takeG_ft', pickK_t', pickK_f', pickT_t', pickT_f', notK, extract2_0', extract2_1', extract3_0', extract3_1', extract3_2', here_load, here_fieldAt, here_indexAt, here_extract, here_un, here_conv, here_slice, here_bin, here_nil, and_here, true_and, Nat.zero_add, Nat.add_assoc, Nat.add_zero, Int.toNat_natCast, size_alloc, World.cell?_drew, World.frozen?_drew, Bool.not_true, Bool.not_false, Int.toNat_zero, dec_t, dec_f, int_eq_t, int_eq_f, int_ne_t, int_ne_f, wrap_in, kbeql2, kbadd2, kblss2, kbsub2, kbgeq2, kbquo2, kbrem2, kcv2_5, kbs71_1_0]
    exact hK w2 q2
  · rw [if_neg hlt] at hd
    have eq : (u : Int) / 10 = ((u / 10 : Nat) : Int) := by omega
    have em2 : ((u / 10 : Nat) : Int) % 10 = ((u / 10 % 10 : Nat) : Int) := by omega
    have ew2 := dg_wrap (u / 10 % 10) (by omega)
    simp (maxSteps := 1000000) (disch := omega) only [hid1', hid2', guardK_u, takeG_u, wrap_in64, optK_some', fzK_false', nilK_ptr, brK_true', brK_false', guardK_tt', guardK_ff', guardK_tf', guardK_ft', takeG_tt', takeG_ff', takeG_tf', takeG_ft', pickK_t', pickK_f', pickT_t', pickT_f', notK, extract2_0', extract2_1', extract3_0', extract3_1', extract3_2', here_load, here_fieldAt, here_indexAt, here_extract, here_un, here_conv, here_slice, here_bin, here_nil, and_here, true_and, Nat.zero_add, Nat.add_assoc, Nat.add_zero, Int.toNat_natCast, size_alloc, World.cell?_drew, World.frozen?_drew, Bool.not_true, Bool.not_false, Int.toNat_zero, dec_t, dec_f, int_eq_t, int_eq_f, int_ne_t, int_ne_f, wrap_in, kbeql2, kbadd2, kblss2, kbsub2, kbgeq2, kbquo2, kbrem2, kcv2_5, kbs71_1_0, eq, em2, ew2]
    refine convK (l := [dg (u / 10 % 10)]) Tryd.underlying71 Tryd.underlying5 Tryd.underlying9 (one_reads w2 _) ?_
    have qb : Qt w2 (w2.alloc (.cells #[.int .u8 ((dg (u / 10 % 10)).toNat : Int)] 5)) := Chg.alloc Qt.refl _
    generalize (w2.alloc (.cells #[.int .u8 ((dg (u / 10 % 10)).toNat : Int)] 5)) = w3 at *
    have g1 : [dg (u / 10 % 10)].length + (dg (u % 10) :: r).length ≤ 9223372036854775807 := by simp; omega
    simp (maxSteps := 1000000) (disch := omega) only [hid1', hid2', guardK_u, takeG_u, wrap_in64, optK_some', fzK_false', nilK_ptr, brK_true', brK_false', guardK_tt', guardK_ff', guardK_tf', guardK_ft', takeG_tt', takeG_ff', takeG_tf', takeG_ft', pickK_t', pickK_f', pickT_t', pickT_f', notK, extract2_0', extract2_1', extract3_0', extract3_1', extract3_2', here_load, here_fieldAt, here_indexAt, here_extract, here_un, here_conv, here_slice, here_bin, here_nil, and_here, true_and, Nat.zero_add, Nat.add_assoc, Nat.add_zero, Int.toNat_natCast, size_alloc, World.cell?_drew, World.frozen?_drew, Bool.not_true, Bool.not_false, Int.toNat_zero, dec_t, dec_f, int_eq_t, int_eq_f, int_ne_t, int_ne_f, wrap_in, kbeql2, kbadd2, kblss2, kbsub2, kbgeq2, kbquo2, kbrem2, kcv2_5, kbs71_1_0, add9 _ _ g1]
    refine ⟨⟨u / 10, dg (u % 10) :: r, rfl, rfl, by omega, by simp only [List.length_cons]; omega, ?_, q2.trans qb⟩, by simp [rel, intOf]; omega⟩
    rw [hd]
    by_cases h : u / 10 < 10
    · rw [if_pos h, dec_stop h]; rfl
    · rw [if_neg h, dec_next h, List.append_assoc]; rfl
theorem least_txt : (ByteArray.mk #[45, 57, 50, 50, 51, 51, 55, 50, 48, 51, 54, 56, 53, 52, 55, 55, 53, 56, 48, 56]) = txt (Lib.itoa (-9223372036854775808)) := by
  have e : Lib.itoa (-9223372036854775808) = [45, 57, 50, 50, 51, 51, 55, 50, 48, 51, 54, 56, 53, 52, 55, 55, 53, 56, 48, 56] := by
    have h : numR [45, 57, 50, 50, 51, 51, 55, 50, 48, 51, 54, 56, 53, 52, 55, 55, 53, 56, 48, 56] = some (-9223372036854775808) := by kernel_rfl
    exact (numR_some h).2.symm
  rw [e]; rfl
theorem dec41 {n : Int} {w : World} {K : Value → World → Prop} (hn : in64 n) (hK : ∀ w', Qt w w' → K (.string (txt (Lib.itoa n))) w') : CallK Tryd.prog 41 #[.int .i64 n] K w := by
  obtain ⟨h1, h2⟩ := hn
  by_cases h0 : n < 0
  · by_cases hl : n = -9223372036854775808
    · subst hl
      refine F41_calls _ _ _ ?_; unfold F41
      have e0 : ((-9223372036854775808 : Int) == -9223372036854775808) = true := rfl
      simp (maxSteps := 1000000) (disch := omega) only [hid1', hid2', guardK_u, takeG_u, wrap_in64, optK_some', fzK_false', nilK_ptr, brK_true', brK_false', guardK_tt', guardK_ff', guardK_tf', guardK_ft', takeG_tt', takeG_ff', takeG_tf', takeG_ft', pickK_t', pickK_f', pickT_t', pickT_f', notK, extract2_0', extract2_1', extract3_0', extract3_1', extract3_2', here_load, here_fieldAt, here_indexAt, here_extract, here_un, here_conv, here_slice, here_bin, here_nil, and_here, true_and, Nat.zero_add, Nat.add_assoc, Nat.add_zero, Int.toNat_natCast, size_alloc, World.cell?_drew, World.frozen?_drew, Bool.not_true, Bool.not_false, Int.toNat_zero, dec_t, dec_f, int_eq_t, int_eq_f, int_ne_t, int_ne_f, wrap_in, kbeql2, kbadd2, kblss2, kbsub2, kbgeq2, kbquo2, kbrem2, kcv2_5, kbs71_1_0, e0, least_txt]
      exact hK w Qt.refl
    · obtain ⟨u, rfl⟩ : ∃ u : Nat, n = -(u : Int) := ⟨n.natAbs, by omega⟩
      have e0 : (-(u : Int) == -9223372036854775808) = false := by rw [beq_eq_false_iff_ne]; exact hl
      have ei : Lib.itoa (-(u : Int)) = 45 :: Lib.decDigits u := by
        unfold Lib.itoa
        rw [if_pos h0, show (-(u : Int)).natAbs = u by omega]
      rw [ei] at hK
      have en : (0 : Int) - -(u : Int) = (u : Int) := by omega
      have hdl := dec_len (u := u) (k := 18) (by omega)
      refine F41_calls _ _ _ ?_; unfold F41
      simp (maxSteps := 1000000) (disch := omega) only [hid1', hid2', guardK_u, takeG_u, wrap_in64, optK_some', fzK_false', nilK_ptr, brK_true', brK_false', guardK_tt', guardK_ff', guardK_tf', guardK_ft', takeG_tt', takeG_ff', takeG_tf', takeG_ft', pickK_t', pickK_f', pickT_t', pickT_f', notK, extract2_0', extract2_1', extract3_0', extract3_1', extract3_2', here_load, here_fieldAt, here_indexAt, here_extract, here_un, here_conv, here_slice, here_bin, here_nil, and_here, true_and, Nat.zero_add, Nat.add_assoc, Nat.add_zero, Int.toNat_natCast, size_alloc, World.cell?_drew, World.frozen?_drew, Bool.not_true, Bool.not_false, Int.toNat_zero, dec_t, dec_f, int_eq_t, int_eq_f, int_ne_t, int_ne_f, wrap_in, kbeql2, kbadd2, kblss2, kbsub2, kbgeq2, kbquo2, kbrem2, kcv2_5, kbs71_1_0, e0, en]
      refine ck41 (dec41p (by omega) ?_)
      intro w1 q1
      have g1 : [(45 : UInt8)].length + (Lib.decDigits u).length ≤ 9223372036854775807 := by simp; omega
      simp (maxSteps := 1000000) (disch := omega) only [hid1', hid2', guardK_u, takeG_u, wrap_in64, optK_some', fzK_false', nilK_ptr, brK_true', brK_false', guardK_tt', guardK_ff', guardK_tf', guardK_ft', takeG_tt', takeG_ff', takeG_tf', takeG_ft', pickK_t', pickK_f', pickT_t', pickT_f', notK, extract2_0', extract2_1', extract3_0', extract3_1', extract3_2', here_load, here_fieldAt, here_indexAt, here_extract, here_un, here_conv, here_slice, here_bin, here_nil, and_here, true_and, Nat.zero_add, Nat.add_assoc, Nat.add_zero, Int.toNat_natCast, size_alloc, World.cell?_drew, World.frozen?_drew, Bool.not_true, Bool.not_false, Int.toNat_zero, dec_t, dec_f, int_eq_t, int_eq_f, int_ne_t, int_ne_f, wrap_in, kbeql2, kbadd2, kblss2, kbsub2, kbgeq2, kbquo2, kbrem2, kcv2_5, kbs71_1_0, c45, add9 _ _ g1]
      exact hK w1 q1
  · obtain ⟨u, rfl⟩ : ∃ u : Nat, n = (u : Int) := ⟨n.toNat, by omega⟩
    have ei : Lib.itoa (u : Int) = Lib.decDigits u := by
      unfold Lib.itoa
      rw [if_neg h0]; rfl
    rw [ei] at hK
    exact dec41p (by omega) hK
end Go.Proofs.YtdnlenngbaaeaaaDoor
