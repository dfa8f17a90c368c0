/- The document's Number, Fields. Conditions: at most 1000 bytes. -/
import Derived.Test.YtdnlenngbaaeaaaDoorRd2
set_option linter.unusedVariables false
set_option linter.unusedSimpArgs false
set_option maxRecDepth 100000
namespace Go.Proofs.YtdnlenngbaaeaaaDoor
open Go.RowKit Go.Cn
theorem val_take {d : List UInt8} {i : Nat} (hi : i < d.length) : valN (d.take (i + 1)) = 10 * valN (d.take i) + ((d.getD i 0).toNat - 48) := by
  rw [List.take_succ_eq_append_getElem hi, valN_snoc]
  simp [hi]
theorem val_lt : ∀ (n : Nat) (d : List UInt8), d.length = n → d.all digB = true → valN d < 10 ^ n
  | 0, d, h, _ => by
    obtain rfl : d = [] := List.eq_nil_of_length_eq_zero h
    decide
  | n + 1, d, h, ha => by
    have hne : d ≠ [] := fun e => by rw [e] at h; cases h
    obtain ⟨e, c, rfl⟩ : ∃ e c, d = e ++ [c] := ⟨d.dropLast, d.getLast hne, (List.dropLast_concat_getLast hne).symm⟩
    rw [List.all_append, Bool.and_eq_true] at ha
    have h1 := val_lt n e (by simpa using h) ha.1
    have h2 := ha.2
    rw [List.all_cons, List.all_nil, Bool.and_true, digB_iff] at h2
    rw [valN_snoc, Nat.pow_succ]
    omega
theorem all_dig (l : List UInt8) : l.all digB = true ↔ ∀ i, i < l.length → digB (l.getD i 0) = true := by
  rw [List.all_eq_true]
  constructor
  · intro h i hi
    have := h l[i] (List.getElem_mem hi)
    simpa [hi] using this
  · intro h x hx
    obtain ⟨i, hi, rfl⟩ := List.mem_iff_getElem.1 hx
    have := h i hi
    simpa [hi] using this
theorem wrap8 (z : Int) (h1 : 0 ≤ z) (h2 : z < 256) : IntKind.u8.wrap z = z := by
  have : IntKind.u8.wrap z = z % 256 := by simp [IntKind.wrap, IntKind.bits, IntKind.signed]
  rw [this]; omega
theorem wrap64u (z : Int) (h1 : 0 ≤ z) (h2 : z < 18446744073709551616) : IntKind.u64.wrap z = z := by
  have : IntKind.u64.wrap z = z % 18446744073709551616 := by simp [IntKind.wrap, IntKind.bits, IntKind.signed]
  rw [this]; omega
/-- What the document's Number tells of a sign and digits. -/
def numD (neg : Bool) (d : List UInt8) : Option Int :=
  if d = [] ∨ 19 < d.length ∨ (d.headD 0 = 48 ∧ (1 < d.length ∨ neg = true)) then none
  else if d.all digB = false then none
  else if neg = true ∧ valN d = 9223372036854775808 then some (-9223372036854775808)
  else if 9223372036854775808 ≤ valN d then none
  else if neg = true then some (-(valN d : Int)) else some (valN d : Int)
theorem numR_D (l : List UInt8) : numR l = numD (decide (l.headD 0 = 45)) (if decide (l.headD 0 = 45) = true then l.tail else l) := rfl
set_option maxHeartbeats 4000000 in
theorem num44 {l : List UInt8} {w : World} {K : Value → World → Prop} (hl : l.length ≤ 100000)
    (hK : K (.tuple #[.int .i64 ((numR l).getD 0), .bool (numR l).isSome]) w) : CallK Tryd.prog 44 #[.string (txt l)] K w := by
  refine F44_calls _ _ _ ?_; unfold F44
  have hsz := txt_size l
  rw [numR_D] at hK
  have hlen : l ≠ [] → 0 < l.length := fun h => List.length_pos_iff.2 h
  have hneg : (((l.headD 0).toNat : Int) == 45) = decide (l.headD 0 = 45) := by
    by_cases h : l.headD 0 = 45
    · rw [h]; rfl
    · rw [decide_eq_false h, beq_eq_false_iff_ne]
      intro e
      exact h (UInt8.toNat_inj.1 (by show _ = 45; omega))
  have hnil : l = [] → decide (l.headD 0 = 45) = false := fun h => by rw [h]; rfl
  have hhd : l.headD 0 = l.getD 0 0 := by cases l <;> rfl
  simp only [hhd] at hK hneg hnil
  have h0z : Int.toNat 0 = 0 := rfl
  by_cases hl0 : l = []
  · subst hl0
    have e0 : ((([] : List UInt8).length : Nat) : Int) = 0 := rfl
    simp (maxSteps := 1000000) (disch := omega) only [hid1', hid2', guardK_u, takeG_u, wrap_in64, optK_some', fzK_false', nilK_ptr, brK_true', brK_false', guardK_tt', guardK_ff', guardK_tf', guardK_ft', takeG_tt', takeG_ff', takeG_tf', takeG_ft', pickK_t', pickK_f', pickT_t', pickT_f', notK, extract2_0', extract2_1', extract3_0', extract3_1', extract3_2', here_load, here_fieldAt, here_indexAt, here_extract, here_un, here_conv, here_slice, here_bin, here_nil, and_here, true_and, Nat.zero_add, Nat.add_assoc, Nat.add_zero, Int.toNat_natCast, size_alloc, World.cell?_drew, World.frozen?_drew, Bool.not_true, Bool.not_false, Int.toNat_zero, dec_t, dec_f, int_eq_t, int_eq_f, int_ne_t, int_ne_f, wrap_in, kbeql3, klen9, hlen9, kbgtr3, kblss3, kbsub2, kbadd3, kblss5, kbgtr5, kbeql5, kbeql63, kcv63_2, kbmul63, kbsub5, kcv5_63, kbadd63, kbgeq63, hsz, e0]
    refine cutK1 (fun v w' => v = .string (txt []) ∧ w' = w) ?_ ?_
    · simp (maxSteps := 1000000) (disch := omega) only [hid1', hid2', guardK_u, takeG_u, wrap_in64, optK_some', fzK_false', nilK_ptr, brK_true', brK_false', guardK_tt', guardK_ff', guardK_tf', guardK_ft', takeG_tt', takeG_ff', takeG_tf', takeG_ft', pickK_t', pickK_f', pickT_t', pickT_f', notK, extract2_0', extract2_1', extract3_0', extract3_1', extract3_2', here_load, here_fieldAt, here_indexAt, here_extract, here_un, here_conv, here_slice, here_bin, here_nil, and_here, true_and, Nat.zero_add, Nat.add_assoc, Nat.add_zero, Int.toNat_natCast, size_alloc, World.cell?_drew, World.frozen?_drew, Bool.not_true, Bool.not_false, Int.toNat_zero, dec_t, dec_f, int_eq_t, int_eq_f, int_ne_t, int_ne_f, wrap_in, kbeql3, klen9, hlen9, kbgtr3, kblss3, kbsub2, kbadd3, kblss5, kbgtr5, kbeql5, kbeql63, kcv63_2, kbmul63, kbsub5, kcv5_63, kbadd63, kbgeq63]
      exact ⟨rfl, rfl⟩
    rintro _ _ w1 ⟨rfl, rfl⟩
    simp (maxSteps := 1000000) (disch := omega) only [hid1', hid2', guardK_u, takeG_u, wrap_in64, optK_some', fzK_false', nilK_ptr, brK_true', brK_false', guardK_tt', guardK_ff', guardK_tf', guardK_ft', takeG_tt', takeG_ff', takeG_tf', takeG_ft', pickK_t', pickK_f', pickT_t', pickT_f', notK, extract2_0', extract2_1', extract3_0', extract3_1', extract3_2', here_load, here_fieldAt, here_indexAt, here_extract, here_un, here_conv, here_slice, here_bin, here_nil, and_here, true_and, Nat.zero_add, Nat.add_assoc, Nat.add_zero, Int.toNat_natCast, size_alloc, World.cell?_drew, World.frozen?_drew, Bool.not_true, Bool.not_false, Int.toNat_zero, dec_t, dec_f, int_eq_t, int_eq_f, int_ne_t, int_ne_f, wrap_in, kbeql3, klen9, hlen9, kbgtr3, kblss3, kbsub2, kbadd3, kblss5, kbgtr5, kbeql5, kbeql63, kcv63_2, kbmul63, kbsub5, kcv5_63, kbadd63, kbgeq63, hsz, e0, guardK_u]
    exact hK
  have hpos := hlen hl0
  simp (maxSteps := 1000000) (disch := omega) only [hid1', hid2', guardK_u, takeG_u, wrap_in64, optK_some', fzK_false', nilK_ptr, brK_true', brK_false', guardK_tt', guardK_ff', guardK_tf', guardK_ft', takeG_tt', takeG_ff', takeG_tf', takeG_ft', pickK_t', pickK_f', pickT_t', pickT_f', notK, extract2_0', extract2_1', extract3_0', extract3_1', extract3_2', here_load, here_fieldAt, here_indexAt, here_extract, here_un, here_conv, here_slice, here_bin, here_nil, and_here, true_and, Nat.zero_add, Nat.add_assoc, Nat.add_zero, Int.toNat_natCast, size_alloc, World.cell?_drew, World.frozen?_drew, Bool.not_true, Bool.not_false, Int.toNat_zero, dec_t, dec_f, int_eq_t, int_eq_f, int_ne_t, int_ne_f, wrap_in, kbeql3, klen9, hlen9, kbgtr3, kblss3, kbsub2, kbadd3, kblss5, kbgtr5, kbeql5, kbeql63, kcv63_2, kbmul63, kbsub5, kcv5_63, kbadd63, kbgeq63, hsz, ix9, h0z, hneg]
  generalize decide (l.getD 0 0 = 45) = neg at *
  have hd : (if neg = true then l.tail else l).length ≤ l.length := by cases neg <;> simp
  generalize hdd : (if neg = true then l.tail else l) = d at *
  have hdz := txt_size d
  refine cutK1 (fun v w' => v = .string (txt d) ∧ w' = w) ?_ ?_
  · cases neg with
    | true =>
      have hsl : ∀ (K : Value → World → Prop) (w : World), SliceK Tryd.prog 9 (.string (txt l)) (some (.int .i64 1)) none none K w = K (.string (txt l.tail)) w := fun K w => by
        have := slice_txt_l Tryd.underlying9 l 1 (by omega) K w
        rw [List.drop_one] at this
        exact this
      rw [← hdd]
      simp (maxSteps := 1000000) (disch := omega) only [hid1', hid2', guardK_u, takeG_u, wrap_in64, optK_some', fzK_false', nilK_ptr, brK_true', brK_false', guardK_tt', guardK_ff', guardK_tf', guardK_ft', takeG_tt', takeG_ff', takeG_tf', takeG_ft', pickK_t', pickK_f', pickT_t', pickT_f', notK, extract2_0', extract2_1', extract3_0', extract3_1', extract3_2', here_load, here_fieldAt, here_indexAt, here_extract, here_un, here_conv, here_slice, here_bin, here_nil, and_here, true_and, Nat.zero_add, Nat.add_assoc, Nat.add_zero, Int.toNat_natCast, size_alloc, World.cell?_drew, World.frozen?_drew, Bool.not_true, Bool.not_false, Int.toNat_zero, dec_t, dec_f, int_eq_t, int_eq_f, int_ne_t, int_ne_f, wrap_in, kbeql3, klen9, hlen9, kbgtr3, kblss3, kbsub2, kbadd3, kblss5, kbgtr5, kbeql5, kbeql63, kcv63_2, kbmul63, kbsub5, kcv5_63, kbadd63, kbgeq63, hsl]
      exact ⟨rfl, rfl⟩
    | false =>
      rw [← hdd]
      simp (maxSteps := 1000000) (disch := omega) only [hid1', hid2', guardK_u, takeG_u, wrap_in64, optK_some', fzK_false', nilK_ptr, brK_true', brK_false', guardK_tt', guardK_ff', guardK_tf', guardK_ft', takeG_tt', takeG_ff', takeG_tf', takeG_ft', pickK_t', pickK_f', pickT_t', pickT_f', notK, extract2_0', extract2_1', extract3_0', extract3_1', extract3_2', here_load, here_fieldAt, here_indexAt, here_extract, here_un, here_conv, here_slice, here_bin, here_nil, and_here, true_and, Nat.zero_add, Nat.add_assoc, Nat.add_zero, Int.toNat_natCast, size_alloc, World.cell?_drew, World.frozen?_drew, Bool.not_true, Bool.not_false, Int.toNat_zero, dec_t, dec_f, int_eq_t, int_eq_f, int_ne_t, int_ne_f, wrap_in, kbeql3, klen9, hlen9, kbgtr3, kblss3, kbsub2, kbadd3, kblss5, kbgtr5, kbeql5, kbeql63, kcv63_2, kbmul63, kbsub5, kcv5_63, kbadd63, kbgeq63]
      exact ⟨rfl, rfl⟩
  rintro _ _ w1 ⟨rfl, rfl⟩
  unfold numD at hK
  by_cases g1 : d = []
  · rw [if_pos (.inl g1)] at hK
    have e0 : ((d.length : Nat) : Int) = 0 := by rw [g1]; rfl
    simp (maxSteps := 1000000) (disch := omega) only [hid1', hid2', guardK_u, takeG_u, wrap_in64, optK_some', fzK_false', nilK_ptr, brK_true', brK_false', guardK_tt', guardK_ff', guardK_tf', guardK_ft', takeG_tt', takeG_ff', takeG_tf', takeG_ft', pickK_t', pickK_f', pickT_t', pickT_f', notK, extract2_0', extract2_1', extract3_0', extract3_1', extract3_2', here_load, here_fieldAt, here_indexAt, here_extract, here_un, here_conv, here_slice, here_bin, here_nil, and_here, true_and, Nat.zero_add, Nat.add_assoc, Nat.add_zero, Int.toNat_natCast, size_alloc, World.cell?_drew, World.frozen?_drew, Bool.not_true, Bool.not_false, Int.toNat_zero, dec_t, dec_f, int_eq_t, int_eq_f, int_ne_t, int_ne_f, wrap_in, kbeql3, klen9, hlen9, kbgtr3, kblss3, kbsub2, kbadd3, kblss5, kbgtr5, kbeql5, kbeql63, kcv63_2, kbmul63, kbsub5, kcv5_63, kbadd63, kbgeq63, hdz, e0, guardK_u]
    exact hK
  have hdp : 0 < d.length := List.length_pos_iff.2 g1
  have e1 : (((d.length : Nat) : Int) == 0) = false := by rw [beq_eq_false_iff_ne]; omega
  by_cases g2 : 19 < d.length
  · rw [if_pos (.inr (.inl g2))] at hK
    simp (maxSteps := 1000000) (disch := omega) only [hid1', hid2', guardK_u, takeG_u, wrap_in64, optK_some', fzK_false', nilK_ptr, brK_true', brK_false', guardK_tt', guardK_ff', guardK_tf', guardK_ft', takeG_tt', takeG_ff', takeG_tf', takeG_ft', pickK_t', pickK_f', pickT_t', pickT_f', notK, extract2_0', extract2_1', extract3_0', extract3_1', extract3_2', here_load, here_fieldAt, here_indexAt, here_extract, here_un, here_conv, here_slice, here_bin, here_nil, and_here, true_and, Nat.zero_add, Nat.add_assoc, Nat.add_zero, Int.toNat_natCast, size_alloc, World.cell?_drew, World.frozen?_drew, Bool.not_true, Bool.not_false, Int.toNat_zero, dec_t, dec_f, int_eq_t, int_eq_f, int_ne_t, int_ne_f, wrap_in, kbeql3, klen9, hlen9, kbgtr3, kblss3, kbsub2, kbadd3, kblss5, kbgtr5, kbeql5, kbeql63, kcv63_2, kbmul63, kbsub5, kcv5_63, kbadd63, kbgeq63, hdz, e1, guardK_u]
    exact hK
  have hh : d.headD 0 = d.getD 0 0 := by cases d <;> rfl
  simp only [hh] at hK
  have hcase : (d.getD 0 0 ≠ 48) ∨ (d.getD 0 0 = 48 ∧ (1 < d.length ∨ neg = true)) ∨ (d.getD 0 0 = 48 ∧ ¬ 1 < d.length ∧ neg = false) := by
    by_cases h1 : d.getD 0 0 = 48
    · by_cases h2 : 1 < d.length
      · exact .inr (.inl ⟨h1, .inl h2⟩)
      · cases neg
        · exact .inr (.inr ⟨h1, h2, rfl⟩)
        · exact .inr (.inl ⟨h1, .inr rfl⟩)
    · exact .inl h1
  rcases hcase with g3 | ⟨g3, g4⟩ | ⟨g3, g4, g5⟩
  case' inr.inl =>
    have e3 : (((d.getD 0 0).toNat : Int) == 48) = true := by rw [g3]; rfl
    rw [if_pos (.inr (.inr ⟨g3, g4⟩))] at hK
    rcases g4 with g4 | rfl
    · simp (maxSteps := 1000000) (disch := omega) only [hid1', hid2', guardK_u, takeG_u, wrap_in64, optK_some', fzK_false', nilK_ptr, brK_true', brK_false', guardK_tt', guardK_ff', guardK_tf', guardK_ft', takeG_tt', takeG_ff', takeG_tf', takeG_ft', pickK_t', pickK_f', pickT_t', pickT_f', notK, extract2_0', extract2_1', extract3_0', extract3_1', extract3_2', here_load, here_fieldAt, here_indexAt, here_extract, here_un, here_conv, here_slice, here_bin, here_nil, and_here, true_and, Nat.zero_add, Nat.add_assoc, Nat.add_zero, Int.toNat_natCast, size_alloc, World.cell?_drew, World.frozen?_drew, Bool.not_true, Bool.not_false, Int.toNat_zero, dec_t, dec_f, int_eq_t, int_eq_f, int_ne_t, int_ne_f, wrap_in, kbeql3, klen9, hlen9, kbgtr3, kblss3, kbsub2, kbadd3, kblss5, kbgtr5, kbeql5, kbeql63, kcv63_2, kbmul63, kbsub5, kcv5_63, kbadd63, kbgeq63, hdz, e1, ix9, h0z, e3, guardK_u]
      exact hK
    · by_cases g4 : 1 < d.length
      · simp (maxSteps := 1000000) (disch := omega) only [hid1', hid2', guardK_u, takeG_u, wrap_in64, optK_some', fzK_false', nilK_ptr, brK_true', brK_false', guardK_tt', guardK_ff', guardK_tf', guardK_ft', takeG_tt', takeG_ff', takeG_tf', takeG_ft', pickK_t', pickK_f', pickT_t', pickT_f', notK, extract2_0', extract2_1', extract3_0', extract3_1', extract3_2', here_load, here_fieldAt, here_indexAt, here_extract, here_un, here_conv, here_slice, here_bin, here_nil, and_here, true_and, Nat.zero_add, Nat.add_assoc, Nat.add_zero, Int.toNat_natCast, size_alloc, World.cell?_drew, World.frozen?_drew, Bool.not_true, Bool.not_false, Int.toNat_zero, dec_t, dec_f, int_eq_t, int_eq_f, int_ne_t, int_ne_f, wrap_in, kbeql3, klen9, hlen9, kbgtr3, kblss3, kbsub2, kbadd3, kblss5, kbgtr5, kbeql5, kbeql63, kcv63_2, kbmul63, kbsub5, kcv5_63, kbadd63, kbgeq63, hdz, e1, ix9, h0z, e3, guardK_u]
        exact hK
      · simp (maxSteps := 1000000) (disch := omega) only [hid1', hid2', guardK_u, takeG_u, wrap_in64, optK_some', fzK_false', nilK_ptr, brK_true', brK_false', guardK_tt', guardK_ff', guardK_tf', guardK_ft', takeG_tt', takeG_ff', takeG_tf', takeG_ft', pickK_t', pickK_f', pickT_t', pickT_f', notK, extract2_0', extract2_1', extract3_0', extract3_1', extract3_2', here_load, here_fieldAt, here_indexAt, here_extract, here_un, here_conv, here_slice, here_bin, here_nil, and_here, true_and, Nat.zero_add, Nat.add_assoc, Nat.add_zero, Int.toNat_natCast, size_alloc, World.cell?_drew, World.frozen?_drew, Bool.not_true, Bool.not_false, Int.toNat_zero, dec_t, dec_f, int_eq_t, int_eq_f, int_ne_t, int_ne_f, wrap_in, kbeql3, klen9, hlen9, kbgtr3, kblss3, kbsub2, kbadd3, kblss5, kbgtr5, kbeql5, kbeql63, kcv63_2, kbmul63, kbsub5, kcv5_63, kbadd63, kbgeq63, hdz, e1, ix9, h0z, e3, guardK_u]
        exact hK
  case' inl =>
    have e3 : (((d.getD 0 0).toNat : Int) == 48) = false := by
      rw [beq_eq_false_iff_ne]; intro e; exact g3 (UInt8.toNat_inj.1 (by show _ = 48; omega))
    rw [if_neg (by rintro (h | h | ⟨h, _⟩); exact g1 h; exact g2 h; exact g3 h)] at hK
    simp (maxSteps := 1000000) (disch := omega) only [hid1', hid2', guardK_u, takeG_u, wrap_in64, optK_some', fzK_false', nilK_ptr, brK_true', brK_false', guardK_tt', guardK_ff', guardK_tf', guardK_ft', takeG_tt', takeG_ff', takeG_tf', takeG_ft', pickK_t', pickK_f', pickT_t', pickT_f', notK, extract2_0', extract2_1', extract3_0', extract3_1', extract3_2', here_load, here_fieldAt, here_indexAt, here_extract, here_un, here_conv, here_slice, here_bin, here_nil, and_here, true_and, Nat.zero_add, Nat.add_assoc, Nat.add_zero, Int.toNat_natCast, size_alloc, World.cell?_drew, World.frozen?_drew, Bool.not_true, Bool.not_false, Int.toNat_zero, dec_t, dec_f, int_eq_t, int_eq_f, int_ne_t, int_ne_f, wrap_in, kbeql3, klen9, hlen9, kbgtr3, kblss3, kbsub2, kbadd3, kblss5, kbgtr5, kbeql5, kbeql63, kcv63_2, kbmul63, kbsub5, kcv5_63, kbadd63, kbgeq63, hdz, e1, ix9, h0z, e3, guardK_u]
  case' inr.inr =>
    have e3 : (((d.getD 0 0).toNat : Int) == 48) = true := by rw [g3]; rfl
    rw [if_neg (by rintro (h | h | ⟨_, h | h⟩); exact g1 h; exact g2 h; exact g4 h; rw [g5] at h; cases h)] at hK
    simp (maxSteps := 1000000) (disch := omega) only [hid1', hid2', guardK_u, takeG_u, wrap_in64, optK_some', fzK_false', nilK_ptr, brK_true', brK_false', guardK_tt', guardK_ff', guardK_tf', guardK_ft', takeG_tt', takeG_ff', takeG_tf', takeG_ft', pickK_t', pickK_f', pickT_t', pickT_f', notK, extract2_0', extract2_1', extract3_0', extract3_1', extract3_2', here_load, here_fieldAt, here_indexAt, here_extract, here_un, here_conv, here_slice, here_bin, here_nil, and_here, true_and, Nat.zero_add, Nat.add_assoc, Nat.add_zero, Int.toNat_natCast, size_alloc, World.cell?_drew, World.frozen?_drew, Bool.not_true, Bool.not_false, Int.toNat_zero, dec_t, dec_f, int_eq_t, int_eq_f, int_ne_t, int_ne_f, wrap_in, kbeql3, klen9, hlen9, kbgtr3, kblss3, kbsub2, kbadd3, kblss5, kbgtr5, kbeql5, kbeql63, kcv63_2, kbmul63, kbsub5, kcv5_63, kbadd63, kbgeq63, hdz, e1, ix9, h0z, e3, g5, guardK_u]
  all_goals
    refine loopK2 (fun u v w' => w' = w1 ∧ ∃ i : Nat, v = .int .i64 i ∧ i ≤ d.length ∧ u = .int .u64 (valN (d.take i) : Int) ∧ (∀ j, j < i → digB (d.getD j 0) = true)) (fun _ v _ => d.length - (intOf v).toNat) ⟨rfl, 0, rfl, by omega, rfl, fun j h => by omega⟩ ?_
    rintro _ _ _ w2 ⟨hw, i, rfl, hi, rfl, hlo⟩
    obtain rfl : w2 = w1 := hw
    have hall : (d.take i).all digB = true := (all_dig _).2 (fun j hj => by
      rw [List.length_take] at hj
      have := hlo j (by omega)
      rw [List.getD_eq_getElem?_getD, List.getElem?_take_of_lt (by omega), ← List.getD_eq_getElem?_getD]
      exact this)
    have hv := val_lt i (d.take i) (by rw [List.length_take]; omega) hall
    by_cases hlt : i < d.length
    · have hp : 10 ^ i ≤ 10 ^ 18 := Nat.pow_le_pow_right (by omega) (by omega)
      have hv' : valN (d.take i) < 1000000000000000000 := by omega
      have hstep := val_take hlt
      have hbad : digB (d.getD i 0) = false → d.all digB = false := fun h => by
        cases ha : d.all digB with
        | false => rfl
        | true => have := (all_dig d).1 ha i hlt; rw [h] at this; cases this
      generalize valN (d.take i) = u at *
      by_cases b1 : (d.getD i 0).toNat < 48
      · have hb : digB (d.getD i 0) = false := by
          cases h : digB (d.getD i 0) with
          | false => rfl
          | true => have := (digB_iff _).1 h; omega
        rw [if_pos (hbad hb)] at hK
        simp (maxSteps := 1000000) (disch := omega) only [hid1', hid2', guardK_u, takeG_u, wrap_in64, optK_some', fzK_false', nilK_ptr, brK_true', brK_false', guardK_tt', guardK_ff', guardK_tf', guardK_ft', takeG_tt', takeG_ff', takeG_tf', takeG_ft', pickK_t', pickK_f', pickT_t', pickT_f', notK, extract2_0', extract2_1', extract3_0', extract3_1', extract3_2', here_load, here_fieldAt, here_indexAt, here_extract, here_un, here_conv, here_slice, here_bin, here_nil, and_here, true_and, Nat.zero_add, Nat.add_assoc, Nat.add_zero, Int.toNat_natCast, size_alloc, World.cell?_drew, World.frozen?_drew, Bool.not_true, Bool.not_false, Int.toNat_zero, dec_t, dec_f, int_eq_t, int_eq_f, int_ne_t, int_ne_f, wrap_in, kbeql3, klen9, hlen9, kbgtr3, kblss3, kbsub2, kbadd3, kblss5, kbgtr5, kbeql5, kbeql63, kcv63_2, kbmul63, kbsub5, kcv5_63, kbadd63, kbgeq63, hdz, ix9, guardK_u]
        exact hK
      · by_cases b2 : 57 < (d.getD i 0).toNat
        · have hb : digB (d.getD i 0) = false := by
            cases h : digB (d.getD i 0) with
            | false => rfl
            | true => have := (digB_iff _).1 h; omega
          rw [if_pos (hbad hb)] at hK
          simp (maxSteps := 1000000) (disch := omega) only [hid1', hid2', guardK_u, takeG_u, wrap_in64, optK_some', fzK_false', nilK_ptr, brK_true', brK_false', guardK_tt', guardK_ff', guardK_tf', guardK_ft', takeG_tt', takeG_ff', takeG_tf', takeG_ft', pickK_t', pickK_f', pickT_t', pickT_f', notK, extract2_0', extract2_1', extract3_0', extract3_1', extract3_2', here_load, here_fieldAt, here_indexAt, here_extract, here_un, here_conv, here_slice, here_bin, here_nil, and_here, true_and, Nat.zero_add, Nat.add_assoc, Nat.add_zero, Int.toNat_natCast, size_alloc, World.cell?_drew, World.frozen?_drew, Bool.not_true, Bool.not_false, Int.toNat_zero, dec_t, dec_f, int_eq_t, int_eq_f, int_ne_t, int_ne_f, wrap_in, kbeql3, klen9, hlen9, kbgtr3, kblss3, kbsub2, kbadd3, kblss5, kbgtr5, kbeql5, kbeql63, kcv63_2, kbmul63, kbsub5, kcv5_63, kbadd63, kbgeq63, hdz, ix9, guardK_u]
          exact hK
        · have hb : digB (d.getD i 0) = true := (digB_iff _).2 ⟨by omega, by omega⟩
          simp (maxSteps := 1000000) (disch := omega) only [hid1', hid2', guardK_u, takeG_u, wrap_in64, optK_some', fzK_false', nilK_ptr, brK_true', brK_false', guardK_tt', guardK_ff', guardK_tf', guardK_ft', takeG_tt', takeG_ff', takeG_tf', takeG_ft', pickK_t', pickK_f', pickT_t', pickT_f', notK, extract2_0', extract2_1', extract3_0', extract3_1', extract3_2', here_load, here_fieldAt, here_indexAt, here_extract, here_un, here_conv, here_slice, here_bin, here_nil, and_here, true_and, Nat.zero_add, Nat.add_assoc, Nat.add_zero, Int.toNat_natCast, size_alloc, World.cell?_drew, World.frozen?_drew, Bool.not_true, Bool.not_false, Int.toNat_zero, dec_t, dec_f, int_eq_t, int_eq_f, int_ne_t, int_ne_f, wrap_in, kbeql3, klen9, hlen9, kbgtr3, kblss3, kbsub2, kbadd3, kblss5, kbgtr5, kbeql5, kbeql63, kcv63_2, kbmul63, kbsub5, kcv5_63, kbadd63, kbgeq63, hdz, ix9]
          refine ⟨⟨rfl, i + 1, by go_num, by omega, by rw [hstep, wrap8 _ (by omega) (by omega), wrap64u (((d.getD i 0).toNat : Int) - 48) (by omega) (by omega), wrap64u _ (by omega) (by omega)]; congr 1; omega, fun j hj => ?_⟩, by simp [rel, intOf]; omega⟩
          by_cases e : j = i
          · subst e; exact hb
          · exact hlo j (by omega)
    · obtain rfl : i = d.length := by omega
      rw [List.take_length] at *
      rw [if_neg (by rw [hall]; decide)] at hK
      have hp : 10 ^ d.length ≤ 10 ^ 19 := Nat.pow_le_pow_right (by omega) (by omega)
      have hv' : valN d < 10000000000000000000 := by omega
      generalize valN d = u at *
      cases neg with
      | true =>
        by_cases hu : u = 9223372036854775808
        · have eu : ((u : Int) == 9223372036854775808) = true := by rw [hu]; rfl
          rw [if_pos ⟨rfl, hu⟩] at hK
          simp (maxSteps := 1000000) (disch := omega) only [hid1', hid2', guardK_u, takeG_u, wrap_in64, optK_some', fzK_false', nilK_ptr, brK_true', brK_false', guardK_tt', guardK_ff', guardK_tf', guardK_ft', takeG_tt', takeG_ff', takeG_tf', takeG_ft', pickK_t', pickK_f', pickT_t', pickT_f', notK, extract2_0', extract2_1', extract3_0', extract3_1', extract3_2', here_load, here_fieldAt, here_indexAt, here_extract, here_un, here_conv, here_slice, here_bin, here_nil, and_here, true_and, Nat.zero_add, Nat.add_assoc, Nat.add_zero, Int.toNat_natCast, size_alloc, World.cell?_drew, World.frozen?_drew, Bool.not_true, Bool.not_false, Int.toNat_zero, dec_t, dec_f, int_eq_t, int_eq_f, int_ne_t, int_ne_f, wrap_in, kbeql3, klen9, hlen9, kbgtr3, kblss3, kbsub2, kbadd3, kblss5, kbgtr5, kbeql5, kbeql63, kcv63_2, kbmul63, kbsub5, kcv5_63, kbadd63, kbgeq63, hdz, eu]
          exact hK
        · have eu : ((u : Int) == 9223372036854775808) = false := by rw [beq_eq_false_iff_ne]; omega
          rw [if_neg (fun h => hu h.2)] at hK
          by_cases h63 : 9223372036854775808 ≤ u
          · rw [if_pos h63] at hK
            simp (maxSteps := 1000000) (disch := omega) only [hid1', hid2', guardK_u, takeG_u, wrap_in64, optK_some', fzK_false', nilK_ptr, brK_true', brK_false', guardK_tt', guardK_ff', guardK_tf', guardK_ft', takeG_tt', takeG_ff', takeG_tf', takeG_ft', pickK_t', pickK_f', pickT_t', pickT_f', notK, extract2_0', extract2_1', extract3_0', extract3_1', extract3_2', here_load, here_fieldAt, here_indexAt, here_extract, here_un, here_conv, here_slice, here_bin, here_nil, and_here, true_and, Nat.zero_add, Nat.add_assoc, Nat.add_zero, Int.toNat_natCast, size_alloc, World.cell?_drew, World.frozen?_drew, Bool.not_true, Bool.not_false, Int.toNat_zero, dec_t, dec_f, int_eq_t, int_eq_f, int_ne_t, int_ne_f, wrap_in, kbeql3, klen9, hlen9, kbgtr3, kblss3, kbsub2, kbadd3, kblss5, kbgtr5, kbeql5, kbeql63, kcv63_2, kbmul63, kbsub5, kcv5_63, kbadd63, kbgeq63, hdz, eu]
            exact hK
          · rw [if_neg h63, if_pos rfl] at hK
            simp (maxSteps := 1000000) (disch := omega) only [hid1', hid2', guardK_u, takeG_u, wrap_in64, optK_some', fzK_false', nilK_ptr, brK_true', brK_false', guardK_tt', guardK_ff', guardK_tf', guardK_ft', takeG_tt', takeG_ff', takeG_tf', takeG_ft', pickK_t', pickK_f', pickT_t', pickT_f', notK, extract2_0', extract2_1', extract3_0', extract3_1', extract3_2', here_load, here_fieldAt, here_indexAt, here_extract, here_un, here_conv, here_slice, here_bin, here_nil, and_here, true_and, Nat.zero_add, Nat.add_assoc, Nat.add_zero, Int.toNat_natCast, size_alloc, World.cell?_drew, World.frozen?_drew, Bool.not_true, Bool.not_false, Int.toNat_zero, dec_t, dec_f, int_eq_t, int_eq_f, int_ne_t, int_ne_f, wrap_in, kbeql3, klen9, hlen9, kbgtr3, kblss3, kbsub2, kbadd3, kblss5, kbgtr5, kbeql5, kbeql63, kcv63_2, kbmul63, kbsub5, kcv5_63, kbadd63, kbgeq63, hdz, eu, Int.zero_sub]
            exact hK
      | false =>
        rw [if_neg (fun h => by cases h.1)] at hK
        by_cases h63 : 9223372036854775808 ≤ u
        · rw [if_pos h63] at hK
          simp (maxSteps := 1000000) (disch := omega) only [hid1', hid2', guardK_u, takeG_u, wrap_in64, optK_some', fzK_false', nilK_ptr, brK_true', brK_false', guardK_tt', guardK_ff', guardK_tf', guardK_ft', takeG_tt', takeG_ff', takeG_tf', takeG_ft', pickK_t', pickK_f', pickT_t', pickT_f', notK, extract2_0', extract2_1', extract3_0', extract3_1', extract3_2', here_load, here_fieldAt, here_indexAt, here_extract, here_un, here_conv, here_slice, here_bin, here_nil, and_here, true_and, Nat.zero_add, Nat.add_assoc, Nat.add_zero, Int.toNat_natCast, size_alloc, World.cell?_drew, World.frozen?_drew, Bool.not_true, Bool.not_false, Int.toNat_zero, dec_t, dec_f, int_eq_t, int_eq_f, int_ne_t, int_ne_f, wrap_in, kbeql3, klen9, hlen9, kbgtr3, kblss3, kbsub2, kbadd3, kblss5, kbgtr5, kbeql5, kbeql63, kcv63_2, kbmul63, kbsub5, kcv5_63, kbadd63, kbgeq63, hdz, guardK_u]
          exact hK
        · rw [if_neg h63, if_neg (by decide)] at hK
          simp (maxSteps := 1000000) (disch := omega) only [hid1', hid2', guardK_u, takeG_u, wrap_in64, optK_some', fzK_false', nilK_ptr, brK_true', brK_false', guardK_tt', guardK_ff', guardK_tf', guardK_ft', takeG_tt', takeG_ff', takeG_tf', takeG_ft', pickK_t', pickK_f', pickT_t', pickT_f', notK, extract2_0', extract2_1', extract3_0', extract3_1', extract3_2', here_load, here_fieldAt, here_indexAt, here_extract, here_un, here_conv, here_slice, here_bin, here_nil, and_here, true_and, Nat.zero_add, Nat.add_assoc, Nat.add_zero, Int.toNat_natCast, size_alloc, World.cell?_drew, World.frozen?_drew, Bool.not_true, Bool.not_false, Int.toNat_zero, dec_t, dec_f, int_eq_t, int_eq_f, int_ne_t, int_ne_f, wrap_in, kbeql3, klen9, hlen9, kbgtr3, kblss3, kbsub2, kbadd3, kblss5, kbgtr5, kbeql5, kbeql63, kcv63_2, kbmul63, kbsub5, kcv5_63, kbadd63, kbgeq63, hdz, guardK_u]
          exact hK
end Go.Proofs.YtdnlenngbaaeaaaDoor
