/- Patterns of both packages. Conditions: at most 1000 bytes. -/
import Derived.Test.YtnlfnkblhnnaoaaDoorZonesW
import Derived.Test.YtnlfnkblhnnaoaaDoorPath3
set_option linter.unusedVariables false
set_option linter.unusedSimpArgs false
set_option maxRecDepth 100000
namespace Go.Proofs.YtnlfnkblhnnaoaaDoor
open Go.RowKit Go.Cn
theorem c42 : (ByteArray.mk #[42]) = txt [42] := rfl
theorem c4242 : (ByteArray.mk #[42, 42]) = txt [42, 42] := rfl
theorem notstar_any (p : List UInt8) (K : Value → World → Prop) (w : World) (hK : K (.bool (!starB p)) w) : CallV Tryd.prog (.func (.func 49) #[] #[]) #[.string (txt p)] K w := by
  refine ck49 ?_
  refine F49_calls _ _ _ ?_; unfold F49
  unfold starB at hK
  by_cases h : p = [42]
  · have hd : decide (p = [42]) = true := decide_eq_true h
    rw [hd] at hK
    simp (maxSteps := 1000000) (disch := omega) only [hid1', hid2', guardK_u, takeG_u, wrap_in64, optK_some', fzK_false', nilK_ptr, brK_true', brK_false', guardK_tt', guardK_ff', guardK_tf', guardK_ft', takeG_tt', takeG_ff', takeG_tf', takeG_ft', pickK_t', pickK_f', pickT_t', pickT_f', notK, extract2_0', extract2_1', extract3_0', extract3_1', extract3_2', here_load, here_fieldAt, here_indexAt, here_extract, here_un, here_conv, here_slice, here_bin, here_nil, and_here, true_and, Nat.zero_add, Nat.add_assoc, Nat.add_zero, Int.toNat_natCast, size_alloc, World.cell?_drew, World.frozen?_drew, Bool.not_true, Bool.not_false, Int.toNat_zero, dec_t, dec_f, int_eq_t, int_eq_f, int_ne_t, int_ne_f, wrap_in, klen9, hlen9, kbgtr3, kbneq3, kbneq9, kbeql9, kbeql4, klen23, hlen23, kblss3, kia23, kld9, kbsub3, kbadd3, kbeql3, kbs23_1_0, kbneq4, kbs23_0, kcv5_3, kbrem3, kst9, kbneq24, kbgeq3, ksl23_010z, ksl23_010, kbeql24, kblss5, kbgtr5, kbneq5, kbeql5, ksl23_011, ksl23_011z, kbquo3, kbmul3, kal58, ksl23_100z, ksl23_100, kmin3_ff, kfa58_1, kld56, kst56, c42, eq_txt, hd, guardK_u, Bool.not_true]
    exact hK
  · have hd : decide (p = [42]) = false := decide_eq_false h
    rw [hd, Bool.false_or] at hK
    simp (maxSteps := 1000000) (disch := omega) only [hid1', hid2', guardK_u, takeG_u, wrap_in64, optK_some', fzK_false', nilK_ptr, brK_true', brK_false', guardK_tt', guardK_ff', guardK_tf', guardK_ft', takeG_tt', takeG_ff', takeG_tf', takeG_ft', pickK_t', pickK_f', pickT_t', pickT_f', notK, extract2_0', extract2_1', extract3_0', extract3_1', extract3_2', here_load, here_fieldAt, here_indexAt, here_extract, here_un, here_conv, here_slice, here_bin, here_nil, and_here, true_and, Nat.zero_add, Nat.add_assoc, Nat.add_zero, Int.toNat_natCast, size_alloc, World.cell?_drew, World.frozen?_drew, Bool.not_true, Bool.not_false, Int.toNat_zero, dec_t, dec_f, int_eq_t, int_eq_f, int_ne_t, int_ne_f, wrap_in, klen9, hlen9, kbgtr3, kbneq3, kbneq9, kbeql9, kbeql4, klen23, hlen23, kblss3, kia23, kld9, kbsub3, kbadd3, kbeql3, kbs23_1_0, kbneq4, kbs23_0, kcv5_3, kbrem3, kst9, kbneq24, kbgeq3, ksl23_010z, ksl23_010, kbeql24, kblss5, kbgtr5, kbneq5, kbeql5, ksl23_011, ksl23_011z, kbquo3, kbmul3, kal58, ksl23_100z, ksl23_100, kmin3_ff, kfa58_1, kld56, kst56, c42, eq_txt, hd, Bool.not_false]
    refine ck34 (name_any ?_)
    simp (maxSteps := 1000000) (disch := omega) only [hid1', hid2', guardK_u, takeG_u, wrap_in64, optK_some', fzK_false', nilK_ptr, brK_true', brK_false', guardK_tt', guardK_ff', guardK_tf', guardK_ft', takeG_tt', takeG_ff', takeG_tf', takeG_ft', pickK_t', pickK_f', pickT_t', pickT_f', notK, extract2_0', extract2_1', extract3_0', extract3_1', extract3_2', here_load, here_fieldAt, here_indexAt, here_extract, here_un, here_conv, here_slice, here_bin, here_nil, and_here, true_and, Nat.zero_add, Nat.add_assoc, Nat.add_zero, Int.toNat_natCast, size_alloc, World.cell?_drew, World.frozen?_drew, Bool.not_true, Bool.not_false, Int.toNat_zero, dec_t, dec_f, int_eq_t, int_eq_f, int_ne_t, int_ne_f, wrap_in, klen9, hlen9, kbgtr3, kbneq3, kbneq9, kbeql9, kbeql4, klen23, hlen23, kblss3, kia23, kld9, kbsub3, kbadd3, kbeql3, kbs23_1_0, kbneq4, kbs23_0, kcv5_3, kbrem3, kst9, kbneq24, kbgeq3, ksl23_010z, ksl23_010, kbeql24, kblss5, kbgtr5, kbneq5, kbeql5, ksl23_011, ksl23_011z, kbquo3, kbmul3, kal58, ksl23_100z, ksl23_100, kmin3_ff, kfa58_1, kld56, kst56]
    exact hK
theorem partsL_len (l : List UInt8) : (partsL l).length ≤ l.length + 1 := by
  unfold partsL
  cases h : cutL l with
  | none => simp
  | some ps => exact cutL_len h
theorem pattern_any {l : List UInt8} {w : World} {K : Value → World → Prop} (hl : l.length ≤ 1000) (hm : MaxAt w)
    (hK : ∀ A c w', Reads w' A (strs (bodyL (partsL l))) → Qt w w' → K (.tuple #[.slice A (bodyL (partsL l)).length c, .bool (longerL (partsL l)), .bool (okPat l)]) w') : CallK Tryd.prog 41 #[.string (txt l)] K w := by
  refine F41_calls _ _ _ ?_; unfold F41
  refine ck31 (cut_any hl hm ?_)
  intro A c F w1 o1 q1 f1
  have ep : (cutL l).getD [] = partsL l := rfl
  rw [ep] at o1 ⊢
  have hpl := partsL_len l
  have hcc := own_nil_or o1
  have hr := Reads.of_own o1
  have hsl := slice_own o1
  have hrb : Reads w1 A (strs (bodyL (partsL l))) := by
    unfold bodyL
    split
    · have := reads_take hr ((partsL l).length - 1); rwa [strs_take] at this
    · exact hr
  have hlr : longerL (partsL l) = true → (bodyL (partsL l)).length = (partsL l).length - 1 := fun h => by unfold bodyL; rw [if_pos h, List.length_take]; omega
  have hln : longerL (partsL l) = false → (bodyL (partsL l)).length = (partsL l).length := fun h => by unfold bodyL; rw [if_neg (by rw [h]; decide)]
  unfold okPat at hK
  simp (maxSteps := 1000000) (disch := omega) only [hid1', hid2', guardK_u, takeG_u, wrap_in64, optK_some', fzK_false', nilK_ptr, brK_true', brK_false', guardK_tt', guardK_ff', guardK_tf', guardK_ft', takeG_tt', takeG_ff', takeG_tf', takeG_ft', pickK_t', pickK_f', pickT_t', pickT_f', notK, extract2_0', extract2_1', extract3_0', extract3_1', extract3_2', here_load, here_fieldAt, here_indexAt, here_extract, here_un, here_conv, here_slice, here_bin, here_nil, and_here, true_and, Nat.zero_add, Nat.add_assoc, Nat.add_zero, Int.toNat_natCast, size_alloc, World.cell?_drew, World.frozen?_drew, Bool.not_true, Bool.not_false, Int.toNat_zero, dec_t, dec_f, int_eq_t, int_eq_f, int_ne_t, int_ne_f, wrap_in, klen9, hlen9, kbgtr3, kbneq3, kbneq9, kbeql9, kbeql4, klen23, hlen23, kblss3, kia23, kld9, kbsub3, kbadd3, kbeql3, kbs23_1_0, kbneq4, kbs23_0, kcv5_3, kbrem3, kst9, kbneq24, kbgeq3, ksl23_010z, ksl23_010, kbeql24, kblss5, kbgtr5, kbneq5, kbeql5, ksl23_011, ksl23_011z, kbquo3, kbmul3, kal58, ksl23_100z, ksl23_100, kmin3_ff, kfa58_1, kld56, kst56]
  refine cutK2 (fun x v w' => w' = w1 ∧ x = .slice A (bodyL (partsL l)).length c ∧ v = .bool (longerL (partsL l))) ?_ ?_
  · by_cases h0 : partsL l = []
    · have hz : (((partsL l).length : Nat) : Int) = 0 := by rw [h0]; rfl
      have h1 : longerL (partsL l) = false := by rw [h0]; rfl
      have h2 := hln h1
      simp (maxSteps := 1000000) (disch := omega) only [hid1', hid2', guardK_u, takeG_u, wrap_in64, optK_some', fzK_false', nilK_ptr, brK_true', brK_false', guardK_tt', guardK_ff', guardK_tf', guardK_ft', takeG_tt', takeG_ff', takeG_tf', takeG_ft', pickK_t', pickK_f', pickT_t', pickT_f', notK, extract2_0', extract2_1', extract3_0', extract3_1', extract3_2', here_load, here_fieldAt, here_indexAt, here_extract, here_un, here_conv, here_slice, here_bin, here_nil, and_here, true_and, Nat.zero_add, Nat.add_assoc, Nat.add_zero, Int.toNat_natCast, size_alloc, World.cell?_drew, World.frozen?_drew, Bool.not_true, Bool.not_false, Int.toNat_zero, dec_t, dec_f, int_eq_t, int_eq_f, int_ne_t, int_ne_f, wrap_in, klen9, hlen9, kbgtr3, kbneq3, kbneq9, kbeql9, kbeql4, klen23, hlen23, kblss3, kia23, kld9, kbsub3, kbadd3, kbeql3, kbs23_1_0, kbneq4, kbs23_0, kcv5_3, kbrem3, kst9, kbneq24, kbgeq3, ksl23_010z, ksl23_010, kbeql24, kblss5, kbgtr5, kbneq5, kbeql5, ksl23_011, ksl23_011z, kbquo3, kbmul3, kal58, ksl23_100z, ksl23_100, kmin3_ff, kfa58_1, kld56, kst56, hz, guardK_u]
      exact ⟨rfl, by rw [h2], by rw [h1]⟩
    · have hpos := List.length_pos_iff.2 h0
      have hlt : (partsL l).length - 1 < (partsL l).length := by omega
      obtain ⟨g, o, rfl, hc⟩ := strs_at hr hlt
      have hg := getD_lt (partsL l) [] hlt
      have hn1 : (((partsL l).length : Int) - 1).toNat = (partsL l).length - 1 := by omega
      by_cases h : (partsL l)[(partsL l).length - 1] = [42, 42]
      · have h1 : longerL (partsL l) = true := decide_eq_true (by rw [hg]; exact h)
        have hd : decide ((partsL l)[(partsL l).length - 1] = [42, 42]) = true := decide_eq_true h
        have h2 := hlr h1
        have hl2 : partsL l = partsL l := rfl
        generalize (partsL l)[(partsL l).length - 1] = x at *
        simp (maxSteps := 1000000) (disch := omega) only [hid1', hid2', guardK_u, takeG_u, wrap_in64, optK_some', fzK_false', nilK_ptr, brK_true', brK_false', guardK_tt', guardK_ff', guardK_tf', guardK_ft', takeG_tt', takeG_ff', takeG_tf', takeG_ft', pickK_t', pickK_f', pickT_t', pickT_f', notK, extract2_0', extract2_1', extract3_0', extract3_1', extract3_2', here_load, here_fieldAt, here_indexAt, here_extract, here_un, here_conv, here_slice, here_bin, here_nil, and_here, true_and, Nat.zero_add, Nat.add_assoc, Nat.add_zero, Int.toNat_natCast, size_alloc, World.cell?_drew, World.frozen?_drew, Bool.not_true, Bool.not_false, Int.toNat_zero, dec_t, dec_f, int_eq_t, int_eq_f, int_ne_t, int_ne_f, wrap_in, klen9, hlen9, kbgtr3, kbneq3, kbneq9, kbeql9, kbeql4, klen23, hlen23, kblss3, kia23, kld9, kbsub3, kbadd3, kbeql3, kbs23_1_0, kbneq4, kbs23_0, kcv5_3, kbrem3, kst9, kbneq24, kbgeq3, ksl23_010z, ksl23_010, kbeql24, kblss5, kbgtr5, kbneq5, kbeql5, ksl23_011, ksl23_011z, kbquo3, kbmul3, kal58, ksl23_100z, ksl23_100, kmin3_ff, kfa58_1, kld56, kst56, hn1, hc, c4242, eq_txt, hd]
        exact ⟨rfl, by rw [h2], by rw [h1]⟩
      · have h1 : longerL (partsL l) = false := decide_eq_false (by rw [hg]; exact h)
        have hd : decide ((partsL l)[(partsL l).length - 1] = [42, 42]) = false := decide_eq_false h
        have h2 := hln h1
        generalize (partsL l)[(partsL l).length - 1] = x at *
        simp (maxSteps := 1000000) (disch := omega) only [hid1', hid2', guardK_u, takeG_u, wrap_in64, optK_some', fzK_false', nilK_ptr, brK_true', brK_false', guardK_tt', guardK_ff', guardK_tf', guardK_ft', takeG_tt', takeG_ff', takeG_tf', takeG_ft', pickK_t', pickK_f', pickT_t', pickT_f', notK, extract2_0', extract2_1', extract3_0', extract3_1', extract3_2', here_load, here_fieldAt, here_indexAt, here_extract, here_un, here_conv, here_slice, here_bin, here_nil, and_here, true_and, Nat.zero_add, Nat.add_assoc, Nat.add_zero, Int.toNat_natCast, size_alloc, World.cell?_drew, World.frozen?_drew, Bool.not_true, Bool.not_false, Int.toNat_zero, dec_t, dec_f, int_eq_t, int_eq_f, int_ne_t, int_ne_f, wrap_in, klen9, hlen9, kbgtr3, kbneq3, kbneq9, kbeql9, kbeql4, klen23, hlen23, kblss3, kia23, kld9, kbsub3, kbadd3, kbeql3, kbs23_1_0, kbneq4, kbs23_0, kcv5_3, kbrem3, kst9, kbneq24, kbgeq3, ksl23_010z, ksl23_010, kbeql24, kblss5, kbgtr5, kbneq5, kbeql5, ksl23_011, ksl23_011z, kbquo3, kbmul3, kal58, ksl23_100z, ksl23_100, kmin3_ff, kfa58_1, kld56, kst56, hn1, hc, c4242, eq_txt, hd]
        exact ⟨rfl, by rw [h2], by rw [h1]⟩
  · rintro _ _ _ w2 ⟨hw, rfl, rfl⟩
    obtain rfl : w2 = w1 := hw
    have hbl := bodyL_le (partsL l)
    have fin := hK A c w2 hrb q1
    cases hcs : (cutL l).isSome with
    | true =>
      rw [hcs, Bool.true_and] at fin
      simp (maxSteps := 1000000) (disch := omega) only [hid1', hid2', guardK_u, takeG_u, wrap_in64, optK_some', fzK_false', nilK_ptr, brK_true', brK_false', guardK_tt', guardK_ff', guardK_tf', guardK_ft', takeG_tt', takeG_ff', takeG_tf', takeG_ft', pickK_t', pickK_f', pickT_t', pickT_f', notK, extract2_0', extract2_1', extract3_0', extract3_1', extract3_2', here_load, here_fieldAt, here_indexAt, here_extract, here_un, here_conv, here_slice, here_bin, here_nil, and_here, true_and, Nat.zero_add, Nat.add_assoc, Nat.add_zero, Int.toNat_natCast, size_alloc, World.cell?_drew, World.frozen?_drew, Bool.not_true, Bool.not_false, Int.toNat_zero, dec_t, dec_f, int_eq_t, int_eq_f, int_ne_t, int_ne_f, wrap_in, klen9, hlen9, kbgtr3, kbneq3, kbneq9, kbeql9, kbeql4, klen23, hlen23, kblss3, kia23, kld9, kbsub3, kbadd3, kbeql3, kbs23_1_0, kbneq4, kbs23_0, kcv5_3, kbrem3, kst9, kbneq24, kbgeq3, ksl23_010z, ksl23_010, kbeql24, kblss5, kbgtr5, kbneq5, kbeql5, ksl23_011, ksl23_011z, kbquo3, kbmul3, kal58, ksl23_100z, ksl23_100, kmin3_ff, kfa58_1, kld56, kst56]
      refine ck32 (contains_any (pred := fun p => !starB p) hrb (by omega) notstar_any ?_)
      simp (maxSteps := 1000000) (disch := omega) only [hid1', hid2', guardK_u, takeG_u, wrap_in64, optK_some', fzK_false', nilK_ptr, brK_true', brK_false', guardK_tt', guardK_ff', guardK_tf', guardK_ft', takeG_tt', takeG_ff', takeG_tf', takeG_ft', pickK_t', pickK_f', pickT_t', pickT_f', notK, extract2_0', extract2_1', extract3_0', extract3_1', extract3_2', here_load, here_fieldAt, here_indexAt, here_extract, here_un, here_conv, here_slice, here_bin, here_nil, and_here, true_and, Nat.zero_add, Nat.add_assoc, Nat.add_zero, Int.toNat_natCast, size_alloc, World.cell?_drew, World.frozen?_drew, Bool.not_true, Bool.not_false, Int.toNat_zero, dec_t, dec_f, int_eq_t, int_eq_f, int_ne_t, int_ne_f, wrap_in, klen9, hlen9, kbgtr3, kbneq3, kbneq9, kbeql9, kbeql4, klen23, hlen23, kblss3, kia23, kld9, kbsub3, kbadd3, kbeql3, kbs23_1_0, kbneq4, kbs23_0, kcv5_3, kbrem3, kst9, kbneq24, kbgeq3, ksl23_010z, ksl23_010, kbeql24, kblss5, kbgtr5, kbneq5, kbeql5, ksl23_011, ksl23_011z, kbquo3, kbmul3, kal58, ksl23_100z, ksl23_100, kmin3_ff, kfa58_1, kld56, kst56, any_nostar]
      exact fin
    | false =>
      rw [hcs, Bool.false_and] at fin
      simp (maxSteps := 1000000) (disch := omega) only [hid1', hid2', guardK_u, takeG_u, wrap_in64, optK_some', fzK_false', nilK_ptr, brK_true', brK_false', guardK_tt', guardK_ff', guardK_tf', guardK_ft', takeG_tt', takeG_ff', takeG_tf', takeG_ft', pickK_t', pickK_f', pickT_t', pickT_f', notK, extract2_0', extract2_1', extract3_0', extract3_1', extract3_2', here_load, here_fieldAt, here_indexAt, here_extract, here_un, here_conv, here_slice, here_bin, here_nil, and_here, true_and, Nat.zero_add, Nat.add_assoc, Nat.add_zero, Int.toNat_natCast, size_alloc, World.cell?_drew, World.frozen?_drew, Bool.not_true, Bool.not_false, Int.toNat_zero, dec_t, dec_f, int_eq_t, int_eq_f, int_ne_t, int_ne_f, wrap_in, klen9, hlen9, kbgtr3, kbneq3, kbneq9, kbeql9, kbeql4, klen23, hlen23, kblss3, kia23, kld9, kbsub3, kbadd3, kbeql3, kbs23_1_0, kbneq4, kbs23_0, kcv5_3, kbrem3, kst9, kbneq24, kbgeq3, ksl23_010z, ksl23_010, kbeql24, kblss5, kbgtr5, kbneq5, kbeql5, ksl23_011, ksl23_011z, kbquo3, kbmul3, kal58, ksl23_100z, ksl23_100, kmin3_ff, kfa58_1, kld56, kst56, guardK_u]
      exact fin
end Go.Proofs.YtnlfnkblhnnaoaaDoor
