/- Match of both packages. Conditions: at most 1000 bytes. -/
import Derived.Test.YtnlfnkblhnnaoaaDoorPat
set_option linter.unusedVariables false
set_option linter.unusedSimpArgs false
set_option maxRecDepth 100000
namespace Go.Proofs.YtnlfnkblhnnaoaaDoor
open Go.RowKit Go.Cn
theorem matchL_no {p s : List UInt8} (h : ¬ (okPat p = true ∧ (parseL s).1 = 0 ∧ (bodyL (partsL p)).length ≤ (parseL s).2.length ∧ ((parseL s).2.length ≤ (bodyL (partsL p)).length ∨ longerL (partsL p) = true) ∧ fitsL (bodyL (partsL p)) (parseL s).2 = true)) : matchL p s = false := by
  cases hm : matchL p s with
  | false => rfl
  | true =>
    unfold matchL at hm
    simp only [Bool.and_eq_true, Bool.or_eq_true, decide_eq_true_eq] at hm
    exact absurd ⟨hm.1.1.1.1, hm.1.1.1.2, hm.1.1.2, hm.1.2, hm.2⟩ h
theorem matchL_yes {p s : List UInt8} (h : okPat p = true ∧ (parseL s).1 = 0 ∧ (bodyL (partsL p)).length ≤ (parseL s).2.length ∧ ((parseL s).2.length ≤ (bodyL (partsL p)).length ∨ longerL (partsL p) = true) ∧ fitsL (bodyL (partsL p)) (parseL s).2 = true) : matchL p s = true := by
  unfold matchL
  simp only [Bool.and_eq_true, Bool.or_eq_true, decide_eq_true_eq]
  exact ⟨⟨⟨⟨h.1, h.2.1⟩, h.2.2.1⟩, h.2.2.2.1⟩, h.2.2.2.2⟩

theorem match_any {p s : List UInt8} {w : World} {K : Value → World → Prop} (hp : p.length ≤ 1000) (hs : s.length ≤ 1000) (hm : MaxAt w)
    (hK : ∀ w', Qt w w' → K (.bool (matchL p s)) w') : CallK Tryd.prog 27 #[.string (txt p), .string (txt s)] K w := by
  refine F27_calls _ _ _ _ ?_; unfold F27
  refine ck41 (pattern_any hp hm ?_)
  intro A c w1 r1 q1
  have hbl := bodyL_le (partsL p)
  have hpl := partsL_len p
  have no := @matchL_no p s
  have yes := @matchL_yes p s
  simp (maxSteps := 1000000) (disch := omega) only [hid1', hid2', guardK_u, takeG_u, wrap_in64, optK_some', fzK_false', nilK_ptr, brK_true', brK_false', guardK_tt', guardK_ff', guardK_tf', guardK_ft', takeG_tt', takeG_ff', takeG_tf', takeG_ft', pickK_t', pickK_f', pickT_t', pickT_f', notK, extract2_0', extract2_1', extract3_0', extract3_1', extract3_2', here_load, here_fieldAt, here_indexAt, here_extract, here_un, here_conv, here_slice, here_bin, here_nil, and_here, true_and, Nat.zero_add, Nat.add_assoc, Nat.add_zero, Int.toNat_natCast, size_alloc, World.cell?_drew, World.frozen?_drew, Bool.not_true, Bool.not_false, Int.toNat_zero, dec_t, dec_f, int_eq_t, int_eq_f, int_ne_t, int_ne_f, wrap_in, klen9, hlen9, kbgtr3, kbneq3, kbneq9, kbeql9, kbeql4, klen23, hlen23, kblss3, kia23, kld9, kbsub3, kbadd3, kbeql3, kbs23_1_0, kbneq4, kbs23_0, kcv5_3, kbrem3, kst9, kbneq24, kbgeq3, ksl23_010z, ksl23_010, kbeql24, kblss5, kbgtr5, kbneq5, kbeql5, ksl23_011, ksl23_011z, kbquo3, kbmul3, kal58, ksl23_100z, ksl23_100, kmin3_ff, kfa58_1, kld56, kst56]
  refine ck9 (parse_any hs (hm.quiet q1) ?_)
  intro B d F w2 o2 q2 f2
  have hs2 := len_small s
  have r2 := Reads.of_own o2
  have r1' := r1.quiet q2
  have q12 := q1.trans q2
  have fin := hK
  clear o2 hK
  generalize bodyL (partsL p) = b at *
  generalize longerL (partsL p) = lg at *
  generalize matchL p s = R at *
  generalize okPat p = ok at *
  cases ok with
  | false =>
    rw [no (fun h => by cases h.1)] at fin
    simp (maxSteps := 1000000) (disch := omega) only [hid1', hid2', guardK_u, takeG_u, wrap_in64, optK_some', fzK_false', nilK_ptr, brK_true', brK_false', guardK_tt', guardK_ff', guardK_tf', guardK_ft', takeG_tt', takeG_ff', takeG_tf', takeG_ft', pickK_t', pickK_f', pickT_t', pickT_f', notK, extract2_0', extract2_1', extract3_0', extract3_1', extract3_2', here_load, here_fieldAt, here_indexAt, here_extract, here_un, here_conv, here_slice, here_bin, here_nil, and_here, true_and, Nat.zero_add, Nat.add_assoc, Nat.add_zero, Int.toNat_natCast, size_alloc, World.cell?_drew, World.frozen?_drew, Bool.not_true, Bool.not_false, Int.toNat_zero, dec_t, dec_f, int_eq_t, int_eq_f, int_ne_t, int_ne_f, wrap_in, klen9, hlen9, kbgtr3, kbneq3, kbneq9, kbeql9, kbeql4, klen23, hlen23, kblss3, kia23, kld9, kbsub3, kbadd3, kbeql3, kbs23_1_0, kbneq4, kbs23_0, kcv5_3, kbrem3, kst9, kbneq24, kbgeq3, ksl23_010z, ksl23_010, kbeql24, kblss5, kbgtr5, kbneq5, kbeql5, ksl23_011, ksl23_011z, kbquo3, kbmul3, kal58, ksl23_100z, ksl23_100, kmin3_ff, kfa58_1, kld56, kst56, guardK_u]
    exact fin w2 q12
  | true =>
    by_cases h0 : (parseL s).1 = 0
    · generalize (parseL s).2 = ps at *
      have h00 : ((0 : Int) == 0) = true := rfl
      by_cases h1 : ps.length < b.length
      · rw [no (fun h => by omega)] at fin
        simp (maxSteps := 1000000) (disch := omega) only [hid1', hid2', guardK_u, takeG_u, wrap_in64, optK_some', fzK_false', nilK_ptr, brK_true', brK_false', guardK_tt', guardK_ff', guardK_tf', guardK_ft', takeG_tt', takeG_ff', takeG_tf', takeG_ft', pickK_t', pickK_f', pickT_t', pickT_f', notK, extract2_0', extract2_1', extract3_0', extract3_1', extract3_2', here_load, here_fieldAt, here_indexAt, here_extract, here_un, here_conv, here_slice, here_bin, here_nil, and_here, true_and, Nat.zero_add, Nat.add_assoc, Nat.add_zero, Int.toNat_natCast, size_alloc, World.cell?_drew, World.frozen?_drew, Bool.not_true, Bool.not_false, Int.toNat_zero, dec_t, dec_f, int_eq_t, int_eq_f, int_ne_t, int_ne_f, wrap_in, klen9, hlen9, kbgtr3, kbneq3, kbneq9, kbeql9, kbeql4, klen23, hlen23, kblss3, kia23, kld9, kbsub3, kbadd3, kbeql3, kbs23_1_0, kbneq4, kbs23_0, kcv5_3, kbrem3, kst9, kbneq24, kbgeq3, ksl23_010z, ksl23_010, kbeql24, kblss5, kbgtr5, kbneq5, kbeql5, ksl23_011, ksl23_011z, kbquo3, kbmul3, kal58, ksl23_100z, ksl23_100, kmin3_ff, kfa58_1, kld56, kst56, h0, guardK_u]
        exact fin w2 q12
      by_cases h2 : b.length < ps.length
      · cases lg with
        | false =>
          rw [no (fun h => by rcases h.2.2.2.1 with h | h
                              · omega
                              · cases h)] at fin
          simp (maxSteps := 1000000) (disch := omega) only [hid1', hid2', guardK_u, takeG_u, wrap_in64, optK_some', fzK_false', nilK_ptr, brK_true', brK_false', guardK_tt', guardK_ff', guardK_tf', guardK_ft', takeG_tt', takeG_ff', takeG_tf', takeG_ft', pickK_t', pickK_f', pickT_t', pickT_f', notK, extract2_0', extract2_1', extract3_0', extract3_1', extract3_2', here_load, here_fieldAt, here_indexAt, here_extract, here_un, here_conv, here_slice, here_bin, here_nil, and_here, true_and, Nat.zero_add, Nat.add_assoc, Nat.add_zero, Int.toNat_natCast, size_alloc, World.cell?_drew, World.frozen?_drew, Bool.not_true, Bool.not_false, Int.toNat_zero, dec_t, dec_f, int_eq_t, int_eq_f, int_ne_t, int_ne_f, wrap_in, klen9, hlen9, kbgtr3, kbneq3, kbneq9, kbeql9, kbeql4, klen23, hlen23, kblss3, kia23, kld9, kbsub3, kbadd3, kbeql3, kbs23_1_0, kbneq4, kbs23_0, kcv5_3, kbrem3, kst9, kbneq24, kbgeq3, ksl23_010z, ksl23_010, kbeql24, kblss5, kbgtr5, kbneq5, kbeql5, ksl23_011, ksl23_011z, kbquo3, kbmul3, kal58, ksl23_100z, ksl23_100, kmin3_ff, kfa58_1, kld56, kst56, h0, guardK_u]
          exact fin w2 q12
        | true =>
          simp (maxSteps := 1000000) (disch := omega) only [hid1', hid2', guardK_u, takeG_u, wrap_in64, optK_some', fzK_false', nilK_ptr, brK_true', brK_false', guardK_tt', guardK_ff', guardK_tf', guardK_ft', takeG_tt', takeG_ff', takeG_tf', takeG_ft', pickK_t', pickK_f', pickT_t', pickT_f', notK, extract2_0', extract2_1', extract3_0', extract3_1', extract3_2', here_load, here_fieldAt, here_indexAt, here_extract, here_un, here_conv, here_slice, here_bin, here_nil, and_here, true_and, Nat.zero_add, Nat.add_assoc, Nat.add_zero, Int.toNat_natCast, size_alloc, World.cell?_drew, World.frozen?_drew, Bool.not_true, Bool.not_false, Int.toNat_zero, dec_t, dec_f, int_eq_t, int_eq_f, int_ne_t, int_ne_f, wrap_in, klen9, hlen9, kbgtr3, kbneq3, kbneq9, kbeql9, kbeql4, klen23, hlen23, kblss3, kia23, kld9, kbsub3, kbadd3, kbeql3, kbs23_1_0, kbneq4, kbs23_0, kcv5_3, kbrem3, kst9, kbneq24, kbgeq3, ksl23_010z, ksl23_010, kbeql24, kblss5, kbgtr5, kbneq5, kbeql5, ksl23_011, ksl23_011z, kbquo3, kbmul3, kal58, ksl23_100z, ksl23_100, kmin3_ff, kfa58_1, kld56, kst56, h0, guardK_u]
          refine loopK1 (fun v w' => Qt w2 w' ∧ ∃ i : Nat, v = .int .i64 i ∧ i ≤ b.length ∧ ∀ j, j < i → b.getD j [] = [42] ∨ b.getD j [] = ps.getD j []) (fun v _ => b.length - (intOf v).toNat) ⟨Qt.refl, 0, rfl, by omega, fun j h => by omega⟩ ?_
          rintro _ _ w' ⟨q, i, rfl, hi, hlo⟩
          by_cases hlt : i < b.length
          · have hlt2 : i < ps.length := by omega
            obtain ⟨g, o, rfl, hc⟩ := strs_at (r1'.quiet q) hlt
            obtain ⟨g2, o2, rfl, hc2⟩ := strs_at (r2.quiet q) hlt2
            rw [← getD_lt b [] hlt] at hc
            rw [← getD_lt ps [] hlt2] at hc2
            have next : (b.getD i [] = [42] ∨ b.getD i [] = ps.getD i []) → ∀ j, j < i + 1 → b.getD j [] = [42] ∨ b.getD j [] = ps.getD j [] := fun hh j hj => by
              by_cases e : j = i
              · subst e; exact hh
              · exact hlo j (by omega)
            have bad : ¬ (b.getD i [] = [42] ∨ b.getD i [] = ps.getD i []) → R = false := fun hh => no (fun h => hh ((fits_iff b ps (by omega)).1 h.2.2.2.2 i hlt))
            generalize b.getD i [] = x at *
            generalize ps.getD i [] = y at *
            by_cases e1 : x = [42]
            · have hd : decide (x = [42]) = true := decide_eq_true e1
              simp (maxSteps := 1000000) (disch := omega) only [hid1', hid2', guardK_u, takeG_u, wrap_in64, optK_some', fzK_false', nilK_ptr, brK_true', brK_false', guardK_tt', guardK_ff', guardK_tf', guardK_ft', takeG_tt', takeG_ff', takeG_tf', takeG_ft', pickK_t', pickK_f', pickT_t', pickT_f', notK, extract2_0', extract2_1', extract3_0', extract3_1', extract3_2', here_load, here_fieldAt, here_indexAt, here_extract, here_un, here_conv, here_slice, here_bin, here_nil, and_here, true_and, Nat.zero_add, Nat.add_assoc, Nat.add_zero, Int.toNat_natCast, size_alloc, World.cell?_drew, World.frozen?_drew, Bool.not_true, Bool.not_false, Int.toNat_zero, dec_t, dec_f, int_eq_t, int_eq_f, int_ne_t, int_ne_f, wrap_in, klen9, hlen9, kbgtr3, kbneq3, kbneq9, kbeql9, kbeql4, klen23, hlen23, kblss3, kia23, kld9, kbsub3, kbadd3, kbeql3, kbs23_1_0, kbneq4, kbs23_0, kcv5_3, kbrem3, kst9, kbneq24, kbgeq3, ksl23_010z, ksl23_010, kbeql24, kblss5, kbgtr5, kbneq5, kbeql5, ksl23_011, ksl23_011z, kbquo3, kbmul3, kal58, ksl23_100z, ksl23_100, kmin3_ff, kfa58_1, kld56, kst56, hc, hc2, c42, eq_txt, hd, guardK_u, takeG_u]
              exact ⟨⟨q, i + 1, by go_num, by omega, next (.inl e1)⟩, by simp [rel, intOf]; omega⟩
            · have hd : decide (x = [42]) = false := decide_eq_false e1
              by_cases e2 : x = y
              · have hd2 : decide (x = y) = true := decide_eq_true e2
                simp (maxSteps := 1000000) (disch := omega) only [hid1', hid2', guardK_u, takeG_u, wrap_in64, optK_some', fzK_false', nilK_ptr, brK_true', brK_false', guardK_tt', guardK_ff', guardK_tf', guardK_ft', takeG_tt', takeG_ff', takeG_tf', takeG_ft', pickK_t', pickK_f', pickT_t', pickT_f', notK, extract2_0', extract2_1', extract3_0', extract3_1', extract3_2', here_load, here_fieldAt, here_indexAt, here_extract, here_un, here_conv, here_slice, here_bin, here_nil, and_here, true_and, Nat.zero_add, Nat.add_assoc, Nat.add_zero, Int.toNat_natCast, size_alloc, World.cell?_drew, World.frozen?_drew, Bool.not_true, Bool.not_false, Int.toNat_zero, dec_t, dec_f, int_eq_t, int_eq_f, int_ne_t, int_ne_f, wrap_in, klen9, hlen9, kbgtr3, kbneq3, kbneq9, kbeql9, kbeql4, klen23, hlen23, kblss3, kia23, kld9, kbsub3, kbadd3, kbeql3, kbs23_1_0, kbneq4, kbs23_0, kcv5_3, kbrem3, kst9, kbneq24, kbgeq3, ksl23_010z, ksl23_010, kbeql24, kblss5, kbgtr5, kbneq5, kbeql5, ksl23_011, ksl23_011z, kbquo3, kbmul3, kal58, ksl23_100z, ksl23_100, kmin3_ff, kfa58_1, kld56, kst56, hc, hc2, c42, eq_txt, hd, hd2]
                exact ⟨⟨q, i + 1, by go_num, by omega, next (.inr e2)⟩, by simp [rel, intOf]; omega⟩
              · have hd2 : decide (x = y) = false := decide_eq_false e2
                have hf := fin (w') (q12.trans q)
                rw [bad (fun h => h.elim e1 e2)] at hf
                simp (maxSteps := 1000000) (disch := omega) only [hid1', hid2', guardK_u, takeG_u, wrap_in64, optK_some', fzK_false', nilK_ptr, brK_true', brK_false', guardK_tt', guardK_ff', guardK_tf', guardK_ft', takeG_tt', takeG_ff', takeG_tf', takeG_ft', pickK_t', pickK_f', pickT_t', pickT_f', notK, extract2_0', extract2_1', extract3_0', extract3_1', extract3_2', here_load, here_fieldAt, here_indexAt, here_extract, here_un, here_conv, here_slice, here_bin, here_nil, and_here, true_and, Nat.zero_add, Nat.add_assoc, Nat.add_zero, Int.toNat_natCast, size_alloc, World.cell?_drew, World.frozen?_drew, Bool.not_true, Bool.not_false, Int.toNat_zero, dec_t, dec_f, int_eq_t, int_eq_f, int_ne_t, int_ne_f, wrap_in, klen9, hlen9, kbgtr3, kbneq3, kbneq9, kbeql9, kbeql4, klen23, hlen23, kblss3, kia23, kld9, kbsub3, kbadd3, kbeql3, kbs23_1_0, kbneq4, kbs23_0, kcv5_3, kbrem3, kst9, kbneq24, kbgeq3, ksl23_010z, ksl23_010, kbeql24, kblss5, kbgtr5, kbneq5, kbeql5, ksl23_011, ksl23_011z, kbquo3, kbmul3, kal58, ksl23_100z, ksl23_100, kmin3_ff, kfa58_1, kld56, kst56, hc, hc2, c42, eq_txt, hd, hd2]
                exact hf
          · obtain rfl : i = b.length := by omega
            have hf := fin w' (q12.trans q)
            rw [yes ⟨rfl, h0, by omega, .inr rfl, (fits_iff b ps (by omega)).2 hlo⟩] at hf
            simp (maxSteps := 1000000) (disch := omega) only [hid1', hid2', guardK_u, takeG_u, wrap_in64, optK_some', fzK_false', nilK_ptr, brK_true', brK_false', guardK_tt', guardK_ff', guardK_tf', guardK_ft', takeG_tt', takeG_ff', takeG_tf', takeG_ft', pickK_t', pickK_f', pickT_t', pickT_f', notK, extract2_0', extract2_1', extract3_0', extract3_1', extract3_2', here_load, here_fieldAt, here_indexAt, here_extract, here_un, here_conv, here_slice, here_bin, here_nil, and_here, true_and, Nat.zero_add, Nat.add_assoc, Nat.add_zero, Int.toNat_natCast, size_alloc, World.cell?_drew, World.frozen?_drew, Bool.not_true, Bool.not_false, Int.toNat_zero, dec_t, dec_f, int_eq_t, int_eq_f, int_ne_t, int_ne_f, wrap_in, klen9, hlen9, kbgtr3, kbneq3, kbneq9, kbeql9, kbeql4, klen23, hlen23, kblss3, kia23, kld9, kbsub3, kbadd3, kbeql3, kbs23_1_0, kbneq4, kbs23_0, kcv5_3, kbrem3, kst9, kbneq24, kbgeq3, ksl23_010z, ksl23_010, kbeql24, kblss5, kbgtr5, kbneq5, kbeql5, ksl23_011, ksl23_011z, kbquo3, kbmul3, kal58, ksl23_100z, ksl23_100, kmin3_ff, kfa58_1, kld56, kst56]
            exact hf
      · simp (maxSteps := 1000000) (disch := omega) only [hid1', hid2', guardK_u, takeG_u, wrap_in64, optK_some', fzK_false', nilK_ptr, brK_true', brK_false', guardK_tt', guardK_ff', guardK_tf', guardK_ft', takeG_tt', takeG_ff', takeG_tf', takeG_ft', pickK_t', pickK_f', pickT_t', pickT_f', notK, extract2_0', extract2_1', extract3_0', extract3_1', extract3_2', here_load, here_fieldAt, here_indexAt, here_extract, here_un, here_conv, here_slice, here_bin, here_nil, and_here, true_and, Nat.zero_add, Nat.add_assoc, Nat.add_zero, Int.toNat_natCast, size_alloc, World.cell?_drew, World.frozen?_drew, Bool.not_true, Bool.not_false, Int.toNat_zero, dec_t, dec_f, int_eq_t, int_eq_f, int_ne_t, int_ne_f, wrap_in, klen9, hlen9, kbgtr3, kbneq3, kbneq9, kbeql9, kbeql4, klen23, hlen23, kblss3, kia23, kld9, kbsub3, kbadd3, kbeql3, kbs23_1_0, kbneq4, kbs23_0, kcv5_3, kbrem3, kst9, kbneq24, kbgeq3, ksl23_010z, ksl23_010, kbeql24, kblss5, kbgtr5, kbneq5, kbeql5, ksl23_011, ksl23_011z, kbquo3, kbmul3, kal58, ksl23_100z, ksl23_100, kmin3_ff, kfa58_1, kld56, kst56, h0, guardK_u]
        refine loopK1 (fun v w' => Qt w2 w' ∧ ∃ i : Nat, v = .int .i64 i ∧ i ≤ b.length ∧ ∀ j, j < i → b.getD j [] = [42] ∨ b.getD j [] = ps.getD j []) (fun v _ => b.length - (intOf v).toNat) ⟨Qt.refl, 0, rfl, by omega, fun j h => by omega⟩ ?_
        rintro _ _ w' ⟨q, i, rfl, hi, hlo⟩
        by_cases hlt : i < b.length
        · have hlt2 : i < ps.length := by omega
          obtain ⟨g, o, rfl, hc⟩ := strs_at (r1'.quiet q) hlt
          obtain ⟨g2, o2, rfl, hc2⟩ := strs_at (r2.quiet q) hlt2
          rw [← getD_lt b [] hlt] at hc
          rw [← getD_lt ps [] hlt2] at hc2
          have next : (b.getD i [] = [42] ∨ b.getD i [] = ps.getD i []) → ∀ j, j < i + 1 → b.getD j [] = [42] ∨ b.getD j [] = ps.getD j [] := fun hh j hj => by
            by_cases e : j = i
            · subst e; exact hh
            · exact hlo j (by omega)
          have bad : ¬ (b.getD i [] = [42] ∨ b.getD i [] = ps.getD i []) → R = false := fun hh => no (fun h => hh ((fits_iff b ps (by omega)).1 h.2.2.2.2 i hlt))
          generalize b.getD i [] = x at *
          generalize ps.getD i [] = y at *
          by_cases e1 : x = [42]
          · have hd : decide (x = [42]) = true := decide_eq_true e1
            simp (maxSteps := 1000000) (disch := omega) only [hid1', hid2', guardK_u, takeG_u, wrap_in64, optK_some', fzK_false', nilK_ptr, brK_true', brK_false', guardK_tt', guardK_ff', guardK_tf', guardK_ft', takeG_tt', takeG_ff', takeG_tf', takeG_ft', pickK_t', pickK_f', pickT_t', pickT_f', notK, extract2_0', extract2_1', extract3_0', extract3_1', extract3_2', here_load, here_fieldAt, here_indexAt, here_extract, here_un, here_conv, here_slice, here_bin, here_nil, and_here, true_and, Nat.zero_add, Nat.add_assoc, Nat.add_zero, Int.toNat_natCast, size_alloc, World.cell?_drew, World.frozen?_drew, Bool.not_true, Bool.not_false, Int.toNat_zero, dec_t, dec_f, int_eq_t, int_eq_f, int_ne_t, int_ne_f, wrap_in, klen9, hlen9, kbgtr3, kbneq3, kbneq9, kbeql9, kbeql4, klen23, hlen23, kblss3, kia23, kld9, kbsub3, kbadd3, kbeql3, kbs23_1_0, kbneq4, kbs23_0, kcv5_3, kbrem3, kst9, kbneq24, kbgeq3, ksl23_010z, ksl23_010, kbeql24, kblss5, kbgtr5, kbneq5, kbeql5, ksl23_011, ksl23_011z, kbquo3, kbmul3, kal58, ksl23_100z, ksl23_100, kmin3_ff, kfa58_1, kld56, kst56, hc, hc2, c42, eq_txt, hd, guardK_u, takeG_u]
            exact ⟨⟨q, i + 1, by go_num, by omega, next (.inl e1)⟩, by simp [rel, intOf]; omega⟩
          · have hd : decide (x = [42]) = false := decide_eq_false e1
            by_cases e2 : x = y
            · have hd2 : decide (x = y) = true := decide_eq_true e2
              simp (maxSteps := 1000000) (disch := omega) only [hid1', hid2', guardK_u, takeG_u, wrap_in64, optK_some', fzK_false', nilK_ptr, brK_true', brK_false', guardK_tt', guardK_ff', guardK_tf', guardK_ft', takeG_tt', takeG_ff', takeG_tf', takeG_ft', pickK_t', pickK_f', pickT_t', pickT_f', notK, extract2_0', extract2_1', extract3_0', extract3_1', extract3_2', here_load, here_fieldAt, here_indexAt, here_extract, here_un, here_conv, here_slice, here_bin, here_nil, and_here, true_and, Nat.zero_add, Nat.add_assoc, Nat.add_zero, Int.toNat_natCast, size_alloc, World.cell?_drew, World.frozen?_drew, Bool.not_true, Bool.not_false, Int.toNat_zero, dec_t, dec_f, int_eq_t, int_eq_f, int_ne_t, int_ne_f, wrap_in, klen9, hlen9, kbgtr3, kbneq3, kbneq9, kbeql9, kbeql4, klen23, hlen23, kblss3, kia23, kld9, kbsub3, kbadd3, kbeql3, kbs23_1_0, kbneq4, kbs23_0, kcv5_3, kbrem3, kst9, kbneq24, kbgeq3, ksl23_010z, ksl23_010, kbeql24, kblss5, kbgtr5, kbneq5, kbeql5, ksl23_011, ksl23_011z, kbquo3, kbmul3, kal58, ksl23_100z, ksl23_100, kmin3_ff, kfa58_1, kld56, kst56, hc, hc2, c42, eq_txt, hd, hd2]
              exact ⟨⟨q, i + 1, by go_num, by omega, next (.inr e2)⟩, by simp [rel, intOf]; omega⟩
            · have hd2 : decide (x = y) = false := decide_eq_false e2
              have hf := fin (w') (q12.trans q)
              rw [bad (fun h => h.elim e1 e2)] at hf
              simp (maxSteps := 1000000) (disch := omega) only [hid1', hid2', guardK_u, takeG_u, wrap_in64, optK_some', fzK_false', nilK_ptr, brK_true', brK_false', guardK_tt', guardK_ff', guardK_tf', guardK_ft', takeG_tt', takeG_ff', takeG_tf', takeG_ft', pickK_t', pickK_f', pickT_t', pickT_f', notK, extract2_0', extract2_1', extract3_0', extract3_1', extract3_2', here_load, here_fieldAt, here_indexAt, here_extract, here_un, here_conv, here_slice, here_bin, here_nil, and_here, true_and, Nat.zero_add, Nat.add_assoc, Nat.add_zero, Int.toNat_natCast, size_alloc, World.cell?_drew, World.frozen?_drew, Bool.not_true, Bool.not_false, Int.toNat_zero, dec_t, dec_f, int_eq_t, int_eq_f, int_ne_t, int_ne_f, wrap_in, klen9, hlen9, kbgtr3, kbneq3, kbneq9, kbeql9, kbeql4, klen23, hlen23, kblss3, kia23, kld9, kbsub3, kbadd3, kbeql3, kbs23_1_0, kbneq4, kbs23_0, kcv5_3, kbrem3, kst9, kbneq24, kbgeq3, ksl23_010z, ksl23_010, kbeql24, kblss5, kbgtr5, kbneq5, kbeql5, ksl23_011, ksl23_011z, kbquo3, kbmul3, kal58, ksl23_100z, ksl23_100, kmin3_ff, kfa58_1, kld56, kst56, hc, hc2, c42, eq_txt, hd, hd2]
              exact hf
        · obtain rfl : i = b.length := by omega
          have hf := fin w' (q12.trans q)
          rw [yes ⟨rfl, h0, by omega, .inl (by omega), (fits_iff b ps (by omega)).2 hlo⟩] at hf
          simp (maxSteps := 1000000) (disch := omega) only [hid1', hid2', guardK_u, takeG_u, wrap_in64, optK_some', fzK_false', nilK_ptr, brK_true', brK_false', guardK_tt', guardK_ff', guardK_tf', guardK_ft', takeG_tt', takeG_ff', takeG_tf', takeG_ft', pickK_t', pickK_f', pickT_t', pickT_f', notK, extract2_0', extract2_1', extract3_0', extract3_1', extract3_2', here_load, here_fieldAt, here_indexAt, here_extract, here_un, here_conv, here_slice, here_bin, here_nil, and_here, true_and, Nat.zero_add, Nat.add_assoc, Nat.add_zero, Int.toNat_natCast, size_alloc, World.cell?_drew, World.frozen?_drew, Bool.not_true, Bool.not_false, Int.toNat_zero, dec_t, dec_f, int_eq_t, int_eq_f, int_ne_t, int_ne_f, wrap_in, klen9, hlen9, kbgtr3, kbneq3, kbneq9, kbeql9, kbeql4, klen23, hlen23, kblss3, kia23, kld9, kbsub3, kbadd3, kbeql3, kbs23_1_0, kbneq4, kbs23_0, kcv5_3, kbrem3, kst9, kbneq24, kbgeq3, ksl23_010z, ksl23_010, kbeql24, kblss5, kbgtr5, kbneq5, kbeql5, ksl23_011, ksl23_011z, kbquo3, kbmul3, kal58, ksl23_100z, ksl23_100, kmin3_ff, kfa58_1, kld56, kst56]
          exact hf
    · rw [no (fun h => h0 h.2.1)] at fin
      simp (maxSteps := 1000000) (disch := omega) only [hid1', hid2', guardK_u, takeG_u, wrap_in64, optK_some', fzK_false', nilK_ptr, brK_true', brK_false', guardK_tt', guardK_ff', guardK_tf', guardK_ft', takeG_tt', takeG_ff', takeG_tf', takeG_ft', pickK_t', pickK_f', pickT_t', pickT_f', notK, extract2_0', extract2_1', extract3_0', extract3_1', extract3_2', here_load, here_fieldAt, here_indexAt, here_extract, here_un, here_conv, here_slice, here_bin, here_nil, and_here, true_and, Nat.zero_add, Nat.add_assoc, Nat.add_zero, Int.toNat_natCast, size_alloc, World.cell?_drew, World.frozen?_drew, Bool.not_true, Bool.not_false, Int.toNat_zero, dec_t, dec_f, int_eq_t, int_eq_f, int_ne_t, int_ne_f, wrap_in, klen9, hlen9, kbgtr3, kbneq3, kbneq9, kbeql9, kbeql4, klen23, hlen23, kblss3, kia23, kld9, kbsub3, kbadd3, kbeql3, kbs23_1_0, kbneq4, kbs23_0, kcv5_3, kbrem3, kst9, kbneq24, kbgeq3, ksl23_010z, ksl23_010, kbeql24, kblss5, kbgtr5, kbneq5, kbeql5, ksl23_011, ksl23_011z, kbquo3, kbmul3, kal58, ksl23_100z, ksl23_100, kmin3_ff, kfa58_1, kld56, kst56, h0, guardK_u]
      exact fin w2 q12

end Go.Proofs.YtnlfnkblhnnaoaaDoor
