/- PathCommon's law, walked. -/
import Derived.Test.YtnlfnkblhnnaoaaDoorZonesLaw
import Derived.Test.YtnlfnkblhnnaoaaDoorPath5
set_option linter.unusedVariables false
set_option linter.unusedSimpArgs false
set_option maxRecDepth 100000
namespace Go.Proofs.YtnlfnkblhnnaoaaDoor
open Go.RowKit Go.Cn
theorem full_push {w : World} {n : Nat} {A : Option Addr} {xs : List Value} (hr : Reads w A xs) (hl : xs.length = n) (hA : n = 0 ∧ A = none ∨ ∃ g, A = some ⟨g, 0, none⟩) (hn : n ≤ 1000) (x : Value) (hx : x.oneCell' = true) :
    ∃ A' c F w', (Builtin.append_ #[23, 23] 23 #[.slice A n n, .slice (some ⟨w.heap.size, 0, none⟩) 1 1]).run Tryd.prog (w.alloc (.cells #[x] 9)) = .ok (.slice A' (n + 1) c) w' ∧ Own w' 9 1 (.slice A' (n + 1) c) (n + 1) (xs ++ [x]) F ∧ Qt w w' := by
  have q : Qt w (w.alloc (.cells #[x] 9)) := Chg.alloc Qt.refl _
  rcases hA with ⟨h0, rfl⟩ | ⟨g, rfl⟩
  · subst h0
    obtain rfl : xs = [] := List.eq_nil_of_length_eq_zero hl
    obtain ⟨A', cap, F', w', p, o, k, f⟩ := app_run (P := Tryd.prog) tyS (Own.nil (w.alloc (.cells #[x] 9)) 9 1) (some ⟨w.heap.size, 0, none⟩) 1 1 [x] rfl (Src.new w x 9) (oneCell_one hx) (by omega) (by omega) 23
    exact ⟨A', cap, F', w', p, o, Qt.then q k (fun i hi => by cases hi)⟩
  · obtain ⟨i, hi, hz, hsz, hby⟩ := tyS.info
    have hr2 := hr.quiet q
    obtain ⟨v', w', hrun, h2, h3⟩ := run_append_arg_grows (P := Tryd.prog) (w := w.alloc (.cells #[x] 9)) 23 23 9 i _ 1 16 tyS.und hi hz hsz hby rfl (by decide) ⟨g, 0, none⟩ n n xs (by omega)
      (fun j u hj => by
        rcases hr2 with rfl | ⟨g2, o2, e, hc⟩
        · simp at hj
        · cases e
          have hjl := (List.getElem?_eq_some_iff.1 hj).1
          rw [Addr.add_lit, ← hj]; simpa using hc j hjl)
      ⟨w.heap.size, 0, none⟩ 1 1 [x] rfl
      (fun j u hj => by
        obtain ⟨ad', h, hc⟩ := Src.new w x 9 j u hj
        cases h; exact hc) (by omega) (by unfold maxLen; omega) (by omega)
    have ho := Own.of_row h2
    obtain ⟨A', cap, rfl, _⟩ := ho.shape
    refine ⟨A', cap, _, w', hrun, ho, Qt.then q (Chg.of_grown h3) (fun k hk => by cases hk)⟩
theorem pathCommon_any {a b : List UInt8} {w : World} {K : Value → World → Prop} (hm : MaxAt w) (hK : ∀ w', Qt w w' → K (.bool true) w') : CallK Tryd.prog 6 #[.string (txt a), .string (txt b)] K w := by
  refine F6_calls _ _ _ _ ?_; unfold F6
  have hd : decide True = true := rfl
  refine ck8 (known_any hm ?_)
  intro w0 q0
  have hsz := txt_size a
  have hszb := txt_size b
  by_cases h1 : 100 < a.length
  · simp (maxSteps := 1000000) (disch := omega) only [hid1', hid2', guardK_u, takeG_u, wrap_in64, optK_some', fzK_false', nilK_ptr, brK_true', brK_false', guardK_tt', guardK_ff', guardK_tf', guardK_ft', takeG_tt', takeG_ff', takeG_tf', takeG_ft', pickK_t', pickK_f', pickT_t', pickT_f', notK, extract2_0', extract2_1', extract3_0', extract3_1', extract3_2', here_load, here_fieldAt, here_indexAt, here_extract, here_un, here_conv, here_slice, here_bin, here_nil, and_here, true_and, Nat.zero_add, Nat.add_assoc, Nat.add_zero, Int.toNat_natCast, size_alloc, World.cell?_drew, World.frozen?_drew, Bool.not_true, Bool.not_false, Int.toNat_zero, dec_t, dec_f, int_eq_t, int_eq_f, int_ne_t, int_ne_f, wrap_in, klen9, hlen9, kbgtr3, kbneq3, kbneq9, kbeql9, kbeql4, klen23, hlen23, kblss3, kia23, kld9, kbsub3, kbadd3, kbeql3, kbs23_1_0, kbneq4, kbs23_0, kcv5_3, kbrem3, kst9, kbneq24, kbgeq3, ksl23_010z, ksl23_010, kbeql24, kblss5, kbgtr5, kbneq5, kbeql5, ksl23_011, ksl23_011z, kbquo3, kbmul3, kal58, ksl23_100z, ksl23_100, kmin3_ff, kfa58_1, kld56, kst56, hsz, hszb, guardK_u]
    exact hK w0 q0
  by_cases h2 : 100 < b.length
  · simp (maxSteps := 1000000) (disch := omega) only [hid1', hid2', guardK_u, takeG_u, wrap_in64, optK_some', fzK_false', nilK_ptr, brK_true', brK_false', guardK_tt', guardK_ff', guardK_tf', guardK_ft', takeG_tt', takeG_ff', takeG_tf', takeG_ft', pickK_t', pickK_f', pickT_t', pickT_f', notK, extract2_0', extract2_1', extract3_0', extract3_1', extract3_2', here_load, here_fieldAt, here_indexAt, here_extract, here_un, here_conv, here_slice, here_bin, here_nil, and_here, true_and, Nat.zero_add, Nat.add_assoc, Nat.add_zero, Int.toNat_natCast, size_alloc, World.cell?_drew, World.frozen?_drew, Bool.not_true, Bool.not_false, Int.toNat_zero, dec_t, dec_f, int_eq_t, int_eq_f, int_ne_t, int_ne_f, wrap_in, klen9, hlen9, kbgtr3, kbneq3, kbneq9, kbeql9, kbeql4, klen23, hlen23, kblss3, kia23, kld9, kbsub3, kbadd3, kbeql3, kbs23_1_0, kbneq4, kbs23_0, kcv5_3, kbrem3, kst9, kbneq24, kbgeq3, ksl23_010z, ksl23_010, kbeql24, kblss5, kbgtr5, kbneq5, kbeql5, ksl23_011, ksl23_011z, kbquo3, kbmul3, kal58, ksl23_100z, ksl23_100, kmin3_ff, kfa58_1, kld56, kst56, hsz, hszb, guardK_u]
    exact hK w0 q0
  simp (maxSteps := 1000000) (disch := omega) only [hid1', hid2', guardK_u, takeG_u, wrap_in64, optK_some', fzK_false', nilK_ptr, brK_true', brK_false', guardK_tt', guardK_ff', guardK_tf', guardK_ft', takeG_tt', takeG_ff', takeG_tf', takeG_ft', pickK_t', pickK_f', pickT_t', pickT_f', notK, extract2_0', extract2_1', extract3_0', extract3_1', extract3_2', here_load, here_fieldAt, here_indexAt, here_extract, here_un, here_conv, here_slice, here_bin, here_nil, and_here, true_and, Nat.zero_add, Nat.add_assoc, Nat.add_zero, Int.toNat_natCast, size_alloc, World.cell?_drew, World.frozen?_drew, Bool.not_true, Bool.not_false, Int.toNat_zero, dec_t, dec_f, int_eq_t, int_eq_f, int_ne_t, int_ne_f, wrap_in, klen9, hlen9, kbgtr3, kbneq3, kbneq9, kbeql9, kbeql4, klen23, hlen23, kblss3, kia23, kld9, kbsub3, kbadd3, kbeql3, kbs23_1_0, kbneq4, kbs23_0, kcv5_3, kbrem3, kst9, kbneq24, kbgeq3, ksl23_010z, ksl23_010, kbeql24, kblss5, kbgtr5, kbneq5, kbeql5, ksl23_011, ksl23_011z, kbquo3, kbmul3, kal58, ksl23_100z, ksl23_100, kmin3_ff, kfa58_1, kld56, kst56, hsz, hszb]
  refine ck29 (isR_any (by omega) ?_)
  intro w1 q1
  have qq1 := q0.trans q1
  by_cases h0n : ¬ (parseL a).1 = 0
  · have hd0 : decide ((parseL a).1 = 0) = false := decide_eq_false h0n
    simp (maxSteps := 1000000) (disch := omega) only [hid1', hid2', guardK_u, takeG_u, wrap_in64, optK_some', fzK_false', nilK_ptr, brK_true', brK_false', guardK_tt', guardK_ff', guardK_tf', guardK_ft', takeG_tt', takeG_ff', takeG_tf', takeG_ft', pickK_t', pickK_f', pickT_t', pickT_f', notK, extract2_0', extract2_1', extract3_0', extract3_1', extract3_2', here_load, here_fieldAt, here_indexAt, here_extract, here_un, here_conv, here_slice, here_bin, here_nil, and_here, true_and, Nat.zero_add, Nat.add_assoc, Nat.add_zero, Int.toNat_natCast, size_alloc, World.cell?_drew, World.frozen?_drew, Bool.not_true, Bool.not_false, Int.toNat_zero, dec_t, dec_f, int_eq_t, int_eq_f, int_ne_t, int_ne_f, wrap_in, klen9, hlen9, kbgtr3, kbneq3, kbneq9, kbeql9, kbeql4, klen23, hlen23, kblss3, kia23, kld9, kbsub3, kbadd3, kbeql3, kbs23_1_0, kbneq4, kbs23_0, kcv5_3, kbrem3, kst9, kbneq24, kbgeq3, ksl23_010z, ksl23_010, kbeql24, kblss5, kbgtr5, kbneq5, kbeql5, ksl23_011, ksl23_011z, kbquo3, kbmul3, kal58, ksl23_100z, ksl23_100, kmin3_ff, kfa58_1, kld56, kst56, hd0, guardK_u]
    exact hK w1 qq1
  have h0 := Decidable.not_not.1 h0n
  have hd0 : decide ((parseL a).1 = 0) = true := decide_eq_true h0
  simp (maxSteps := 1000000) (disch := omega) only [hid1', hid2', guardK_u, takeG_u, wrap_in64, optK_some', fzK_false', nilK_ptr, brK_true', brK_false', guardK_tt', guardK_ff', guardK_tf', guardK_ft', takeG_tt', takeG_ff', takeG_tf', takeG_ft', pickK_t', pickK_f', pickT_t', pickT_f', notK, extract2_0', extract2_1', extract3_0', extract3_1', extract3_2', here_load, here_fieldAt, here_indexAt, here_extract, here_un, here_conv, here_slice, here_bin, here_nil, and_here, true_and, Nat.zero_add, Nat.add_assoc, Nat.add_zero, Int.toNat_natCast, size_alloc, World.cell?_drew, World.frozen?_drew, Bool.not_true, Bool.not_false, Int.toNat_zero, dec_t, dec_f, int_eq_t, int_eq_f, int_ne_t, int_ne_f, wrap_in, klen9, hlen9, kbgtr3, kbneq3, kbneq9, kbeql9, kbeql4, klen23, hlen23, kblss3, kia23, kld9, kbsub3, kbadd3, kbeql3, kbs23_1_0, kbneq4, kbs23_0, kcv5_3, kbrem3, kst9, kbneq24, kbgeq3, ksl23_010z, ksl23_010, kbeql24, kblss5, kbgtr5, kbneq5, kbeql5, ksl23_011, ksl23_011z, kbquo3, kbmul3, kal58, ksl23_100z, ksl23_100, kmin3_ff, kfa58_1, kld56, kst56, hd0]
  refine ck29 (isR_any (by omega) ?_)
  intro w2 q2
  have qq2 := qq1.trans q2
  by_cases hbn : ¬ (parseL b).1 = 0
  · have hd1 : decide ((parseL b).1 = 0) = false := decide_eq_false hbn
    simp (maxSteps := 1000000) (disch := omega) only [hid1', hid2', guardK_u, takeG_u, wrap_in64, optK_some', fzK_false', nilK_ptr, brK_true', brK_false', guardK_tt', guardK_ff', guardK_tf', guardK_ft', takeG_tt', takeG_ff', takeG_tf', takeG_ft', pickK_t', pickK_f', pickT_t', pickT_f', notK, extract2_0', extract2_1', extract3_0', extract3_1', extract3_2', here_load, here_fieldAt, here_indexAt, here_extract, here_un, here_conv, here_slice, here_bin, here_nil, and_here, true_and, Nat.zero_add, Nat.add_assoc, Nat.add_zero, Int.toNat_natCast, size_alloc, World.cell?_drew, World.frozen?_drew, Bool.not_true, Bool.not_false, Int.toNat_zero, dec_t, dec_f, int_eq_t, int_eq_f, int_ne_t, int_ne_f, wrap_in, klen9, hlen9, kbgtr3, kbneq3, kbneq9, kbeql9, kbeql4, klen23, hlen23, kblss3, kia23, kld9, kbsub3, kbadd3, kbeql3, kbs23_1_0, kbneq4, kbs23_0, kcv5_3, kbrem3, kst9, kbneq24, kbgeq3, ksl23_010z, ksl23_010, kbeql24, kblss5, kbgtr5, kbneq5, kbeql5, ksl23_011, ksl23_011z, kbquo3, kbmul3, kal58, ksl23_100z, ksl23_100, kmin3_ff, kfa58_1, kld56, kst56, hd1]
    exact hK w2 qq2
  have hb0 := Decidable.not_not.1 hbn
  have hd1 : decide ((parseL b).1 = 0) = true := decide_eq_true hb0
  simp (maxSteps := 1000000) (disch := omega) only [hid1', hid2', guardK_u, takeG_u, wrap_in64, optK_some', fzK_false', nilK_ptr, brK_true', brK_false', guardK_tt', guardK_ff', guardK_tf', guardK_ft', takeG_tt', takeG_ff', takeG_tf', takeG_ft', pickK_t', pickK_f', pickT_t', pickT_f', notK, extract2_0', extract2_1', extract3_0', extract3_1', extract3_2', here_load, here_fieldAt, here_indexAt, here_extract, here_un, here_conv, here_slice, here_bin, here_nil, and_here, true_and, Nat.zero_add, Nat.add_assoc, Nat.add_zero, Int.toNat_natCast, size_alloc, World.cell?_drew, World.frozen?_drew, Bool.not_true, Bool.not_false, Int.toNat_zero, dec_t, dec_f, int_eq_t, int_eq_f, int_ne_t, int_ne_f, wrap_in, klen9, hlen9, kbgtr3, kbneq3, kbneq9, kbeql9, kbeql4, klen23, hlen23, kblss3, kia23, kld9, kbsub3, kbadd3, kbeql3, kbs23_1_0, kbneq4, kbs23_0, kcv5_3, kbrem3, kst9, kbneq24, kbgeq3, ksl23_010z, ksl23_010, kbeql24, kblss5, kbgtr5, kbneq5, kbeql5, ksl23_011, ksl23_011z, kbquo3, kbmul3, kal58, ksl23_100z, ksl23_100, kmin3_ff, kfa58_1, kld56, kst56, hd1]
  have hcs := common_small h0 hb0
  have hu1 := common_under1 h0 hb0
  have hu2 := common_under2 h0 hb0
  have hcz := @common_zone a b h0 hb0
  have hself := common_self h0
  have hfull : pathL (parseL a).2 = a := path_of (parseL_ok h0).1
  refine ck25 (common_any (by omega) (by omega) (hm.quiet qq2) ?_)
  intro w3 q3
  have qq3 := qq2.trans q3
  generalize commonL a b = c at *
  simp (maxSteps := 1000000) (disch := omega) only [hid1', hid2', guardK_u, takeG_u, wrap_in64, optK_some', fzK_false', nilK_ptr, brK_true', brK_false', guardK_tt', guardK_ff', guardK_tf', guardK_ft', takeG_tt', takeG_ff', takeG_tf', takeG_ft', pickK_t', pickK_f', pickT_t', pickT_f', notK, extract2_0', extract2_1', extract3_0', extract3_1', extract3_2', here_load, here_fieldAt, here_indexAt, here_extract, here_un, here_conv, here_slice, here_bin, here_nil, and_here, true_and, Nat.zero_add, Nat.add_assoc, Nat.add_zero, Int.toNat_natCast, size_alloc, World.cell?_drew, World.frozen?_drew, Bool.not_true, Bool.not_false, Int.toNat_zero, dec_t, dec_f, int_eq_t, int_eq_f, int_ne_t, int_ne_f, wrap_in, klen9, hlen9, kbgtr3, kbneq3, kbneq9, kbeql9, kbeql4, klen23, hlen23, kblss3, kia23, kld9, kbsub3, kbadd3, kbeql3, kbs23_1_0, kbneq4, kbs23_0, kcv5_3, kbrem3, kst9, kbneq24, kbgeq3, ksl23_010z, ksl23_010, kbeql24, kblss5, kbgtr5, kbneq5, kbeql5, ksl23_011, ksl23_011z, kbquo3, kbmul3, kal58, ksl23_100z, ksl23_100, kmin3_ff, kfa58_1, kld56, kst56]
  refine ck23 (under_any (by omega) hcs (hm.quiet qq3) ?_)
  intro w4 q4
  have qq4 := qq3.trans q4
  rw [hu1]
  simp (maxSteps := 1000000) (disch := omega) only [hid1', hid2', guardK_u, takeG_u, wrap_in64, optK_some', fzK_false', nilK_ptr, brK_true', brK_false', guardK_tt', guardK_ff', guardK_tf', guardK_ft', takeG_tt', takeG_ff', takeG_tf', takeG_ft', pickK_t', pickK_f', pickT_t', pickT_f', notK, extract2_0', extract2_1', extract3_0', extract3_1', extract3_2', here_load, here_fieldAt, here_indexAt, here_extract, here_un, here_conv, here_slice, here_bin, here_nil, and_here, true_and, Nat.zero_add, Nat.add_assoc, Nat.add_zero, Int.toNat_natCast, size_alloc, World.cell?_drew, World.frozen?_drew, Bool.not_true, Bool.not_false, Int.toNat_zero, dec_t, dec_f, int_eq_t, int_eq_f, int_ne_t, int_ne_f, wrap_in, klen9, hlen9, kbgtr3, kbneq3, kbneq9, kbeql9, kbeql4, klen23, hlen23, kblss3, kia23, kld9, kbsub3, kbadd3, kbeql3, kbs23_1_0, kbneq4, kbs23_0, kcv5_3, kbrem3, kst9, kbneq24, kbgeq3, ksl23_010z, ksl23_010, kbeql24, kblss5, kbgtr5, kbneq5, kbeql5, ksl23_011, ksl23_011z, kbquo3, kbmul3, kal58, ksl23_100z, ksl23_100, kmin3_ff, kfa58_1, kld56, kst56]
  refine ck23 (under_any (by omega) hcs (hm.quiet qq4) ?_)
  intro w5 q5
  have qq5 := qq4.trans q5
  rw [hu2]
  simp (maxSteps := 1000000) (disch := omega) only [hid1', hid2', guardK_u, takeG_u, wrap_in64, optK_some', fzK_false', nilK_ptr, brK_true', brK_false', guardK_tt', guardK_ff', guardK_tf', guardK_ft', takeG_tt', takeG_ff', takeG_tf', takeG_ft', pickK_t', pickK_f', pickT_t', pickT_f', notK, extract2_0', extract2_1', extract3_0', extract3_1', extract3_2', here_load, here_fieldAt, here_indexAt, here_extract, here_un, here_conv, here_slice, here_bin, here_nil, and_here, true_and, Nat.zero_add, Nat.add_assoc, Nat.add_zero, Int.toNat_natCast, size_alloc, World.cell?_drew, World.frozen?_drew, Bool.not_true, Bool.not_false, Int.toNat_zero, dec_t, dec_f, int_eq_t, int_eq_f, int_ne_t, int_ne_f, wrap_in, klen9, hlen9, kbgtr3, kbneq3, kbneq9, kbeql9, kbeql4, klen23, hlen23, kblss3, kia23, kld9, kbsub3, kbadd3, kbeql3, kbs23_1_0, kbneq4, kbs23_0, kcv5_3, kbrem3, kst9, kbneq24, kbgeq3, ksl23_010z, ksl23_010, kbeql24, kblss5, kbgtr5, kbneq5, kbeql5, ksl23_011, ksl23_011z, kbquo3, kbmul3, kal58, ksl23_100z, ksl23_100, kmin3_ff, kfa58_1, kld56, kst56]
  refine ck25 (common_any (by omega) (by omega) (hm.quiet qq5) ?_)
  intro w6 q6
  have qq6 := qq5.trans q6
  rw [hself]
  simp (maxSteps := 1000000) (disch := omega) only [hid1', hid2', guardK_u, takeG_u, wrap_in64, optK_some', fzK_false', nilK_ptr, brK_true', brK_false', guardK_tt', guardK_ff', guardK_tf', guardK_ft', takeG_tt', takeG_ff', takeG_tf', takeG_ft', pickK_t', pickK_f', pickT_t', pickT_f', notK, extract2_0', extract2_1', extract3_0', extract3_1', extract3_2', here_load, here_fieldAt, here_indexAt, here_extract, here_un, here_conv, here_slice, here_bin, here_nil, and_here, true_and, Nat.zero_add, Nat.add_assoc, Nat.add_zero, Int.toNat_natCast, size_alloc, World.cell?_drew, World.frozen?_drew, Bool.not_true, Bool.not_false, Int.toNat_zero, dec_t, dec_f, int_eq_t, int_eq_f, int_ne_t, int_ne_f, wrap_in, klen9, hlen9, kbgtr3, kbneq3, kbneq9, kbeql9, kbeql4, klen23, hlen23, kblss3, kia23, kld9, kbsub3, kbadd3, kbeql3, kbs23_1_0, kbneq4, kbs23_0, kcv5_3, kbrem3, kst9, kbneq24, kbgeq3, ksl23_010z, ksl23_010, kbeql24, kblss5, kbgtr5, kbneq5, kbeql5, ksl23_011, ksl23_011z, kbquo3, kbmul3, kal58, ksl23_100z, ksl23_100, kmin3_ff, kfa58_1, kld56, kst56, hd, eq_txt]
  refine ck20 (zones_any (by omega) (hm.quiet qq6) ?_)
  intro A cc F w7 o7 q7 f7
  have qq7 := qq6.trans q7
  have hn := len_small a
  have r7 := Reads.of_own o7
  have hA : (parseL a).2.length = 0 ∧ A = none ∨ ∃ g, A = some ⟨g, 0, none⟩ := by
    rcases (own_nil_or o7).2 with ⟨h, h', _⟩ | h
    · exact .inl ⟨h, h'⟩
    · exact .inr h
  clear o7
  simp (maxSteps := 1000000) (disch := omega) only [hid1', hid2', guardK_u, takeG_u, wrap_in64, optK_some', fzK_false', nilK_ptr, brK_true', brK_false', guardK_tt', guardK_ff', guardK_tf', guardK_ft', takeG_tt', takeG_ff', takeG_tf', takeG_ft', pickK_t', pickK_f', pickT_t', pickT_f', notK, extract2_0', extract2_1', extract3_0', extract3_1', extract3_2', here_load, here_fieldAt, here_indexAt, here_extract, here_un, here_conv, here_slice, here_bin, here_nil, and_here, true_and, Nat.zero_add, Nat.add_assoc, Nat.add_zero, Int.toNat_natCast, size_alloc, World.cell?_drew, World.frozen?_drew, Bool.not_true, Bool.not_false, Int.toNat_zero, dec_t, dec_f, int_eq_t, int_eq_f, int_ne_t, int_ne_f, wrap_in, klen9, hlen9, kbgtr3, kbneq3, kbneq9, kbeql9, kbeql4, klen23, hlen23, kblss3, kia23, kld9, kbsub3, kbadd3, kbeql3, kbs23_1_0, kbneq4, kbs23_0, kcv5_3, kbrem3, kst9, kbneq24, kbgeq3, ksl23_010z, ksl23_010, kbeql24, kblss5, kbgtr5, kbneq5, kbeql5, ksl23_011, ksl23_011z, kbquo3, kbmul3, kal58, ksl23_100z, ksl23_100, kmin3_ff, kfa58_1, kld56, kst56]
  obtain ⟨A8, c8, F8, w8, p8, o8, q8⟩ := full_push r7 (by rw [strs_len]; exact zones_len' a) hA (by omega) (.string (txt a)) rfl
  refine appK p8 ?_
  have qq8 := qq7.trans q8
  have r8 := Reads.of_own o8
  have ez : strs (zonesL a) ++ [.string (txt a)] = strs (zonesL a ++ [a]) := by simp [strs]
  rw [ez] at r8
  clear o8 p8
  have zs := @zone_small a h0
  have cell : ∀ i, i < (parseL a).2.length + 1 → ∃ g o, A8 = some ⟨g, o, none⟩ ∧ ∀ w'', Qt w8 w'' → w''.cell? ⟨g, o + i, none⟩ = some (.string (txt (pathL ((parseL a).2.take i)))) := fun i hi => by
    have hl : (zonesL a ++ [a]).length = (parseL a).2.length + 1 := by rw [List.length_append, zones_len' a]; rfl
    have hi' : i < (zonesL a ++ [a]).length := by omega
    obtain ⟨g, o, hA, hc⟩ := strs_at r8 hi'
    refine ⟨g, o, hA, fun w'' q => ?_⟩
    have e : (zonesL a ++ [a])[i] = pathL ((parseL a).2.take i) := by
      by_cases hlt : i < (zonesL a).length
      · rw [List.getElem_append_left hlt]; exact zones_get a i hlt
      · have hzl := zones_len' a
        rw [List.getElem_append_right (by omega)]
        have e2 : pathL ((parseL a).2.take i) = a := by rw [List.take_of_length_le (by omega), hfull]
        rw [e2, List.getElem_singleton]
    rw [e] at hc
    exact q.cell hc (fun h => h)
  clear ez r8 r7 hfull hself
  generalize (parseL a).2 = ps at *
  simp (maxSteps := 1000000) (disch := omega) only [hid1', hid2', guardK_u, takeG_u, wrap_in64, optK_some', fzK_false', nilK_ptr, brK_true', brK_false', guardK_tt', guardK_ff', guardK_tf', guardK_ft', takeG_tt', takeG_ff', takeG_tf', takeG_ft', pickK_t', pickK_f', pickT_t', pickT_f', notK, extract2_0', extract2_1', extract3_0', extract3_1', extract3_2', here_load, here_fieldAt, here_indexAt, here_extract, here_un, here_conv, here_slice, here_bin, here_nil, and_here, true_and, Nat.zero_add, Nat.add_assoc, Nat.add_zero, Int.toNat_natCast, size_alloc, World.cell?_drew, World.frozen?_drew, Bool.not_true, Bool.not_false, Int.toNat_zero, dec_t, dec_f, int_eq_t, int_eq_f, int_ne_t, int_ne_f, wrap_in, klen9, hlen9, kbgtr3, kbneq3, kbneq9, kbeql9, kbeql4, klen23, hlen23, kblss3, kia23, kld9, kbsub3, kbadd3, kbeql3, kbs23_1_0, kbneq4, kbs23_0, kcv5_3, kbrem3, kst9, kbneq24, kbgeq3, ksl23_010z, ksl23_010, kbeql24, kblss5, kbgtr5, kbneq5, kbeql5, ksl23_011, ksl23_011z, kbquo3, kbmul3, kal58, ksl23_100z, ksl23_100, kmin3_ff, kfa58_1, kld56, kst56]
  refine loopK1 (fun v w' => Qt w8 w' ∧ ∃ i : Nat, v = .int .i64 i ∧ i ≤ ps.length + 1) (fun v _ => ps.length + 1 - (intOf v).toNat) ⟨Qt.refl, 0, rfl, by omega⟩ ?_
  rintro _ _ w' ⟨q, i, rfl, hi⟩
  have qq := qq8.trans q
  by_cases hlt : i < ps.length + 1
  · obtain ⟨g, o, rfl, hc⟩ := cell i hlt
    have hci := hcz i (by omega)
    have hlt' : (i : Int) < ((ps.length + 1 : Nat) : Int) := by omega
    simp (maxSteps := 1000000) (disch := omega) only [hid1', hid2', guardK_u, takeG_u, wrap_in64, optK_some', fzK_false', nilK_ptr, brK_true', brK_false', guardK_tt', guardK_ff', guardK_tf', guardK_ft', takeG_tt', takeG_ff', takeG_tf', takeG_ft', pickK_t', pickK_f', pickT_t', pickT_f', notK, extract2_0', extract2_1', extract3_0', extract3_1', extract3_2', here_load, here_fieldAt, here_indexAt, here_extract, here_un, here_conv, here_slice, here_bin, here_nil, and_here, true_and, Nat.zero_add, Nat.add_assoc, Nat.add_zero, Int.toNat_natCast, size_alloc, World.cell?_drew, World.frozen?_drew, Bool.not_true, Bool.not_false, Int.toNat_zero, dec_t, dec_f, int_eq_t, int_eq_f, int_ne_t, int_ne_f, wrap_in, klen9, hlen9, kbgtr3, kbneq3, kbneq9, kbeql9, kbeql4, klen23, hlen23, kblss3, kia23, kld9, kbsub3, kbadd3, kbeql3, kbs23_1_0, kbneq4, kbs23_0, kcv5_3, kbrem3, kst9, kbneq24, kbgeq3, ksl23_010z, ksl23_010, kbeql24, kblss5, kbgtr5, kbneq5, kbeql5, ksl23_011, ksl23_011z, kbquo3, kbmul3, kal58, ksl23_100z, ksl23_100, kmin3_ff, kfa58_1, kld56, kst56]
    refine drawK_by (fun w'' => Qt w' w'') (Qt.drew Qt.refl) ?_
    refine take_index (.pointer (some ⟨g, o + i, none⟩)) (fun w'' _ => by (simp (maxSteps := 1000000) (disch := omega) only [hid1', hid2', guardK_u, takeG_u, wrap_in64, optK_some', fzK_false', nilK_ptr, brK_true', brK_false', guardK_tt', guardK_ff', guardK_tf', guardK_ft', takeG_tt', takeG_ff', takeG_tf', takeG_ft', pickK_t', pickK_f', pickT_t', pickT_f', notK, extract2_0', extract2_1', extract3_0', extract3_1', extract3_2', here_load, here_fieldAt, here_indexAt, here_extract, here_un, here_conv, here_slice, here_bin, here_nil, and_here, true_and, Nat.zero_add, Nat.add_assoc, Nat.add_zero, Int.toNat_natCast, size_alloc, World.cell?_drew, World.frozen?_drew, Bool.not_true, Bool.not_false, Int.toNat_zero, dec_t, dec_f, int_eq_t, int_eq_f, int_ne_t, int_ne_f, wrap_in, klen9, hlen9, kbgtr3, kbneq3, kbneq9, kbeql9, kbeql4, klen23, hlen23, kblss3, kia23, kld9, kbsub3, kbadd3, kbeql3, kbs23_1_0, kbneq4, kbs23_0, kcv5_3, kbrem3, kst9, kbneq24, kbgeq3, ksl23_010z, ksl23_010, kbeql24, kblss5, kbgtr5, kbneq5, kbeql5, ksl23_011, ksl23_011z, kbquo3, kbmul3, kal58, ksl23_100z, ksl23_100, kmin3_ff, kfa58_1, kld56, kst56]; try (exact ⟨trivial, trivial⟩))) ?_
    refine take_of _ (fun w'' hw => cell_load (hc w'' (q.trans hw))) ?_
    refine take_index (.pointer (some ⟨g, o + i, none⟩)) (fun w'' _ => by (simp (maxSteps := 1000000) (disch := omega) only [hid1', hid2', guardK_u, takeG_u, wrap_in64, optK_some', fzK_false', nilK_ptr, brK_true', brK_false', guardK_tt', guardK_ff', guardK_tf', guardK_ft', takeG_tt', takeG_ff', takeG_tf', takeG_ft', pickK_t', pickK_f', pickT_t', pickT_f', notK, extract2_0', extract2_1', extract3_0', extract3_1', extract3_2', here_load, here_fieldAt, here_indexAt, here_extract, here_un, here_conv, here_slice, here_bin, here_nil, and_here, true_and, Nat.zero_add, Nat.add_assoc, Nat.add_zero, Int.toNat_natCast, size_alloc, World.cell?_drew, World.frozen?_drew, Bool.not_true, Bool.not_false, Int.toNat_zero, dec_t, dec_f, int_eq_t, int_eq_f, int_ne_t, int_ne_f, wrap_in, klen9, hlen9, kbgtr3, kbneq3, kbneq9, kbeql9, kbeql4, klen23, hlen23, kblss3, kia23, kld9, kbsub3, kbadd3, kbeql3, kbs23_1_0, kbneq4, kbs23_0, kcv5_3, kbrem3, kst9, kbneq24, kbgeq3, ksl23_010z, ksl23_010, kbeql24, kblss5, kbgtr5, kbneq5, kbeql5, ksl23_011, ksl23_011z, kbquo3, kbmul3, kal58, ksl23_100z, ksl23_100, kmin3_ff, kfa58_1, kld56, kst56]; try (exact ⟨trivial, trivial⟩))) ?_
    refine take_of _ (fun w'' hw => cell_load (hc w'' (q.trans hw))) ?_
    refine ⟨ck23 (under_any (by omega) (zs i) (hm.quiet (qq.trans (Qt.drew Qt.refl))) ?_), trivial⟩
    intro w9 q9
    have q9' : Qt w' w9 := (Qt.drew Qt.refl).trans q9
    simp (maxSteps := 1000000) (disch := omega) only [hid1', hid2', guardK_u, takeG_u, wrap_in64, optK_some', fzK_false', nilK_ptr, brK_true', brK_false', guardK_tt', guardK_ff', guardK_tf', guardK_ft', takeG_tt', takeG_ff', takeG_tf', takeG_ft', pickK_t', pickK_f', pickT_t', pickT_f', notK, extract2_0', extract2_1', extract3_0', extract3_1', extract3_2', here_load, here_fieldAt, here_indexAt, here_extract, here_un, here_conv, here_slice, here_bin, here_nil, and_here, true_and, Nat.zero_add, Nat.add_assoc, Nat.add_zero, Int.toNat_natCast, size_alloc, World.cell?_drew, World.frozen?_drew, Bool.not_true, Bool.not_false, Int.toNat_zero, dec_t, dec_f, int_eq_t, int_eq_f, int_ne_t, int_ne_f, wrap_in, klen9, hlen9, kbgtr3, kbneq3, kbneq9, kbeql9, kbeql4, klen23, hlen23, kblss3, kia23, kld9, kbsub3, kbadd3, kbeql3, kbs23_1_0, kbneq4, kbs23_0, kcv5_3, kbrem3, kst9, kbneq24, kbgeq3, ksl23_010z, ksl23_010, kbeql24, kblss5, kbgtr5, kbneq5, kbeql5, ksl23_011, ksl23_011z, kbquo3, kbmul3, kal58, ksl23_100z, ksl23_100, kmin3_ff, kfa58_1, kld56, kst56]
    refine ⟨q9', ck23 (under_any hcs (zs i) (hm.quiet (qq.trans q9')) ?_), trivial⟩
    intro w10 q10
    have q10' := q9'.trans q10
    rw [← hci]
    generalize underL b (pathL (ps.take i)) = u at *
    have hne : (u != u) = false := bne_self_eq_false _
    simp (maxSteps := 1000000) (disch := omega) only [hid1', hid2', guardK_u, takeG_u, wrap_in64, optK_some', fzK_false', nilK_ptr, brK_true', brK_false', guardK_tt', guardK_ff', guardK_tf', guardK_ft', takeG_tt', takeG_ff', takeG_tf', takeG_ft', pickK_t', pickK_f', pickT_t', pickT_f', notK, extract2_0', extract2_1', extract3_0', extract3_1', extract3_2', here_load, here_fieldAt, here_indexAt, here_extract, here_un, here_conv, here_slice, here_bin, here_nil, and_here, true_and, Nat.zero_add, Nat.add_assoc, Nat.add_zero, Int.toNat_natCast, size_alloc, World.cell?_drew, World.frozen?_drew, Bool.not_true, Bool.not_false, Int.toNat_zero, dec_t, dec_f, int_eq_t, int_eq_f, int_ne_t, int_ne_f, wrap_in, klen9, hlen9, kbgtr3, kbneq3, kbneq9, kbeql9, kbeql4, klen23, hlen23, kblss3, kia23, kld9, kbsub3, kbadd3, kbeql3, kbs23_1_0, kbneq4, kbs23_0, kcv5_3, kbrem3, kst9, kbneq24, kbgeq3, ksl23_010z, ksl23_010, kbeql24, kblss5, kbgtr5, kbneq5, kbeql5, ksl23_011, ksl23_011z, kbquo3, kbmul3, kal58, ksl23_100z, ksl23_100, kmin3_ff, kfa58_1, kld56, kst56]
    refine ⟨q10', ?_⟩
    refine take_bin (.bool false) (fun w'' _ => by (simp (maxSteps := 1000000) (disch := omega) only [hid1', hid2', guardK_u, takeG_u, wrap_in64, optK_some', fzK_false', nilK_ptr, brK_true', brK_false', guardK_tt', guardK_ff', guardK_tf', guardK_ft', takeG_tt', takeG_ff', takeG_tf', takeG_ft', pickK_t', pickK_f', pickT_t', pickT_f', notK, extract2_0', extract2_1', extract3_0', extract3_1', extract3_2', here_load, here_fieldAt, here_indexAt, here_extract, here_un, here_conv, here_slice, here_bin, here_nil, and_here, true_and, Nat.zero_add, Nat.add_assoc, Nat.add_zero, Int.toNat_natCast, size_alloc, World.cell?_drew, World.frozen?_drew, Bool.not_true, Bool.not_false, Int.toNat_zero, dec_t, dec_f, int_eq_t, int_eq_f, int_ne_t, int_ne_f, wrap_in, klen9, hlen9, kbgtr3, kbneq3, kbneq9, kbeql9, kbeql4, klen23, hlen23, kblss3, kia23, kld9, kbsub3, kbadd3, kbeql3, kbs23_1_0, kbneq4, kbs23_0, kcv5_3, kbrem3, kst9, kbneq24, kbgeq3, ksl23_010z, ksl23_010, kbeql24, kblss5, kbgtr5, kbneq5, kbeql5, ksl23_011, ksl23_011z, kbquo3, kbmul3, kal58, ksl23_100z, ksl23_100, kmin3_ff, kfa58_1, kld56, kst56, hne]; try (exact ⟨trivial, trivial⟩))) ?_
    simp (maxSteps := 1000000) (disch := omega) only [hid1', hid2', guardK_u, takeG_u, wrap_in64, optK_some', fzK_false', nilK_ptr, brK_true', brK_false', guardK_tt', guardK_ff', guardK_tf', guardK_ft', takeG_tt', takeG_ff', takeG_tf', takeG_ft', pickK_t', pickK_f', pickT_t', pickT_f', notK, extract2_0', extract2_1', extract3_0', extract3_1', extract3_2', here_load, here_fieldAt, here_indexAt, here_extract, here_un, here_conv, here_slice, here_bin, here_nil, and_here, true_and, Nat.zero_add, Nat.add_assoc, Nat.add_zero, Int.toNat_natCast, size_alloc, World.cell?_drew, World.frozen?_drew, Bool.not_true, Bool.not_false, Int.toNat_zero, dec_t, dec_f, int_eq_t, int_eq_f, int_ne_t, int_ne_f, wrap_in, klen9, hlen9, kbgtr3, kbneq3, kbneq9, kbeql9, kbeql4, klen23, hlen23, kblss3, kia23, kld9, kbsub3, kbadd3, kbeql3, kbs23_1_0, kbneq4, kbs23_0, kcv5_3, kbrem3, kst9, kbneq24, kbgeq3, ksl23_010z, ksl23_010, kbeql24, kblss5, kbgtr5, kbneq5, kbeql5, ksl23_011, ksl23_011z, kbquo3, kbmul3, kal58, ksl23_100z, ksl23_100, kmin3_ff, kfa58_1, kld56, kst56]
    exact ⟨⟨q.trans q10', i + 1, by go_num, by omega⟩, by simp [rel, intOf]; omega⟩
  · simp (maxSteps := 1000000) (disch := omega) only [hid1', hid2', guardK_u, takeG_u, wrap_in64, optK_some', fzK_false', nilK_ptr, brK_true', brK_false', guardK_tt', guardK_ff', guardK_tf', guardK_ft', takeG_tt', takeG_ff', takeG_tf', takeG_ft', pickK_t', pickK_f', pickT_t', pickT_f', notK, extract2_0', extract2_1', extract3_0', extract3_1', extract3_2', here_load, here_fieldAt, here_indexAt, here_extract, here_un, here_conv, here_slice, here_bin, here_nil, and_here, true_and, Nat.zero_add, Nat.add_assoc, Nat.add_zero, Int.toNat_natCast, size_alloc, World.cell?_drew, World.frozen?_drew, Bool.not_true, Bool.not_false, Int.toNat_zero, dec_t, dec_f, int_eq_t, int_eq_f, int_ne_t, int_ne_f, wrap_in, klen9, hlen9, kbgtr3, kbneq3, kbneq9, kbeql9, kbeql4, klen23, hlen23, kblss3, kia23, kld9, kbsub3, kbadd3, kbeql3, kbs23_1_0, kbneq4, kbs23_0, kcv5_3, kbrem3, kst9, kbneq24, kbgeq3, ksl23_010z, ksl23_010, kbeql24, kblss5, kbgtr5, kbneq5, kbeql5, ksl23_011, ksl23_011z, kbquo3, kbmul3, kal58, ksl23_100z, ksl23_100, kmin3_ff, kfa58_1, kld56, kst56]
    exact hK w' qq
theorem pathCommon_walk (a b : ByteArray) (w : World) (hm : MaxAt w) (ya : a.size ≤ 9223372036854775807) (yb : b.size ≤ 9223372036854775807) :
    Calls Tryd.prog 6 #[.string a, .string b] w fun e w' => e = .returned (.bool true) ∧ Below w.heap.size w w' := by
  refine callK_ret fun R hR => ?_
  rw [← txt_list a, ← txt_list b]
  exact pathCommon_any hm (fun w' q => hR w' (Qt.below q))
end Go.Proofs.YtnlfnkblhnnaoaaDoor
