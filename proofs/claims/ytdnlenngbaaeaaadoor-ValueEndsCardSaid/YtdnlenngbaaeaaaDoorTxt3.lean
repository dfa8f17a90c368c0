/- The document's ValueText. Conditions: the rows read, at most 100 numbers. -/
import Derived.Test.YtdnlenngbaaeaaaDoorTxt2
set_option linter.unusedVariables false
set_option linter.unusedSimpArgs false
set_option maxRecDepth 100000
namespace Go.Proofs.YtdnlenngbaaeaaaDoor
open Go.RowKit Go.Cn
theorem joinS_snoc (p : List (List UInt8)) (q : List UInt8) : joinS (p ++ [q]) = if p = [] then q else joinS p ++ 32 :: q := by
  cases p with
  | nil => simp [joinS]
  | cons a r => simp [joinS, List.flatMap_append]
set_option maxHeartbeats 1000000 in
theorem text17 {a : Val} {A : Option Addr} {c : Nat} {w : World} {K : Value → World → Prop} (ha : Reads w A (ints a.2.2.2)) (la : a.2.2.2.length ≤ 100) (ls : a.2.2.1.size ≤ 100000) (hi : in64 a.2.1) (hl : ∀ x ∈ a.2.2.2, in64 x)
    (hK : ∀ w', Qt w w' → K (.string (txt (textV a))) w') : CallK Tryd.prog 17 #[vv a A c] K w := by
  refine F17_calls _ _ _ ?_; unfold F17
  obtain ⟨q1, h1⟩ := box4 w a A c 28
  simp (maxSteps := 1000000) (disch := omega) only [hid1', hid2', guardK_u, takeG_u, wrap_in64, optK_some', fzK_false', nilK_ptr, brK_true', brK_false', guardK_tt', guardK_ff', guardK_tf', guardK_ft', takeG_tt', takeG_ff', takeG_tf', takeG_ft', pickK_t', pickK_f', pickT_t', pickT_f', notK, extract2_0', extract2_1', extract3_0', extract3_1', extract3_2', here_load, here_fieldAt, here_indexAt, here_extract, here_un, here_conv, here_slice, here_bin, here_nil, and_here, true_and, Nat.zero_add, Nat.add_assoc, Nat.add_zero, Int.toNat_natCast, size_alloc, World.cell?_drew, World.frozen?_drew, Bool.not_true, Bool.not_false, Int.toNat_zero, dec_t, dec_f, int_eq_t, int_eq_f, int_ne_t, int_ne_f, wrap_in, kbeql3, kbgtr3, kld3, kfa28_0, kblss3, kbadd3, kld22, klen22, hlen22, kld9, kbx28, kfa28_2, kfa28_3, kia22, kld2, kfa28_1]
  generalize (w.alloc (.cells #[.int .i64 a.1, .int .i64 a.2.1, .string a.2.2.1, .slice A a.2.2.2.length c] 28)) = w1 at *
  generalize w.heap.size = b1 at *
  have X := fun w' (q : Qt w1 w') => cell4 (q.heap h1 (fun h => h))
  obtain ⟨x0, x1, x2, x3⟩ := X w1 Qt.refl
  have ha1 := ha.quiet q1
  have hf := fun w' (q : Qt w1 w') => hK w' (q1.trans q)
  unfold textV at hf
  by_cases k1 : a.1 = 1
  · rw [if_pos k1] at hf
    have e2 : (a.1 == 1) = true := by rw [k1]; rfl
    simp (maxSteps := 1000000) (disch := omega) only [hid1', hid2', guardK_u, takeG_u, wrap_in64, optK_some', fzK_false', nilK_ptr, brK_true', brK_false', guardK_tt', guardK_ff', guardK_tf', guardK_ft', takeG_tt', takeG_ff', takeG_tf', takeG_ft', pickK_t', pickK_f', pickT_t', pickT_f', notK, extract2_0', extract2_1', extract3_0', extract3_1', extract3_2', here_load, here_fieldAt, here_indexAt, here_extract, here_un, here_conv, here_slice, here_bin, here_nil, and_here, true_and, Nat.zero_add, Nat.add_assoc, Nat.add_zero, Int.toNat_natCast, size_alloc, World.cell?_drew, World.frozen?_drew, Bool.not_true, Bool.not_false, Int.toNat_zero, dec_t, dec_f, int_eq_t, int_eq_f, int_ne_t, int_ne_f, wrap_in, kbeql3, kbgtr3, kld3, kfa28_0, kblss3, kbadd3, kld22, klen22, hlen22, kld9, kbx28, kfa28_2, kfa28_3, kia22, kld2, kfa28_1, x0, e2, x1]
    refine ck41 (dec41 hi ?_)
    intro w2 q2
    simp (maxSteps := 1000000) (disch := omega) only [hid1', hid2', guardK_u, takeG_u, wrap_in64, optK_some', fzK_false', nilK_ptr, brK_true', brK_false', guardK_tt', guardK_ff', guardK_tf', guardK_ft', takeG_tt', takeG_ff', takeG_tf', takeG_ft', pickK_t', pickK_f', pickT_t', pickT_f', notK, extract2_0', extract2_1', extract3_0', extract3_1', extract3_2', here_load, here_fieldAt, here_indexAt, here_extract, here_un, here_conv, here_slice, here_bin, here_nil, and_here, true_and, Nat.zero_add, Nat.add_assoc, Nat.add_zero, Int.toNat_natCast, size_alloc, World.cell?_drew, World.frozen?_drew, Bool.not_true, Bool.not_false, Int.toNat_zero, dec_t, dec_f, int_eq_t, int_eq_f, int_ne_t, int_ne_f, wrap_in, kbeql3, kbgtr3, kld3, kfa28_0, kblss3, kbadd3, kld22, klen22, hlen22, kld9, kbx28, kfa28_2, kfa28_3, kia22, kld2, kfa28_1]
    exact hf w2 q2
  · have n1 : (a.1 == 1) = false := beq_eq_false_iff_ne.2 k1
    rw [if_neg k1] at hf
    by_cases k2 : a.1 = 2
    · rw [if_pos k2] at hf
      have e2 : (a.1 == 2) = true := by rw [k2]; rfl
      obtain ⟨l, hs⟩ : ∃ l, a.2.2.1 = txt l := ⟨a.2.2.1.data.toList, (txt_list _).symm⟩
      rw [hs, txt_data] at hf
      rw [hs, txt_size] at ls
      rw [hs] at x2
      have g1 : [(34 : UInt8)].length + l.length ≤ 9223372036854775807 := by simp; omega
      have g2 : ([(34 : UInt8)] ++ l).length + [(34 : UInt8)].length ≤ 9223372036854775807 := by simp; omega
      simp (maxSteps := 1000000) (disch := omega) only [hid1', hid2', guardK_u, takeG_u, wrap_in64, optK_some', fzK_false', nilK_ptr, brK_true', brK_false', guardK_tt', guardK_ff', guardK_tf', guardK_ft', takeG_tt', takeG_ff', takeG_tf', takeG_ft', pickK_t', pickK_f', pickT_t', pickT_f', notK, extract2_0', extract2_1', extract3_0', extract3_1', extract3_2', here_load, here_fieldAt, here_indexAt, here_extract, here_un, here_conv, here_slice, here_bin, here_nil, and_here, true_and, Nat.zero_add, Nat.add_assoc, Nat.add_zero, Int.toNat_natCast, size_alloc, World.cell?_drew, World.frozen?_drew, Bool.not_true, Bool.not_false, Int.toNat_zero, dec_t, dec_f, int_eq_t, int_eq_f, int_ne_t, int_ne_f, wrap_in, kbeql3, kbgtr3, kld3, kfa28_0, kblss3, kbadd3, kld22, klen22, hlen22, kld9, kbx28, kfa28_2, kfa28_3, kia22, kld2, kfa28_1, x0, n1, e2, x2, c34, add9 _ _ g1, add9 _ _ g2]
      exact hf w1 Qt.refl
    · have n2 : (a.1 == 2) = false := beq_eq_false_iff_ne.2 k2
      rw [if_neg k2] at hf
      by_cases k3 : a.1 = 3
      · rw [if_pos k3] at hf
        have e2 : (a.1 == 3) = true := by rw [k3]; rfl
        generalize a.2.2.2 = l at *
        simp (maxSteps := 1000000) (disch := omega) only [hid1', hid2', guardK_u, takeG_u, wrap_in64, optK_some', fzK_false', nilK_ptr, brK_true', brK_false', guardK_tt', guardK_ff', guardK_tf', guardK_ft', takeG_tt', takeG_ff', takeG_tf', takeG_ft', pickK_t', pickK_f', pickT_t', pickT_f', notK, extract2_0', extract2_1', extract3_0', extract3_1', extract3_2', here_load, here_fieldAt, here_indexAt, here_extract, here_un, here_conv, here_slice, here_bin, here_nil, and_here, true_and, Nat.zero_add, Nat.add_assoc, Nat.add_zero, Int.toNat_natCast, size_alloc, World.cell?_drew, World.frozen?_drew, Bool.not_true, Bool.not_false, Int.toNat_zero, dec_t, dec_f, int_eq_t, int_eq_f, int_ne_t, int_ne_f, wrap_in, kbeql3, kbgtr3, kld3, kfa28_0, kblss3, kbadd3, kld22, klen22, hlen22, kld9, kbx28, kfa28_2, kfa28_3, kia22, kld2, kfa28_1, x0, n1, n2, e2]
        refine loopK2 (fun s v w' => ∃ i : Nat, v = .int .i64 i ∧ i ≤ l.length ∧ s = .string (txt (91 :: joinS ((l.take i).map Lib.itoa))) ∧ Qt w1 w') (fun _ v _ => l.length - (intOf v).toNat) ⟨0, rfl, by omega, rfl, Qt.refl⟩ ?_
        rintro _ _ _ w2 ⟨i, rfl, hil, rfl, q2⟩
        obtain ⟨u0, u1, u2, u3⟩ := X w2 q2
        have hjl := joins_len (l.take i) (fun x hx => hl x (List.mem_of_mem_take hx))
        rw [List.length_take] at hjl
        by_cases hlt : i < l.length
        · obtain ⟨b, o, rfl, z1⟩ := int_at (ha1.quiet q2) hlt
          have hin := hl l[i] (List.getElem_mem hlt)
          have hg : l.getD i 0 = l[i] := by simp [hlt]
          have htk : l.take (i + 1) = l.take i ++ [l[i]] := List.take_succ_eq_append_getElem hlt
          have hsn := joinS_snoc ((l.take i).map Lib.itoa) (Lib.itoa l[i])
          have htm : (l.take (i + 1)).map Lib.itoa = (l.take i).map Lib.itoa ++ [Lib.itoa l[i]] := by rw [htk, List.map_append]; rfl
          rw [← htm] at hsn
          rw [hg] at z1
          have hxl := itoa_len hin
          generalize l[i] = x at *
          simp (maxSteps := 1000000) (disch := omega) only [hid1', hid2', guardK_u, takeG_u, wrap_in64, optK_some', fzK_false', nilK_ptr, brK_true', brK_false', guardK_tt', guardK_ff', guardK_tf', guardK_ft', takeG_tt', takeG_ff', takeG_tf', takeG_ft', pickK_t', pickK_f', pickT_t', pickT_f', notK, extract2_0', extract2_1', extract3_0', extract3_1', extract3_2', here_load, here_fieldAt, here_indexAt, here_extract, here_un, here_conv, here_slice, here_bin, here_nil, and_here, true_and, Nat.zero_add, Nat.add_assoc, Nat.add_zero, Int.toNat_natCast, size_alloc, World.cell?_drew, World.frozen?_drew, Bool.not_true, Bool.not_false, Int.toNat_zero, dec_t, dec_f, int_eq_t, int_eq_f, int_ne_t, int_ne_f, wrap_in, kbeql3, kbgtr3, kld3, kfa28_0, kblss3, kbadd3, kld22, klen22, hlen22, kld9, kbx28, kfa28_2, kfa28_3, kia22, kld2, kfa28_1, u3]
          by_cases hi0 : i = 0
          · subst hi0
            rw [Nat.add_zero] at z1
            have hsn' : joinS ((l.take 1).map Lib.itoa) = Lib.itoa x := by simpa using hsn
            refine cutK1 (fun v w' => v = .string (txt [91]) ∧ w' = w2) ?_ ?_
            · simp (maxSteps := 1000000) (disch := omega) only [hid1', hid2', guardK_u, takeG_u, wrap_in64, optK_some', fzK_false', nilK_ptr, brK_true', brK_false', guardK_tt', guardK_ff', guardK_tf', guardK_ft', takeG_tt', takeG_ff', takeG_tf', takeG_ft', pickK_t', pickK_f', pickT_t', pickT_f', notK, extract2_0', extract2_1', extract3_0', extract3_1', extract3_2', here_load, here_fieldAt, here_indexAt, here_extract, here_un, here_conv, here_slice, here_bin, here_nil, and_here, true_and, Nat.zero_add, Nat.add_assoc, Nat.add_zero, Int.toNat_natCast, size_alloc, World.cell?_drew, World.frozen?_drew, Bool.not_true, Bool.not_false, Int.toNat_zero, dec_t, dec_f, int_eq_t, int_eq_f, int_ne_t, int_ne_f, wrap_in, kbeql3, kbgtr3, kld3, kfa28_0, kblss3, kbadd3, kld22, klen22, hlen22, kld9, kbx28, kfa28_2, kfa28_3, kia22, kld2, kfa28_1]
              exact ⟨rfl, rfl⟩
            rintro _ _ w3 ⟨rfl, rfl⟩
            simp (maxSteps := 1000000) (disch := omega) only [hid1', hid2', guardK_u, takeG_u, wrap_in64, optK_some', fzK_false', nilK_ptr, brK_true', brK_false', guardK_tt', guardK_ff', guardK_tf', guardK_ft', takeG_tt', takeG_ff', takeG_tf', takeG_ft', pickK_t', pickK_f', pickT_t', pickT_f', notK, extract2_0', extract2_1', extract3_0', extract3_1', extract3_2', here_load, here_fieldAt, here_indexAt, here_extract, here_un, here_conv, here_slice, here_bin, here_nil, and_here, true_and, Nat.zero_add, Nat.add_assoc, Nat.add_zero, Int.toNat_natCast, size_alloc, World.cell?_drew, World.frozen?_drew, Bool.not_true, Bool.not_false, Int.toNat_zero, dec_t, dec_f, int_eq_t, int_eq_f, int_ne_t, int_ne_f, wrap_in, kbeql3, kbgtr3, kld3, kfa28_0, kblss3, kbadd3, kld22, klen22, hlen22, kld9, kbx28, kfa28_2, kfa28_3, kia22, kld2, kfa28_1, u3, z1]
            refine ck41 (dec41 hin ?_)
            intro w4 q4
            have g1 : [(91 : UInt8)].length + (Lib.itoa x).length ≤ 9223372036854775807 := by simp; omega
            simp (maxSteps := 1000000) (disch := omega) only [hid1', hid2', guardK_u, takeG_u, wrap_in64, optK_some', fzK_false', nilK_ptr, brK_true', brK_false', guardK_tt', guardK_ff', guardK_tf', guardK_ft', takeG_tt', takeG_ff', takeG_tf', takeG_ft', pickK_t', pickK_f', pickT_t', pickT_f', notK, extract2_0', extract2_1', extract3_0', extract3_1', extract3_2', here_load, here_fieldAt, here_indexAt, here_extract, here_un, here_conv, here_slice, here_bin, here_nil, and_here, true_and, Nat.zero_add, Nat.add_assoc, Nat.add_zero, Int.toNat_natCast, size_alloc, World.cell?_drew, World.frozen?_drew, Bool.not_true, Bool.not_false, Int.toNat_zero, dec_t, dec_f, int_eq_t, int_eq_f, int_ne_t, int_ne_f, wrap_in, kbeql3, kbgtr3, kld3, kfa28_0, kblss3, kbadd3, kld22, klen22, hlen22, kld9, kbx28, kfa28_2, kfa28_3, kia22, kld2, kfa28_1, add9 _ _ g1]
            exact ⟨⟨1, rfl, by omega, by rw [hsn']; rfl, q2.trans q4⟩, by simp [rel, intOf]; omega⟩
          · have hne : (l.take i).map Lib.itoa ≠ [] := fun e => by
              have := congrArg List.length e
              rw [List.length_map, List.length_take, List.length_nil] at this
              omega
            rw [if_neg hne] at hsn
            refine cutK1 (fun v w' => v = .string (txt (91 :: joinS ((l.take i).map Lib.itoa) ++ [32])) ∧ w' = w2) ?_ ?_
            · have g1 : (91 :: joinS ((l.take i).map Lib.itoa)).length + [(32 : UInt8)].length ≤ 9223372036854775807 := by simp only [List.length_append, List.length_cons, List.length_nil]; omega
              simp (maxSteps := 1000000) (disch := omega) only [hid1', hid2', guardK_u, takeG_u, wrap_in64, optK_some', fzK_false', nilK_ptr, brK_true', brK_false', guardK_tt', guardK_ff', guardK_tf', guardK_ft', takeG_tt', takeG_ff', takeG_tf', takeG_ft', pickK_t', pickK_f', pickT_t', pickT_f', notK, extract2_0', extract2_1', extract3_0', extract3_1', extract3_2', here_load, here_fieldAt, here_indexAt, here_extract, here_un, here_conv, here_slice, here_bin, here_nil, and_here, true_and, Nat.zero_add, Nat.add_assoc, Nat.add_zero, Int.toNat_natCast, size_alloc, World.cell?_drew, World.frozen?_drew, Bool.not_true, Bool.not_false, Int.toNat_zero, dec_t, dec_f, int_eq_t, int_eq_f, int_ne_t, int_ne_f, wrap_in, kbeql3, kbgtr3, kld3, kfa28_0, kblss3, kbadd3, kld22, klen22, hlen22, kld9, kbx28, kfa28_2, kfa28_3, kia22, kld2, kfa28_1, c32, add9 _ _ g1]
              exact ⟨rfl, rfl⟩
            rintro _ _ w3 ⟨rfl, rfl⟩
            simp (maxSteps := 1000000) (disch := omega) only [hid1', hid2', guardK_u, takeG_u, wrap_in64, optK_some', fzK_false', nilK_ptr, brK_true', brK_false', guardK_tt', guardK_ff', guardK_tf', guardK_ft', takeG_tt', takeG_ff', takeG_tf', takeG_ft', pickK_t', pickK_f', pickT_t', pickT_f', notK, extract2_0', extract2_1', extract3_0', extract3_1', extract3_2', here_load, here_fieldAt, here_indexAt, here_extract, here_un, here_conv, here_slice, here_bin, here_nil, and_here, true_and, Nat.zero_add, Nat.add_assoc, Nat.add_zero, Int.toNat_natCast, size_alloc, World.cell?_drew, World.frozen?_drew, Bool.not_true, Bool.not_false, Int.toNat_zero, dec_t, dec_f, int_eq_t, int_eq_f, int_ne_t, int_ne_f, wrap_in, kbeql3, kbgtr3, kld3, kfa28_0, kblss3, kbadd3, kld22, klen22, hlen22, kld9, kbx28, kfa28_2, kfa28_3, kia22, kld2, kfa28_1, u3, z1]
            refine ck41 (dec41 hin ?_)
            intro w4 q4
            have g1 : (91 :: joinS ((l.take i).map Lib.itoa) ++ [32]).length + (Lib.itoa x).length ≤ 9223372036854775807 := by simp only [List.length_append, List.length_cons, List.length_nil]; omega
            simp (maxSteps := 1000000) (disch := omega) only [hid1', hid2', guardK_u, takeG_u, wrap_in64, optK_some', fzK_false', nilK_ptr, brK_true', brK_false', guardK_tt', guardK_ff', guardK_tf', guardK_ft', takeG_tt', takeG_ff', takeG_tf', takeG_ft', pickK_t', pickK_f', pickT_t', pickT_f', notK, extract2_0', extract2_1', extract3_0', extract3_1', extract3_2', here_load, here_fieldAt, here_indexAt, here_extract, here_un, here_conv, here_slice, here_bin, here_nil, and_here, true_and, Nat.zero_add, Nat.add_assoc, Nat.add_zero, Int.toNat_natCast, size_alloc, World.cell?_drew, World.frozen?_drew, Bool.not_true, Bool.not_false, Int.toNat_zero, dec_t, dec_f, int_eq_t, int_eq_f, int_ne_t, int_ne_f, wrap_in, kbeql3, kbgtr3, kld3, kfa28_0, kblss3, kbadd3, kld22, klen22, hlen22, kld9, kbx28, kfa28_2, kfa28_3, kia22, kld2, kfa28_1, add9 _ _ g1]
            refine ⟨⟨i + 1, by go_num, by omega, ?_, q2.trans q4⟩, by simp [rel, intOf]; omega⟩
            rw [hsn]; simp
        · obtain rfl : i = l.length := by omega
          rw [List.take_length] at *
          have g1 : (91 :: joinS (l.map Lib.itoa)).length + [(93 : UInt8)].length ≤ 9223372036854775807 := by simp; omega
          simp (maxSteps := 1000000) (disch := omega) only [hid1', hid2', guardK_u, takeG_u, wrap_in64, optK_some', fzK_false', nilK_ptr, brK_true', brK_false', guardK_tt', guardK_ff', guardK_tf', guardK_ft', takeG_tt', takeG_ff', takeG_tf', takeG_ft', pickK_t', pickK_f', pickT_t', pickT_f', notK, extract2_0', extract2_1', extract3_0', extract3_1', extract3_2', here_load, here_fieldAt, here_indexAt, here_extract, here_un, here_conv, here_slice, here_bin, here_nil, and_here, true_and, Nat.zero_add, Nat.add_assoc, Nat.add_zero, Int.toNat_natCast, size_alloc, World.cell?_drew, World.frozen?_drew, Bool.not_true, Bool.not_false, Int.toNat_zero, dec_t, dec_f, int_eq_t, int_eq_f, int_ne_t, int_ne_f, wrap_in, kbeql3, kbgtr3, kld3, kfa28_0, kblss3, kbadd3, kld22, klen22, hlen22, kld9, kbx28, kfa28_2, kfa28_3, kia22, kld2, kfa28_1, u3, c93, add9 _ _ g1]
          exact hf w2 q2
      · have n3 : (a.1 == 3) = false := beq_eq_false_iff_ne.2 k3
        rw [if_neg k3] at hf
        simp (maxSteps := 1000000) (disch := omega) only [hid1', hid2', guardK_u, takeG_u, wrap_in64, optK_some', fzK_false', nilK_ptr, brK_true', brK_false', guardK_tt', guardK_ff', guardK_tf', guardK_ft', takeG_tt', takeG_ff', takeG_tf', takeG_ft', pickK_t', pickK_f', pickT_t', pickT_f', notK, extract2_0', extract2_1', extract3_0', extract3_1', extract3_2', here_load, here_fieldAt, here_indexAt, here_extract, here_un, here_conv, here_slice, here_bin, here_nil, and_here, true_and, Nat.zero_add, Nat.add_assoc, Nat.add_zero, Int.toNat_natCast, size_alloc, World.cell?_drew, World.frozen?_drew, Bool.not_true, Bool.not_false, Int.toNat_zero, dec_t, dec_f, int_eq_t, int_eq_f, int_ne_t, int_ne_f, wrap_in, kbeql3, kbgtr3, kld3, kfa28_0, kblss3, kbadd3, kld22, klen22, hlen22, kld9, kbx28, kfa28_2, kfa28_3, kia22, kld2, kfa28_1, x0, n1, n2, n3]
        exact hf w1 Qt.refl
end Go.Proofs.YtdnlenngbaaeaaaDoor
