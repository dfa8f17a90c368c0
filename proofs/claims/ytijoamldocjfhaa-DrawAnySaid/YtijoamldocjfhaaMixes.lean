/- DrawMixes' walk. Conditions: the rows read as texts and numbers. -/
import Derived.Test.YtijoamldocjfhaaCovers
set_option linter.unusedVariables false
set_option linter.unusedSimpArgs false
namespace Go.Proofs.Ytijoamldocjfhaa
open Go.RowKit Go.Cn
/-- How often x is among the first j. -/
def cnt (l : List ByteArray) (x : ByteArray) : Nat := (l.filter fun y => decide (y = x)).length
theorem cnt_take (l : List ByteArray) (x : ByteArray) (j : Nat) (hj : j < l.length) : cnt (l.take (j + 1)) x = cnt (l.take j) x + (if l.getD j default = x then 1 else 0) := by
  rw [List.take_succ_eq_append_getElem hj]
  have : l.getD j default = l[j] := by simp [hj]
  rw [this]
  unfold cnt
  rw [List.filter_append, List.length_append]
  by_cases h : l[j] = x <;> simp [h]
theorem cnt_append (a b : List ByteArray) (x : ByteArray) : cnt (a ++ b) x = cnt a x + cnt b x := by unfold cnt; rw [List.filter_append, List.length_append]
theorem cnt_le (l : List ByteArray) (x : ByteArray) : cnt l x ≤ l.length := List.length_filter_le _ _
theorem cnt_mix (x : ByteArray) : ∀ (n : Nat) (l : List ByteArray) (ds : List Int), l.length = n → cnt (mixL n l ds) x = cnt l x
  | 0, l, ds, h => by rw [List.eq_nil_of_length_eq_zero h]; rfl
  | n + 1, l, ds, h => by
    have hp := place_lt (ds.headD 0) (show 0 < l.length by omega)
    rw [mixL]
    generalize place (ds.headD 0) l.length = p at *
    have h2 : (l.take p ++ l.drop (p + 1)).length = n := by simp; omega
    have e1 : ∀ (a : ByteArray) (r : List ByteArray), cnt (a :: r) x = (if a = x then 1 else 0) + cnt r x := fun a r => by
      unfold cnt; by_cases h : a = x <;> simp [h]; omega
    rw [e1, cnt_mix x n _ _ h2, cnt_append]
    have h3 : l = l.take p ++ (l.getD p default :: l.drop (p + 1)) := by
      have : l.getD p default = l[p] := by simp [hp]
      rw [this, List.getElem_cons_drop, List.take_append_drop]
    have h4 : cnt l x = cnt (l.take p) x + ((if l.getD p default = x then 1 else 0) + cnt (l.drop (p + 1)) x) := by
      conv => lhs; rw [h3]
      rw [cnt_append, e1]
    omega
theorem mix_none : ∀ (n : Nat) (l : List ByteArray), l.length = n → mixL n l [] = l
  | 0, l, h => by rw [List.eq_nil_of_length_eq_zero h]; rfl
  | n + 1, a :: l, h => by
    have h' : l.length = n := by simpa using h
    have hp : place (([] : List Int).headD 0) (a :: l).length = 0 := by simp [place]
    rw [mixL, hp]
    simp [mix_none n l h']
theorem bytes_ne {x y : ByteArray} (h : ¬ x = y) : (x.toList == y.toList) = false := beq_eq_false_iff_ne.2 fun e => h (bytes_ext e)
set_option maxHeartbeats 2000000 in
theorem drawMixes_walk (A : Option Addr) (cap : Nat) (l : List ByteArray) (B : Option Addr) (cap2 : Nat) (ds : List Int) (w : World)
    (g1 : l.length ≤ cap) (m1 : cap ≤ 9223372036854775807) (r1 : RRow 1 RStr w A l) (g2 : ds.length ≤ cap2) (m2 : cap2 ≤ 9223372036854775807) (r2 : RRow 1 (RInt .i64) w B ds) :
    Calls Try.prog 6 #[.slice A l.length cap, .slice B ds.length cap2] w fun e w' => e = .returned (.bool true) ∧ Below w.heap.size w w' := by
  have hA := Reads.of_row rstr_one r1
  have hB := Reads.of_row rint_one r2
  have hdb : ∀ x ∈ ds, x ≤ 9223372036854775807 := by
    intro x hx
    obtain ⟨i, hi, rfl⟩ := List.mem_iff_getElem.1 hx
    obtain ⟨cs, h⟩ := r2.elem hi
    exact (Go.bounds_i64 h.2).2
  clear r1 r2
  refine callK_ret fun R hR => ?_
  refine F6_calls _ _ _ _ ?_; unfold F6
  refine cv7 (known_any w) ?_
  intro w1 q1
  have hA1 := hA.quiet q1
  simp (maxSteps := 1000000) (disch := omega) only [hid1, hid2, optK_some, fzK_false, nilK_ptr, brK_true, brK_false, guardK_tt, guardK_ff, guardK_tf, guardK_ft, takeG_tt, takeG_ff, takeG_tf, takeG_ft, pickK_t, pickK_f, pickT_t, pickT_f, notK, extract2_0, extract2_1, extract3_0, extract3_1, extract3_2, here_load, here_fieldAt, here_indexAt, here_extract, here_un, here_conv, here_slice, here_bin, here_nil, and_here, true_and, Nat.zero_add, Nat.add_assoc, Nat.add_zero, Int.toNat_natCast, size_alloc, World.cell?_drew, World.frozen?_drew, Bool.not_true, Bool.not_false, dec_t, dec_f, int_eq_t, int_eq_f, int_ne_t, int_ne_f, wrap_in, klen23, hlen23, kbgtr3, kbs22_0, kbneq9, kbneq4, klen22, hlen22, kblss3, kia23, kld2, kbgtr2, kbrem2, kia22, kld9, kbs22_1_0, ksl22_010, kbadd3, ksl22_100, kblss2, kia32, kld4, kbsub3, kst4, kbeql3, kbeql4, kbneq3, kbgeq3, kbrem3, kbneq2, kbeql9, kbs22_3_0_1_2, kbs23_2_0_1, kbeql2, klen9, hlen9, kmax3_ft, kmin3_ft, kbs23_1_0, kbeql22n, kbeql22z, kmax2_ft, ksl22_111, ksl22_110, ksl22_011, ksl22_011z, ksl23_011, ksl23_011z]
  refine ck8 (few_any hA1 g1 m1 ?_)
  intro b hb
  cases b with
  | false =>
    simp (maxSteps := 1000000) (disch := omega) only [hid1, hid2, optK_some, fzK_false, nilK_ptr, brK_true, brK_false, guardK_tt, guardK_ff, guardK_tf, guardK_ft, takeG_tt, takeG_ff, takeG_tf, takeG_ft, pickK_t, pickK_f, pickT_t, pickT_f, notK, extract2_0, extract2_1, extract3_0, extract3_1, extract3_2, here_load, here_fieldAt, here_indexAt, here_extract, here_un, here_conv, here_slice, here_bin, here_nil, and_here, true_and, Nat.zero_add, Nat.add_assoc, Nat.add_zero, Int.toNat_natCast, size_alloc, World.cell?_drew, World.frozen?_drew, Bool.not_true, Bool.not_false, dec_t, dec_f, int_eq_t, int_eq_f, int_ne_t, int_ne_f, wrap_in, klen23, hlen23, kbgtr3, kbs22_0, kbneq9, kbneq4, klen22, hlen22, kblss3, kia23, kld2, kbgtr2, kbrem2, kia22, kld9, kbs22_1_0, ksl22_010, kbadd3, ksl22_100, kblss2, kia32, kld4, kbsub3, kst4, kbeql3, kbeql4, kbneq3, kbgeq3, kbrem3, kbneq2, kbeql9, kbs22_3_0_1_2, kbs23_2_0_1, kbeql2, klen9, hlen9, kmax3_ft, kmin3_ft, kbs23_1_0, kbeql22n, kbeql22z, kmax2_ft, ksl22_111, ksl22_110, ksl22_011, ksl22_011z, ksl23_011, ksl23_011z]
    exact hR _ (Qt.below q1)
  | true =>
  have h40 := hb rfl
  clear hb
  by_cases h60 : 60 < ds.length
  · simp (maxSteps := 1000000) (disch := omega) only [hid1, hid2, optK_some, fzK_false, nilK_ptr, brK_true, brK_false, guardK_tt, guardK_ff, guardK_tf, guardK_ft, takeG_tt, takeG_ff, takeG_tf, takeG_ft, pickK_t, pickK_f, pickT_t, pickT_f, notK, extract2_0, extract2_1, extract3_0, extract3_1, extract3_2, here_load, here_fieldAt, here_indexAt, here_extract, here_un, here_conv, here_slice, here_bin, here_nil, and_here, true_and, Nat.zero_add, Nat.add_assoc, Nat.add_zero, Int.toNat_natCast, size_alloc, World.cell?_drew, World.frozen?_drew, Bool.not_true, Bool.not_false, dec_t, dec_f, int_eq_t, int_eq_f, int_ne_t, int_ne_f, wrap_in, klen23, hlen23, kbgtr3, kbs22_0, kbneq9, kbneq4, klen22, hlen22, kblss3, kia23, kld2, kbgtr2, kbrem2, kia22, kld9, kbs22_1_0, ksl22_010, kbadd3, ksl22_100, kblss2, kia32, kld4, kbsub3, kst4, kbeql3, kbeql4, kbneq3, kbgeq3, kbrem3, kbneq2, kbeql9, kbs22_3_0_1_2, kbs23_2_0_1, kbeql2, klen9, hlen9, kmax3_ft, kmin3_ft, kbs23_1_0, kbeql22n, kbeql22z, kmax2_ft, ksl22_111, ksl22_110, ksl22_011, ksl22_011z, ksl23_011, ksl23_011z]
    exact hR _ (Qt.below q1)
  simp (maxSteps := 1000000) (disch := omega) only [hid1, hid2, optK_some, fzK_false, nilK_ptr, brK_true, brK_false, guardK_tt, guardK_ff, guardK_tf, guardK_ft, takeG_tt, takeG_ff, takeG_tf, takeG_ft, pickK_t, pickK_f, pickT_t, pickT_f, notK, extract2_0, extract2_1, extract3_0, extract3_1, extract3_2, here_load, here_fieldAt, here_indexAt, here_extract, here_un, here_conv, here_slice, here_bin, here_nil, and_here, true_and, Nat.zero_add, Nat.add_assoc, Nat.add_zero, Int.toNat_natCast, size_alloc, World.cell?_drew, World.frozen?_drew, Bool.not_true, Bool.not_false, dec_t, dec_f, int_eq_t, int_eq_f, int_ne_t, int_ne_f, wrap_in, klen23, hlen23, kbgtr3, kbs22_0, kbneq9, kbneq4, klen22, hlen22, kblss3, kia23, kld2, kbgtr2, kbrem2, kia22, kld9, kbs22_1_0, ksl22_010, kbadd3, ksl22_100, kblss2, kia32, kld4, kbsub3, kst4, kbeql3, kbeql4, kbneq3, kbgeq3, kbrem3, kbneq2, kbeql9, kbs22_3_0_1_2, kbs23_2_0_1, kbeql2, klen9, hlen9, kmax3_ft, kmin3_ft, kbs23_1_0, kbeql22n, kbeql22z, kmax2_ft, ksl22_111, ksl22_110, ksl22_011, ksl22_011z, ksl23_011, ksl23_011z]
  refine ck11 (mix_any hA1 (by omega) (hB.quiet q1) (by omega) hdb ?_)
  intro M c2 w2 rM q2
  have hml := mixL_len l.length l ds
  have hcm := fun x => cnt_mix x l.length l ds rfl
  generalize mixL l.length l ds = m at *
  have hA2 := hA1.quiet q2
  simp (maxSteps := 1000000) (disch := omega) only [hid1, hid2, optK_some, fzK_false, nilK_ptr, brK_true, brK_false, guardK_tt, guardK_ff, guardK_tf, guardK_ft, takeG_tt, takeG_ff, takeG_tf, takeG_ft, pickK_t, pickK_f, pickT_t, pickT_f, notK, extract2_0, extract2_1, extract3_0, extract3_1, extract3_2, here_load, here_fieldAt, here_indexAt, here_extract, here_un, here_conv, here_slice, here_bin, here_nil, and_here, true_and, Nat.zero_add, Nat.add_assoc, Nat.add_zero, Int.toNat_natCast, size_alloc, World.cell?_drew, World.frozen?_drew, Bool.not_true, Bool.not_false, dec_t, dec_f, int_eq_t, int_eq_f, int_ne_t, int_ne_f, wrap_in, klen23, hlen23, kbgtr3, kbs22_0, kbneq9, kbneq4, klen22, hlen22, kblss3, kia23, kld2, kbgtr2, kbrem2, kia22, kld9, kbs22_1_0, ksl22_010, kbadd3, ksl22_100, kblss2, kia32, kld4, kbsub3, kst4, kbeql3, kbeql4, kbneq3, kbgeq3, kbrem3, kbneq2, kbeql9, kbs22_3_0_1_2, kbs23_2_0_1, kbeql2, klen9, hlen9, kmax3_ft, kmin3_ft, kbs23_1_0, kbeql22n, kbeql22z, kmax2_ft, ksl22_111, ksl22_110, ksl22_011, ksl22_011z, ksl23_011, ksl23_011z]
  refine ck11 (mix_any (ds := []) (B := none) hA2 (by omega) (.inl rfl) (by simp) (by simp) ?_)
  intro M3 c3 w3 r3 q3
  rw [mix_none l.length l rfl] at r3
  have hA3 := hA2.quiet q3
  have rM3 := rM.quiet q3
  have q13 := (q1.trans q2).trans q3
  clear hA hA1 hA2 rM q1 q2 q3
  simp (maxSteps := 1000000) (disch := omega) only [hid1, hid2, optK_some, fzK_false, nilK_ptr, brK_true, brK_false, guardK_tt, guardK_ff, guardK_tf, guardK_ft, takeG_tt, takeG_ff, takeG_tf, takeG_ft, pickK_t, pickK_f, pickT_t, pickT_f, notK, extract2_0, extract2_1, extract3_0, extract3_1, extract3_2, here_load, here_fieldAt, here_indexAt, here_extract, here_un, here_conv, here_slice, here_bin, here_nil, and_here, true_and, Nat.zero_add, Nat.add_assoc, Nat.add_zero, Int.toNat_natCast, size_alloc, World.cell?_drew, World.frozen?_drew, Bool.not_true, Bool.not_false, dec_t, dec_f, int_eq_t, int_eq_f, int_ne_t, int_ne_f, wrap_in, klen23, hlen23, kbgtr3, kbs22_0, kbneq9, kbneq4, klen22, hlen22, kblss3, kia23, kld2, kbgtr2, kbrem2, kia22, kld9, kbs22_1_0, ksl22_010, kbadd3, ksl22_100, kblss2, kia32, kld4, kbsub3, kst4, kbeql3, kbeql4, kbneq3, kbgeq3, kbrem3, kbneq2, kbeql9, kbs22_3_0_1_2, kbs23_2_0_1, kbeql2, klen9, hlen9, kmax3_ft, kmin3_ft, kbs23_1_0, kbeql22n, kbeql22z, kmax2_ft, ksl22_111, ksl22_110, ksl22_011, ksl22_011z, ksl23_011, ksl23_011z, bne_self_eq_false]
  refine loopK1 (fun v w' => ∃ i : Nat, v = .int .i64 i ∧ i ≤ l.length ∧ Qt w3 w') (fun v _ => l.length - (intOf v).toNat) ⟨0, rfl, by omega, Qt.refl⟩ ?_
  rintro _ _ w' ⟨i, rfl, hi, hq⟩
  by_cases hlt : i < l.length
  · obtain ⟨g, o, rfl, hcell⟩ := hA3.all (by omega)
    obtain ⟨x, hx⟩ : ∃ x, l.getD i default = x := ⟨_, rfl⟩
    simp (maxSteps := 1000000) (disch := omega) only [hid1, hid2, optK_some, fzK_false, nilK_ptr, brK_true, brK_false, guardK_tt, guardK_ff, guardK_tf, guardK_ft, takeG_tt, takeG_ff, takeG_tf, takeG_ft, pickK_t, pickK_f, pickT_t, pickT_f, notK, extract2_0, extract2_1, extract3_0, extract3_1, extract3_2, here_load, here_fieldAt, here_indexAt, here_extract, here_un, here_conv, here_slice, here_bin, here_nil, and_here, true_and, Nat.zero_add, Nat.add_assoc, Nat.add_zero, Int.toNat_natCast, size_alloc, World.cell?_drew, World.frozen?_drew, Bool.not_true, Bool.not_false, dec_t, dec_f, int_eq_t, int_eq_f, int_ne_t, int_ne_f, wrap_in, klen23, hlen23, kbgtr3, kbs22_0, kbneq9, kbneq4, klen22, hlen22, kblss3, kia23, kld2, kbgtr2, kbrem2, kia22, kld9, kbs22_1_0, ksl22_010, kbadd3, ksl22_100, kblss2, kia32, kld4, kbsub3, kst4, kbeql3, kbeql4, kbneq3, kbgeq3, kbrem3, kbneq2, kbeql9, kbs22_3_0_1_2, kbs23_2_0_1, kbeql2, klen9, hlen9, kmax3_ft, kmin3_ft, kbs23_1_0, kbeql22n, kbeql22z, kmax2_ft, ksl22_111, ksl22_110, ksl22_011, ksl22_011z, ksl23_011, ksl23_011z]
    refine loopK3 (fun a b v w' => ∃ j : Nat, a = .int .i64 (cnt (l.take j) x) ∧ b = .int .i64 (cnt (m.take j) x) ∧ v = .int .i64 j ∧ j ≤ l.length ∧ Qt w3 w') (fun _ _ v _ => l.length - (intOf v).toNat) ⟨0, rfl, rfl, rfl, by omega, hq⟩ ?_
    rintro _ _ _ _ w4 ⟨j, rfl, rfl, rfl, hj, hq4⟩
    have hl1 := cnt_le (l.take j) x
    have hl2 := cnt_le (m.take j) x
    have hl3 : (l.take j).length ≤ j := by simp; omega
    have hl4 : (m.take j).length ≤ j := by simp; omega
    have xi := Reads.cell (hA3.quiet hq4) i hlt
    rw [hx] at xi
    by_cases hlt2 : j < l.length
    · have xj := Reads.cell (hA3.quiet hq4) j hlt2
      obtain ⟨g', o', rfl, hm⟩ := rM3.all (by omega)
      have mj := Reads.cell (rM3.quiet hq4) j (by omega)
      have t1 := cnt_take l x j hlt2
      have t2 := cnt_take m x j (by omega)
      simp (maxSteps := 1000000) (disch := omega) only [hid1, hid2, optK_some, fzK_false, nilK_ptr, brK_true, brK_false, guardK_tt, guardK_ff, guardK_tf, guardK_ft, takeG_tt, takeG_ff, takeG_tf, takeG_ft, pickK_t, pickK_f, pickT_t, pickT_f, notK, extract2_0, extract2_1, extract3_0, extract3_1, extract3_2, here_load, here_fieldAt, here_indexAt, here_extract, here_un, here_conv, here_slice, here_bin, here_nil, and_here, true_and, Nat.zero_add, Nat.add_assoc, Nat.add_zero, Int.toNat_natCast, size_alloc, World.cell?_drew, World.frozen?_drew, Bool.not_true, Bool.not_false, dec_t, dec_f, int_eq_t, int_eq_f, int_ne_t, int_ne_f, wrap_in, klen23, hlen23, kbgtr3, kbs22_0, kbneq9, kbneq4, klen22, hlen22, kblss3, kia23, kld2, kbgtr2, kbrem2, kia22, kld9, kbs22_1_0, ksl22_010, kbadd3, ksl22_100, kblss2, kia32, kld4, kbsub3, kst4, kbeql3, kbeql4, kbneq3, kbgeq3, kbrem3, kbneq2, kbeql9, kbs22_3_0_1_2, kbs23_2_0_1, kbeql2, klen9, hlen9, kmax3_ft, kmin3_ft, kbs23_1_0, kbeql22n, kbeql22z, kmax2_ft, ksl22_111, ksl22_110, ksl22_011, ksl22_011z, ksl23_011, ksl23_011z]
      refine cutK1 (fun v w' => v = .int .i64 (cnt (l.take (j + 1)) x) ∧ Qt w3 w') ?_ ?_
      · refine drawK_here ?_
        simp (maxSteps := 1000000) (disch := omega) only [hid1, hid2, optK_some, fzK_false, nilK_ptr, brK_true, brK_false, guardK_tt, guardK_ff, guardK_tf, guardK_ft, takeG_tt, takeG_ff, takeG_tf, takeG_ft, pickK_t, pickK_f, pickT_t, pickT_f, notK, extract2_0, extract2_1, extract3_0, extract3_1, extract3_2, here_load, here_fieldAt, here_indexAt, here_extract, here_un, here_conv, here_slice, here_bin, here_nil, and_here, true_and, Nat.zero_add, Nat.add_assoc, Nat.add_zero, Int.toNat_natCast, size_alloc, World.cell?_drew, World.frozen?_drew, Bool.not_true, Bool.not_false, dec_t, dec_f, int_eq_t, int_eq_f, int_ne_t, int_ne_f, wrap_in, klen23, hlen23, kbgtr3, kbs22_0, kbneq9, kbneq4, klen22, hlen22, kblss3, kia23, kld2, kbgtr2, kbrem2, kia22, kld9, kbs22_1_0, ksl22_010, kbadd3, ksl22_100, kblss2, kia32, kld4, kbsub3, kst4, kbeql3, kbeql4, kbneq3, kbgeq3, kbrem3, kbneq2, kbeql9, kbs22_3_0_1_2, kbs23_2_0_1, kbeql2, klen9, hlen9, kmax3_ft, kmin3_ft, kbs23_1_0, kbeql22n, kbeql22z, kmax2_ft, ksl22_111, ksl22_110, ksl22_011, ksl22_011z, ksl23_011, ksl23_011z, xi, xj]
        by_cases he : l.getD j default = x
        · rw [if_pos he] at t1
          rw [he]
          simp (maxSteps := 1000000) (disch := omega) only [hid1, hid2, optK_some, fzK_false, nilK_ptr, brK_true, brK_false, guardK_tt, guardK_ff, guardK_tf, guardK_ft, takeG_tt, takeG_ff, takeG_tf, takeG_ft, pickK_t, pickK_f, pickT_t, pickT_f, notK, extract2_0, extract2_1, extract3_0, extract3_1, extract3_2, here_load, here_fieldAt, here_indexAt, here_extract, here_un, here_conv, here_slice, here_bin, here_nil, and_here, true_and, Nat.zero_add, Nat.add_assoc, Nat.add_zero, Int.toNat_natCast, size_alloc, World.cell?_drew, World.frozen?_drew, Bool.not_true, Bool.not_false, dec_t, dec_f, int_eq_t, int_eq_f, int_ne_t, int_ne_f, wrap_in, klen23, hlen23, kbgtr3, kbs22_0, kbneq9, kbneq4, klen22, hlen22, kblss3, kia23, kld2, kbgtr2, kbrem2, kia22, kld9, kbs22_1_0, ksl22_010, kbadd3, ksl22_100, kblss2, kia32, kld4, kbsub3, kst4, kbeql3, kbeql4, kbneq3, kbgeq3, kbrem3, kbneq2, kbeql9, kbs22_3_0_1_2, kbs23_2_0_1, kbeql2, klen9, hlen9, kmax3_ft, kmin3_ft, kbs23_1_0, kbeql22n, kbeql22z, kmax2_ft, ksl22_111, ksl22_110, ksl22_011, ksl22_011z, ksl23_011, ksl23_011z, beq_self_eq_true]
          exact ⟨by rw [t1]; rfl, hq4.drew⟩
        · rw [if_neg he] at t1
          have hb := bytes_ne he
          simp (maxSteps := 1000000) (disch := omega) only [hid1, hid2, optK_some, fzK_false, nilK_ptr, brK_true, brK_false, guardK_tt, guardK_ff, guardK_tf, guardK_ft, takeG_tt, takeG_ff, takeG_tf, takeG_ft, pickK_t, pickK_f, pickT_t, pickT_f, notK, extract2_0, extract2_1, extract3_0, extract3_1, extract3_2, here_load, here_fieldAt, here_indexAt, here_extract, here_un, here_conv, here_slice, here_bin, here_nil, and_here, true_and, Nat.zero_add, Nat.add_assoc, Nat.add_zero, Int.toNat_natCast, size_alloc, World.cell?_drew, World.frozen?_drew, Bool.not_true, Bool.not_false, dec_t, dec_f, int_eq_t, int_eq_f, int_ne_t, int_ne_f, wrap_in, klen23, hlen23, kbgtr3, kbs22_0, kbneq9, kbneq4, klen22, hlen22, kblss3, kia23, kld2, kbgtr2, kbrem2, kia22, kld9, kbs22_1_0, ksl22_010, kbadd3, ksl22_100, kblss2, kia32, kld4, kbsub3, kst4, kbeql3, kbeql4, kbneq3, kbgeq3, kbrem3, kbneq2, kbeql9, kbs22_3_0_1_2, kbs23_2_0_1, kbeql2, klen9, hlen9, kmax3_ft, kmin3_ft, kbs23_1_0, kbeql22n, kbeql22z, kmax2_ft, ksl22_111, ksl22_110, ksl22_011, ksl22_011z, ksl23_011, ksl23_011z, hb]
          exact ⟨by rw [t1]; rfl, hq4.drew⟩
      rintro _ _ w5 ⟨rfl, hq5⟩
      have xi5 := Reads.cell (hA3.quiet hq5) i hlt
      rw [hx] at xi5
      have mj5 := Reads.cell (rM3.quiet hq5) j (by omega)
      refine drawK_here ?_
      simp (maxSteps := 1000000) (disch := omega) only [hid1, hid2, optK_some, fzK_false, nilK_ptr, brK_true, brK_false, guardK_tt, guardK_ff, guardK_tf, guardK_ft, takeG_tt, takeG_ff, takeG_tf, takeG_ft, pickK_t, pickK_f, pickT_t, pickT_f, notK, extract2_0, extract2_1, extract3_0, extract3_1, extract3_2, here_load, here_fieldAt, here_indexAt, here_extract, here_un, here_conv, here_slice, here_bin, here_nil, and_here, true_and, Nat.zero_add, Nat.add_assoc, Nat.add_zero, Int.toNat_natCast, size_alloc, World.cell?_drew, World.frozen?_drew, Bool.not_true, Bool.not_false, dec_t, dec_f, int_eq_t, int_eq_f, int_ne_t, int_ne_f, wrap_in, klen23, hlen23, kbgtr3, kbs22_0, kbneq9, kbneq4, klen22, hlen22, kblss3, kia23, kld2, kbgtr2, kbrem2, kia22, kld9, kbs22_1_0, ksl22_010, kbadd3, ksl22_100, kblss2, kia32, kld4, kbsub3, kst4, kbeql3, kbeql4, kbneq3, kbgeq3, kbrem3, kbneq2, kbeql9, kbs22_3_0_1_2, kbs23_2_0_1, kbeql2, klen9, hlen9, kmax3_ft, kmin3_ft, kbs23_1_0, kbeql22n, kbeql22z, kmax2_ft, ksl22_111, ksl22_110, ksl22_011, ksl22_011z, ksl23_011, ksl23_011z, xi5, mj5]
      by_cases he : m.getD j default = x
      · rw [if_pos he] at t2
        rw [he]
        simp (maxSteps := 1000000) (disch := omega) only [hid1, hid2, optK_some, fzK_false, nilK_ptr, brK_true, brK_false, guardK_tt, guardK_ff, guardK_tf, guardK_ft, takeG_tt, takeG_ff, takeG_tf, takeG_ft, pickK_t, pickK_f, pickT_t, pickT_f, notK, extract2_0, extract2_1, extract3_0, extract3_1, extract3_2, here_load, here_fieldAt, here_indexAt, here_extract, here_un, here_conv, here_slice, here_bin, here_nil, and_here, true_and, Nat.zero_add, Nat.add_assoc, Nat.add_zero, Int.toNat_natCast, size_alloc, World.cell?_drew, World.frozen?_drew, Bool.not_true, Bool.not_false, dec_t, dec_f, int_eq_t, int_eq_f, int_ne_t, int_ne_f, wrap_in, klen23, hlen23, kbgtr3, kbs22_0, kbneq9, kbneq4, klen22, hlen22, kblss3, kia23, kld2, kbgtr2, kbrem2, kia22, kld9, kbs22_1_0, ksl22_010, kbadd3, ksl22_100, kblss2, kia32, kld4, kbsub3, kst4, kbeql3, kbeql4, kbneq3, kbgeq3, kbrem3, kbneq2, kbeql9, kbs22_3_0_1_2, kbs23_2_0_1, kbeql2, klen9, hlen9, kmax3_ft, kmin3_ft, kbs23_1_0, kbeql22n, kbeql22z, kmax2_ft, ksl22_111, ksl22_110, ksl22_011, ksl22_011z, ksl23_011, ksl23_011z, beq_self_eq_true]
        exact ⟨⟨j + 1, rfl, by rw [t2]; rfl, by go_num, by omega, hq5.drew⟩, by simp [rel, intOf]; omega⟩
      · rw [if_neg he] at t2
        have hb := bytes_ne he
        simp (maxSteps := 1000000) (disch := omega) only [hid1, hid2, optK_some, fzK_false, nilK_ptr, brK_true, brK_false, guardK_tt, guardK_ff, guardK_tf, guardK_ft, takeG_tt, takeG_ff, takeG_tf, takeG_ft, pickK_t, pickK_f, pickT_t, pickT_f, notK, extract2_0, extract2_1, extract3_0, extract3_1, extract3_2, here_load, here_fieldAt, here_indexAt, here_extract, here_un, here_conv, here_slice, here_bin, here_nil, and_here, true_and, Nat.zero_add, Nat.add_assoc, Nat.add_zero, Int.toNat_natCast, size_alloc, World.cell?_drew, World.frozen?_drew, Bool.not_true, Bool.not_false, dec_t, dec_f, int_eq_t, int_eq_f, int_ne_t, int_ne_f, wrap_in, klen23, hlen23, kbgtr3, kbs22_0, kbneq9, kbneq4, klen22, hlen22, kblss3, kia23, kld2, kbgtr2, kbrem2, kia22, kld9, kbs22_1_0, ksl22_010, kbadd3, ksl22_100, kblss2, kia32, kld4, kbsub3, kst4, kbeql3, kbeql4, kbneq3, kbgeq3, kbrem3, kbneq2, kbeql9, kbs22_3_0_1_2, kbs23_2_0_1, kbeql2, klen9, hlen9, kmax3_ft, kmin3_ft, kbs23_1_0, kbeql22n, kbeql22z, kmax2_ft, ksl22_111, ksl22_110, ksl22_011, ksl22_011z, ksl23_011, ksl23_011z, hb]
        exact ⟨⟨j + 1, rfl, by rw [t2]; rfl, by go_num, by omega, hq5.drew⟩, by simp [rel, intOf]; omega⟩
    · obtain ⟨g', o', rfl, hm⟩ := r3.all (by omega)
      have si := Reads.cell (r3.quiet hq4) i hlt
      rw [hx] at si
      rw [List.take_of_length_le (by omega), List.take_of_length_le (by omega), hcm x]
      simp (maxSteps := 1000000) (disch := omega) only [hid1, hid2, optK_some, fzK_false, nilK_ptr, brK_true, brK_false, guardK_tt, guardK_ff, guardK_tf, guardK_ft, takeG_tt, takeG_ff, takeG_tf, takeG_ft, pickK_t, pickK_f, pickT_t, pickT_f, notK, extract2_0, extract2_1, extract3_0, extract3_1, extract3_2, here_load, here_fieldAt, here_indexAt, here_extract, here_un, here_conv, here_slice, here_bin, here_nil, and_here, true_and, Nat.zero_add, Nat.add_assoc, Nat.add_zero, Int.toNat_natCast, size_alloc, World.cell?_drew, World.frozen?_drew, Bool.not_true, Bool.not_false, dec_t, dec_f, int_eq_t, int_eq_f, int_ne_t, int_ne_f, wrap_in, klen23, hlen23, kbgtr3, kbs22_0, kbneq9, kbneq4, klen22, hlen22, kblss3, kia23, kld2, kbgtr2, kbrem2, kia22, kld9, kbs22_1_0, ksl22_010, kbadd3, ksl22_100, kblss2, kia32, kld4, kbsub3, kst4, kbeql3, kbeql4, kbneq3, kbgeq3, kbrem3, kbneq2, kbeql9, kbs22_3_0_1_2, kbs23_2_0_1, kbeql2, klen9, hlen9, kmax3_ft, kmin3_ft, kbs23_1_0, kbeql22n, kbeql22z, kmax2_ft, ksl22_111, ksl22_110, ksl22_011, ksl22_011z, ksl23_011, ksl23_011z]
      refine drawK_here ?_
      simp (maxSteps := 1000000) (disch := omega) only [hid1, hid2, optK_some, fzK_false, nilK_ptr, brK_true, brK_false, guardK_tt, guardK_ff, guardK_tf, guardK_ft, takeG_tt, takeG_ff, takeG_tf, takeG_ft, pickK_t, pickK_f, pickT_t, pickT_f, notK, extract2_0, extract2_1, extract3_0, extract3_1, extract3_2, here_load, here_fieldAt, here_indexAt, here_extract, here_un, here_conv, here_slice, here_bin, here_nil, and_here, true_and, Nat.zero_add, Nat.add_assoc, Nat.add_zero, Int.toNat_natCast, size_alloc, World.cell?_drew, World.frozen?_drew, Bool.not_true, Bool.not_false, dec_t, dec_f, int_eq_t, int_eq_f, int_ne_t, int_ne_f, wrap_in, klen23, hlen23, kbgtr3, kbs22_0, kbneq9, kbneq4, klen22, hlen22, kblss3, kia23, kld2, kbgtr2, kbrem2, kia22, kld9, kbs22_1_0, ksl22_010, kbadd3, ksl22_100, kblss2, kia32, kld4, kbsub3, kst4, kbeql3, kbeql4, kbneq3, kbgeq3, kbrem3, kbneq2, kbeql9, kbs22_3_0_1_2, kbs23_2_0_1, kbeql2, klen9, hlen9, kmax3_ft, kmin3_ft, kbs23_1_0, kbeql22n, kbeql22z, kmax2_ft, ksl22_111, ksl22_110, ksl22_011, ksl22_011z, ksl23_011, ksl23_011z, bne_self_eq_false, xi, si, beq_self_eq_true]
      exact ⟨⟨i + 1, by go_num, by omega, hq4.drew⟩, by simp [rel, intOf]; omega⟩
  · simp (maxSteps := 1000000) (disch := omega) only [hid1, hid2, optK_some, fzK_false, nilK_ptr, brK_true, brK_false, guardK_tt, guardK_ff, guardK_tf, guardK_ft, takeG_tt, takeG_ff, takeG_tf, takeG_ft, pickK_t, pickK_f, pickT_t, pickT_f, notK, extract2_0, extract2_1, extract3_0, extract3_1, extract3_2, here_load, here_fieldAt, here_indexAt, here_extract, here_un, here_conv, here_slice, here_bin, here_nil, and_here, true_and, Nat.zero_add, Nat.add_assoc, Nat.add_zero, Int.toNat_natCast, size_alloc, World.cell?_drew, World.frozen?_drew, Bool.not_true, Bool.not_false, dec_t, dec_f, int_eq_t, int_eq_f, int_ne_t, int_ne_f, wrap_in, klen23, hlen23, kbgtr3, kbs22_0, kbneq9, kbneq4, klen22, hlen22, kblss3, kia23, kld2, kbgtr2, kbrem2, kia22, kld9, kbs22_1_0, ksl22_010, kbadd3, ksl22_100, kblss2, kia32, kld4, kbsub3, kst4, kbeql3, kbeql4, kbneq3, kbgeq3, kbrem3, kbneq2, kbeql9, kbs22_3_0_1_2, kbs23_2_0_1, kbeql2, klen9, hlen9, kmax3_ft, kmin3_ft, kbs23_1_0, kbeql22n, kbeql22z, kmax2_ft, ksl22_111, ksl22_110, ksl22_011, ksl22_011z, ksl23_011, ksl23_011z]
    exact hR _ (Qt.below (q13.trans hq))
end Go.Proofs.Ytijoamldocjfhaa
