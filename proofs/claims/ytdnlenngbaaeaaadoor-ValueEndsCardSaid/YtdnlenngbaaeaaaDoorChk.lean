/- Whether a value may be; by the program and by the document. Conditions: the rows read. -/
import Derived.Test.YtdnlenngbaaeaaaDoorCmp2
import Derived.Test.YtdnlenngbaaeaaaDoorJoin
set_option linter.unusedVariables false
set_option linter.unusedSimpArgs false
set_option maxRecDepth 100000
namespace Go.Proofs.YtdnlenngbaaeaaaDoor
open Go.RowKit Go.Cn
theorem ix9 (l : List UInt8) (i : Int) (h : 0 ≤ i ∧ i < (l.length : Int)) (K : Value → World → Prop) (w : World) : ValK Tryd.prog (Instr.index 9 (.string (txt l)) (.int .i64 i)) K w = K (.int .u8 ((l.getD i.toNat 0).toNat : Int)) w := index_txt Tryd.underlying9 l .i64 i h K w
theorem all_pr (l : List UInt8) : l.all prB = true ↔ ∀ i, i < l.length → prB (l.getD i 0) = true := by
  rw [List.all_eq_true]
  constructor
  · intro h i hi
    have := h l[i] (List.getElem_mem hi)
    simpa [hi] using this
  · intro h x hx
    obtain ⟨i, hi, rfl⟩ := List.mem_iff_getElem.1 hx
    have := h i hi
    simpa [hi] using this
theorem all_up (l : List Int) : upL l = true ↔ ∀ i, i + 1 < l.length → l.getD i 0 < l.getD (i + 1) 0 := by
  unfold upL
  rw [List.all_eq_true]
  constructor
  · intro h i hi
    exact of_decide_eq_true (h i (List.mem_range.2 (by omega)))
  · intro h i hi
    exact decide_eq_true (h i (by have := List.mem_range.1 hi; omega))
theorem pr_iff (c : UInt8) : prB c = true ↔ 32 ≤ c.toNat ∧ c.toNat ≤ 126 ∧ c.toNat ≠ 34 := by simp [prB, and_assoc]
theorem pr48 {c : UInt8} {w : World} {K : Value → World → Prop} (hK : K (.bool (prB c)) w) : CallK Tryd.prog 48 #[.int .u8 (c.toNat : Int)] K w := by
  refine F48_calls _ _ _ ?_; unfold F48
  by_cases h1 : c.toNat < 32
  · have e : prB c = false := by
      cases h : prB c with
      | false => rfl
      | true => have := (pr_iff c).1 h; omega
    rw [e] at hK
    simp (maxSteps := 1000000) (disch := omega) only [hid1', hid2', guardK_u, takeG_u, wrap_in64, optK_some', fzK_false', nilK_ptr, brK_true', brK_false', guardK_tt', guardK_ff', guardK_tf', guardK_ft', takeG_tt', takeG_ff', takeG_tf', takeG_ft', pickK_t', pickK_f', pickT_t', pickT_f', notK, extract2_0', extract2_1', extract3_0', extract3_1', extract3_2', here_load, here_fieldAt, here_indexAt, here_extract, here_un, here_conv, here_slice, here_bin, here_nil, and_here, true_and, Nat.zero_add, Nat.add_assoc, Nat.add_zero, Int.toNat_natCast, size_alloc, World.cell?_drew, World.frozen?_drew, Bool.not_true, Bool.not_false, Int.toNat_zero, dec_t, dec_f, int_eq_t, int_eq_f, int_ne_t, int_ne_f, wrap_in, kbgeq5, kbleq5, kbneq5, guardK_u]
    exact hK
  · by_cases h2 : 126 < c.toNat
    · have e : prB c = false := by
        cases h : prB c with
        | false => rfl
        | true => have := (pr_iff c).1 h; omega
      rw [e] at hK
      simp (maxSteps := 1000000) (disch := omega) only [hid1', hid2', guardK_u, takeG_u, wrap_in64, optK_some', fzK_false', nilK_ptr, brK_true', brK_false', guardK_tt', guardK_ff', guardK_tf', guardK_ft', takeG_tt', takeG_ff', takeG_tf', takeG_ft', pickK_t', pickK_f', pickT_t', pickT_f', notK, extract2_0', extract2_1', extract3_0', extract3_1', extract3_2', here_load, here_fieldAt, here_indexAt, here_extract, here_un, here_conv, here_slice, here_bin, here_nil, and_here, true_and, Nat.zero_add, Nat.add_assoc, Nat.add_zero, Int.toNat_natCast, size_alloc, World.cell?_drew, World.frozen?_drew, Bool.not_true, Bool.not_false, Int.toNat_zero, dec_t, dec_f, int_eq_t, int_eq_f, int_ne_t, int_ne_f, wrap_in, kbgeq5, kbleq5, kbneq5, guardK_u]
      exact hK
    · by_cases h3 : c.toNat = 34
      · have e : prB c = false := by
          cases h : prB c with
          | false => rfl
          | true => have := (pr_iff c).1 h; omega
        rw [e] at hK
        have e3 : ((c.toNat : Int) != 34) = false := by rw [h3]; rfl
        simp (maxSteps := 1000000) (disch := omega) only [hid1', hid2', guardK_u, takeG_u, wrap_in64, optK_some', fzK_false', nilK_ptr, brK_true', brK_false', guardK_tt', guardK_ff', guardK_tf', guardK_ft', takeG_tt', takeG_ff', takeG_tf', takeG_ft', pickK_t', pickK_f', pickT_t', pickT_f', notK, extract2_0', extract2_1', extract3_0', extract3_1', extract3_2', here_load, here_fieldAt, here_indexAt, here_extract, here_un, here_conv, here_slice, here_bin, here_nil, and_here, true_and, Nat.zero_add, Nat.add_assoc, Nat.add_zero, Int.toNat_natCast, size_alloc, World.cell?_drew, World.frozen?_drew, Bool.not_true, Bool.not_false, Int.toNat_zero, dec_t, dec_f, int_eq_t, int_eq_f, int_ne_t, int_ne_f, wrap_in, kbgeq5, kbleq5, kbneq5, e3]
        exact hK
      · have e : prB c = true := (pr_iff c).2 ⟨by omega, by omega, h3⟩
        rw [e] at hK
        have e3 : ((c.toNat : Int) != 34) = true := by rw [bne_iff_ne]; omega
        simp (maxSteps := 1000000) (disch := omega) only [hid1', hid2', guardK_u, takeG_u, wrap_in64, optK_some', fzK_false', nilK_ptr, brK_true', brK_false', guardK_tt', guardK_ff', guardK_tf', guardK_ft', takeG_tt', takeG_ff', takeG_tf', takeG_ft', pickK_t', pickK_f', pickT_t', pickT_f', notK, extract2_0', extract2_1', extract3_0', extract3_1', extract3_2', here_load, here_fieldAt, here_indexAt, here_extract, here_un, here_conv, here_slice, here_bin, here_nil, and_here, true_and, Nat.zero_add, Nat.add_assoc, Nat.add_zero, Int.toNat_natCast, size_alloc, World.cell?_drew, World.frozen?_drew, Bool.not_true, Bool.not_false, Int.toNat_zero, dec_t, dec_f, int_eq_t, int_eq_f, int_ne_t, int_ne_f, wrap_in, kbgeq5, kbleq5, kbneq5, e3]
        exact hK
theorem text31 {l : List UInt8} {w : World} {K : Value → World → Prop} (hl : l.length ≤ 9223372036854775807) (hK : K (.int .i64 (textE l)) w) : CallK Tryd.prog 31 #[.string (txt l)] K w := by
  refine F31_calls _ _ _ ?_; unfold F31
  have hsz := txt_size l
  unfold textE at hK
  by_cases h64 : 64 < l.length
  · rw [if_pos h64] at hK
    simp (maxSteps := 1000000) (disch := omega) only [hid1', hid2', guardK_u, takeG_u, wrap_in64, optK_some', fzK_false', nilK_ptr, brK_true', brK_false', guardK_tt', guardK_ff', guardK_tf', guardK_ft', takeG_tt', takeG_ff', takeG_tf', takeG_ft', pickK_t', pickK_f', pickT_t', pickT_f', notK, extract2_0', extract2_1', extract3_0', extract3_1', extract3_2', here_load, here_fieldAt, here_indexAt, here_extract, here_un, here_conv, here_slice, here_bin, here_nil, and_here, true_and, Nat.zero_add, Nat.add_assoc, Nat.add_zero, Int.toNat_natCast, size_alloc, World.cell?_drew, World.frozen?_drew, Bool.not_true, Bool.not_false, Int.toNat_zero, dec_t, dec_f, int_eq_t, int_eq_f, int_ne_t, int_ne_f, wrap_in, klen9, hlen9, kbgtr3, kblss3, kbadd3, hsz]
    exact hK
  rw [if_neg h64] at hK
  simp (maxSteps := 1000000) (disch := omega) only [hid1', hid2', guardK_u, takeG_u, wrap_in64, optK_some', fzK_false', nilK_ptr, brK_true', brK_false', guardK_tt', guardK_ff', guardK_tf', guardK_ft', takeG_tt', takeG_ff', takeG_tf', takeG_ft', pickK_t', pickK_f', pickT_t', pickT_f', notK, extract2_0', extract2_1', extract3_0', extract3_1', extract3_2', here_load, here_fieldAt, here_indexAt, here_extract, here_un, here_conv, here_slice, here_bin, here_nil, and_here, true_and, Nat.zero_add, Nat.add_assoc, Nat.add_zero, Int.toNat_natCast, size_alloc, World.cell?_drew, World.frozen?_drew, Bool.not_true, Bool.not_false, Int.toNat_zero, dec_t, dec_f, int_eq_t, int_eq_f, int_ne_t, int_ne_f, wrap_in, klen9, hlen9, kbgtr3, kblss3, kbadd3, hsz]
  refine loopK1 (fun v w' => w' = w ∧ ∃ i : Nat, v = .int .i64 i ∧ i ≤ l.length ∧ ∀ j, j < i → prB (l.getD j 0) = true) (fun v _ => l.length - (intOf v).toNat) ⟨rfl, 0, rfl, by omega, fun j h => by omega⟩ ?_
  rintro _ _ w1 ⟨hw, i, rfl, hi, hlo⟩
  obtain rfl : w1 = w := hw
  by_cases hlt : i < l.length
  · simp (maxSteps := 1000000) (disch := omega) only [hid1', hid2', guardK_u, takeG_u, wrap_in64, optK_some', fzK_false', nilK_ptr, brK_true', brK_false', guardK_tt', guardK_ff', guardK_tf', guardK_ft', takeG_tt', takeG_ff', takeG_tf', takeG_ft', pickK_t', pickK_f', pickT_t', pickT_f', notK, extract2_0', extract2_1', extract3_0', extract3_1', extract3_2', here_load, here_fieldAt, here_indexAt, here_extract, here_un, here_conv, here_slice, here_bin, here_nil, and_here, true_and, Nat.zero_add, Nat.add_assoc, Nat.add_zero, Int.toNat_natCast, size_alloc, World.cell?_drew, World.frozen?_drew, Bool.not_true, Bool.not_false, Int.toNat_zero, dec_t, dec_f, int_eq_t, int_eq_f, int_ne_t, int_ne_f, wrap_in, klen9, hlen9, kbgtr3, kblss3, kbadd3, ix9]
    refine ck48 (pr48 ?_)
    cases hp : prB (l.getD i 0) with
    | true =>
      simp (maxSteps := 1000000) (disch := omega) only [hid1', hid2', guardK_u, takeG_u, wrap_in64, optK_some', fzK_false', nilK_ptr, brK_true', brK_false', guardK_tt', guardK_ff', guardK_tf', guardK_ft', takeG_tt', takeG_ff', takeG_tf', takeG_ft', pickK_t', pickK_f', pickT_t', pickT_f', notK, extract2_0', extract2_1', extract3_0', extract3_1', extract3_2', here_load, here_fieldAt, here_indexAt, here_extract, here_un, here_conv, here_slice, here_bin, here_nil, and_here, true_and, Nat.zero_add, Nat.add_assoc, Nat.add_zero, Int.toNat_natCast, size_alloc, World.cell?_drew, World.frozen?_drew, Bool.not_true, Bool.not_false, Int.toNat_zero, dec_t, dec_f, int_eq_t, int_eq_f, int_ne_t, int_ne_f, wrap_in, klen9, hlen9, kbgtr3, kblss3, kbadd3]
      refine ⟨⟨rfl, i + 1, by go_num, by omega, fun j hj => ?_⟩, by simp [rel, intOf]; omega⟩
      by_cases e : j = i
      · subst e; exact hp
      · exact hlo j (by omega)
    | false =>
      have e : ¬ l.all prB = true := fun e => by have := (all_pr l).1 e i hlt; rw [hp] at this; cases this
      rw [if_neg e] at hK
      simp (maxSteps := 1000000) (disch := omega) only [hid1', hid2', guardK_u, takeG_u, wrap_in64, optK_some', fzK_false', nilK_ptr, brK_true', brK_false', guardK_tt', guardK_ff', guardK_tf', guardK_ft', takeG_tt', takeG_ff', takeG_tf', takeG_ft', pickK_t', pickK_f', pickT_t', pickT_f', notK, extract2_0', extract2_1', extract3_0', extract3_1', extract3_2', here_load, here_fieldAt, here_indexAt, here_extract, here_un, here_conv, here_slice, here_bin, here_nil, and_here, true_and, Nat.zero_add, Nat.add_assoc, Nat.add_zero, Int.toNat_natCast, size_alloc, World.cell?_drew, World.frozen?_drew, Bool.not_true, Bool.not_false, Int.toNat_zero, dec_t, dec_f, int_eq_t, int_eq_f, int_ne_t, int_ne_f, wrap_in, klen9, hlen9, kbgtr3, kblss3, kbadd3]
      exact hK
  · rw [if_pos ((all_pr l).2 (fun j hj => hlo j (by omega)))] at hK
    simp (maxSteps := 1000000) (disch := omega) only [hid1', hid2', guardK_u, takeG_u, wrap_in64, optK_some', fzK_false', nilK_ptr, brK_true', brK_false', guardK_tt', guardK_ff', guardK_tf', guardK_ft', takeG_tt', takeG_ff', takeG_tf', takeG_ft', pickK_t', pickK_f', pickT_t', pickT_f', notK, extract2_0', extract2_1', extract3_0', extract3_1', extract3_2', here_load, here_fieldAt, here_indexAt, here_extract, here_un, here_conv, here_slice, here_bin, here_nil, and_here, true_and, Nat.zero_add, Nat.add_assoc, Nat.add_zero, Int.toNat_natCast, size_alloc, World.cell?_drew, World.frozen?_drew, Bool.not_true, Bool.not_false, Int.toNat_zero, dec_t, dec_f, int_eq_t, int_eq_f, int_ne_t, int_ne_f, wrap_in, klen9, hlen9, kbgtr3, kblss3, kbadd3]
    exact hK
set_option maxHeartbeats 1000000 in
theorem list32 {l : List Int} {A : Option Addr} {c : Nat} {w : World} {K : Value → World → Prop} (hr : Reads w A (ints l)) (hl : l.length ≤ 9223372036854775807) (hK : ∀ w', Qt w w' → K (.int .i64 (listE l)) w') : CallK Tryd.prog 32 #[.slice A l.length c] K w := by
  refine F32_calls _ _ _ ?_; unfold F32
  unfold listE at hK
  by_cases h16 : 16 < l.length
  · rw [if_pos h16] at hK
    simp (maxSteps := 1000000) (disch := omega) only [hid1', hid2', guardK_u, takeG_u, wrap_in64, optK_some', fzK_false', nilK_ptr, brK_true', brK_false', guardK_tt', guardK_ff', guardK_tf', guardK_ft', takeG_tt', takeG_ff', takeG_tf', takeG_ft', pickK_t', pickK_f', pickT_t', pickT_f', notK, extract2_0', extract2_1', extract3_0', extract3_1', extract3_2', here_load, here_fieldAt, here_indexAt, here_extract, here_un, here_conv, here_slice, here_bin, here_nil, and_here, true_and, Nat.zero_add, Nat.add_assoc, Nat.add_zero, Int.toNat_natCast, size_alloc, World.cell?_drew, World.frozen?_drew, Bool.not_true, Bool.not_false, Int.toNat_zero, dec_t, dec_f, int_eq_t, int_eq_f, int_ne_t, int_ne_f, wrap_in, kbsub3, kbgtr3, kblss3, kbgeq2, kbadd3, klen22, hlen22, kia22, kld2]
    exact hK w Qt.refl
  rw [if_neg h16] at hK
  simp (maxSteps := 1000000) (disch := omega) only [hid1', hid2', guardK_u, takeG_u, wrap_in64, optK_some', fzK_false', nilK_ptr, brK_true', brK_false', guardK_tt', guardK_ff', guardK_tf', guardK_ft', takeG_tt', takeG_ff', takeG_tf', takeG_ft', pickK_t', pickK_f', pickT_t', pickT_f', notK, extract2_0', extract2_1', extract3_0', extract3_1', extract3_2', here_load, here_fieldAt, here_indexAt, here_extract, here_un, here_conv, here_slice, here_bin, here_nil, and_here, true_and, Nat.zero_add, Nat.add_assoc, Nat.add_zero, Int.toNat_natCast, size_alloc, World.cell?_drew, World.frozen?_drew, Bool.not_true, Bool.not_false, Int.toNat_zero, dec_t, dec_f, int_eq_t, int_eq_f, int_ne_t, int_ne_f, wrap_in, kbsub3, kbgtr3, kblss3, kbgeq2, kbadd3, klen22, hlen22, kia22, kld2]
  refine loopK1 (fun v w' => ∃ i : Nat, v = .int .i64 ((i : Int) + 1) ∧ (i + 1 ≤ l.length ∨ l.length = 0 ∧ i = 0) ∧ (∀ j, j < i → l.getD j 0 < l.getD (j + 1) 0) ∧ Qt w w') (fun v _ => l.length + 1 - (intOf v).toNat) ⟨0, rfl, by omega, fun j h => by omega, Qt.refl⟩ ?_
  rintro _ _ w1 ⟨i, rfl, hi, hlo, q1⟩
  by_cases hlt : i + 1 < l.length
  · obtain ⟨b, o, rfl, z1⟩ := int_at (hr.quiet q1) hlt
    have Z0 : ∀ w', Qt w w' → w'.cell? ⟨b, o + i, none⟩ = some (.int .i64 (l.getD i 0)) := fun w' q => by
      obtain ⟨_, _, e, h⟩ := int_at (hr.quiet q) (show i < l.length by omega)
      cases e; exact h
    have Z1 : ∀ w', Qt w w' → w'.cell? ⟨b, o + (i + 1), none⟩ = some (.int .i64 (l.getD (i + 1) 0)) := fun w' q => by
      obtain ⟨_, _, e, h⟩ := int_at (hr.quiet q) hlt
      cases e; exact h
    have kd : Qt w w1.drew := q1.trans (Qt.drew Qt.refl)
    have hlo' : l.getD i 0 < l.getD (i + 1) 0 → ∀ j, j < i + 1 → l.getD j 0 < l.getD (j + 1) 0 := fun h j hj => by
      by_cases e : j = i
      · subst e; exact h
      · exact hlo j (by omega)
    have hbad : ¬ l.getD i 0 < l.getD (i + 1) 0 → ¬ upL l = true := fun h e => h ((all_up l).1 e i hlt)
    have hT : ((i : Int) + 1).toNat = i + 1 := by omega
    generalize l.getD i 0 = x at *
    generalize l.getD (i + 1) 0 = y at *
    simp (maxSteps := 1000000) (disch := omega) only [hid1', hid2', guardK_u, takeG_u, wrap_in64, optK_some', fzK_false', nilK_ptr, brK_true', brK_false', guardK_tt', guardK_ff', guardK_tf', guardK_ft', takeG_tt', takeG_ff', takeG_tf', takeG_ft', pickK_t', pickK_f', pickT_t', pickT_f', notK, extract2_0', extract2_1', extract3_0', extract3_1', extract3_2', here_load, here_fieldAt, here_indexAt, here_extract, here_un, here_conv, here_slice, here_bin, here_nil, and_here, true_and, Nat.zero_add, Nat.add_assoc, Nat.add_zero, Int.toNat_natCast, size_alloc, World.cell?_drew, World.frozen?_drew, Bool.not_true, Bool.not_false, Int.toNat_zero, dec_t, dec_f, int_eq_t, int_eq_f, int_ne_t, int_ne_f, wrap_in, kbsub3, kbgtr3, kblss3, kbgeq2, kbadd3, klen22, hlen22, kia22, kld2]
    refine drawK_by (fun w' => Qt w w') kd ?_
    refine take_bin (.int .i64 i) (fun w' _ => by simp (maxSteps := 1000000) (disch := omega) only [hid1', hid2', guardK_u, takeG_u, wrap_in64, optK_some', fzK_false', nilK_ptr, brK_true', brK_false', guardK_tt', guardK_ff', guardK_tf', guardK_ft', takeG_tt', takeG_ff', takeG_tf', takeG_ft', pickK_t', pickK_f', pickT_t', pickT_f', notK, extract2_0', extract2_1', extract3_0', extract3_1', extract3_2', here_load, here_fieldAt, here_indexAt, here_extract, here_un, here_conv, here_slice, here_bin, here_nil, and_here, true_and, Nat.zero_add, Nat.add_assoc, Nat.add_zero, Int.toNat_natCast, size_alloc, World.cell?_drew, World.frozen?_drew, Bool.not_true, Bool.not_false, Int.toNat_zero, dec_t, dec_f, int_eq_t, int_eq_f, int_ne_t, int_ne_f, wrap_in, kbsub3, kbgtr3, kblss3, kbgeq2, kbadd3, klen22, hlen22, kia22, kld2, Int.add_sub_cancel, here_rfl]; try (exact ⟨trivial, trivial⟩)) ?_
    refine take_index (.pointer (some ⟨b, o + i, none⟩)) (fun w' hq => by (simp (maxSteps := 1000000) (disch := omega) only [hid1', hid2', guardK_u, takeG_u, wrap_in64, optK_some', fzK_false', nilK_ptr, brK_true', brK_false', guardK_tt', guardK_ff', guardK_tf', guardK_ft', takeG_tt', takeG_ff', takeG_tf', takeG_ft', pickK_t', pickK_f', pickT_t', pickT_f', notK, extract2_0', extract2_1', extract3_0', extract3_1', extract3_2', here_load, here_fieldAt, here_indexAt, here_extract, here_un, here_conv, here_slice, here_bin, here_nil, and_here, true_and, Nat.zero_add, Nat.add_assoc, Nat.add_zero, Int.toNat_natCast, size_alloc, World.cell?_drew, World.frozen?_drew, Bool.not_true, Bool.not_false, Int.toNat_zero, dec_t, dec_f, int_eq_t, int_eq_f, int_ne_t, int_ne_f, wrap_in, kbsub3, kbgtr3, kblss3, kbgeq2, kbadd3, klen22, hlen22, kia22, kld2]; try (exact ⟨trivial, trivial⟩))) ?_
    refine take_load (.int .i64 x) (fun w' hq => by have h := Z0 w' hq; (simp (maxSteps := 1000000) (disch := omega) only [hid1', hid2', guardK_u, takeG_u, wrap_in64, optK_some', fzK_false', nilK_ptr, brK_true', brK_false', guardK_tt', guardK_ff', guardK_tf', guardK_ft', takeG_tt', takeG_ff', takeG_tf', takeG_ft', pickK_t', pickK_f', pickT_t', pickT_f', notK, extract2_0', extract2_1', extract3_0', extract3_1', extract3_2', here_load, here_fieldAt, here_indexAt, here_extract, here_un, here_conv, here_slice, here_bin, here_nil, and_here, true_and, Nat.zero_add, Nat.add_assoc, Nat.add_zero, Int.toNat_natCast, size_alloc, World.cell?_drew, World.frozen?_drew, Bool.not_true, Bool.not_false, Int.toNat_zero, dec_t, dec_f, int_eq_t, int_eq_f, int_ne_t, int_ne_f, wrap_in, kbsub3, kbgtr3, kblss3, kbgeq2, kbadd3, klen22, hlen22, kia22, kld2, h]; try (exact ⟨trivial, trivial⟩))) ?_
    refine take_index (.pointer (some ⟨b, o + (i + 1), none⟩)) (fun w' hq => by (simp (maxSteps := 1000000) (disch := omega) only [hid1', hid2', guardK_u, takeG_u, wrap_in64, optK_some', fzK_false', nilK_ptr, brK_true', brK_false', guardK_tt', guardK_ff', guardK_tf', guardK_ft', takeG_tt', takeG_ff', takeG_tf', takeG_ft', pickK_t', pickK_f', pickT_t', pickT_f', notK, extract2_0', extract2_1', extract3_0', extract3_1', extract3_2', here_load, here_fieldAt, here_indexAt, here_extract, here_un, here_conv, here_slice, here_bin, here_nil, and_here, true_and, Nat.zero_add, Nat.add_assoc, Nat.add_zero, Int.toNat_natCast, size_alloc, World.cell?_drew, World.frozen?_drew, Bool.not_true, Bool.not_false, Int.toNat_zero, dec_t, dec_f, int_eq_t, int_eq_f, int_ne_t, int_ne_f, wrap_in, kbsub3, kbgtr3, kblss3, kbgeq2, kbadd3, klen22, hlen22, kia22, kld2, hT]; try (exact ⟨trivial, trivial⟩))) ?_
    refine take_load (.int .i64 y) (fun w' hq => by have h := Z1 w' hq; (simp (maxSteps := 1000000) (disch := omega) only [hid1', hid2', guardK_u, takeG_u, wrap_in64, optK_some', fzK_false', nilK_ptr, brK_true', brK_false', guardK_tt', guardK_ff', guardK_tf', guardK_ft', takeG_tt', takeG_ff', takeG_tf', takeG_ft', pickK_t', pickK_f', pickT_t', pickT_f', notK, extract2_0', extract2_1', extract3_0', extract3_1', extract3_2', here_load, here_fieldAt, here_indexAt, here_extract, here_un, here_conv, here_slice, here_bin, here_nil, and_here, true_and, Nat.zero_add, Nat.add_assoc, Nat.add_zero, Int.toNat_natCast, size_alloc, World.cell?_drew, World.frozen?_drew, Bool.not_true, Bool.not_false, Int.toNat_zero, dec_t, dec_f, int_eq_t, int_eq_f, int_ne_t, int_ne_f, wrap_in, kbsub3, kbgtr3, kblss3, kbgeq2, kbadd3, klen22, hlen22, kia22, kld2, h]; try (exact ⟨trivial, trivial⟩))) ?_
    by_cases hxy : x < y
    · refine take_bin (.bool false) (fun w' _ => by simp (maxSteps := 1000000) (disch := omega) only [hid1', hid2', guardK_u, takeG_u, wrap_in64, optK_some', fzK_false', nilK_ptr, brK_true', brK_false', guardK_tt', guardK_ff', guardK_tf', guardK_ft', takeG_tt', takeG_ff', takeG_tf', takeG_ft', pickK_t', pickK_f', pickT_t', pickT_f', notK, extract2_0', extract2_1', extract3_0', extract3_1', extract3_2', here_load, here_fieldAt, here_indexAt, here_extract, here_un, here_conv, here_slice, here_bin, here_nil, and_here, true_and, Nat.zero_add, Nat.add_assoc, Nat.add_zero, Int.toNat_natCast, size_alloc, World.cell?_drew, World.frozen?_drew, Bool.not_true, Bool.not_false, Int.toNat_zero, dec_t, dec_f, int_eq_t, int_eq_f, int_ne_t, int_ne_f, wrap_in, kbsub3, kbgtr3, kblss3, kbgeq2, kbadd3, klen22, hlen22, kia22, kld2, here_rfl]; try (exact ⟨trivial, trivial⟩)) ?_
      simp (maxSteps := 1000000) (disch := omega) only [hid1', hid2', guardK_u, takeG_u, wrap_in64, optK_some', fzK_false', nilK_ptr, brK_true', brK_false', guardK_tt', guardK_ff', guardK_tf', guardK_ft', takeG_tt', takeG_ff', takeG_tf', takeG_ft', pickK_t', pickK_f', pickT_t', pickT_f', notK, extract2_0', extract2_1', extract3_0', extract3_1', extract3_2', here_load, here_fieldAt, here_indexAt, here_extract, here_un, here_conv, here_slice, here_bin, here_nil, and_here, true_and, Nat.zero_add, Nat.add_assoc, Nat.add_zero, Int.toNat_natCast, size_alloc, World.cell?_drew, World.frozen?_drew, Bool.not_true, Bool.not_false, Int.toNat_zero, dec_t, dec_f, int_eq_t, int_eq_f, int_ne_t, int_ne_f, wrap_in, kbsub3, kbgtr3, kblss3, kbgeq2, kbadd3, klen22, hlen22, kia22, kld2]
      exact ⟨⟨i + 1, by go_num, by omega, hlo' hxy, kd⟩, by simp [rel, intOf]; omega⟩
    · refine take_bin (.bool true) (fun w' _ => by simp (maxSteps := 1000000) (disch := omega) only [hid1', hid2', guardK_u, takeG_u, wrap_in64, optK_some', fzK_false', nilK_ptr, brK_true', brK_false', guardK_tt', guardK_ff', guardK_tf', guardK_ft', takeG_tt', takeG_ff', takeG_tf', takeG_ft', pickK_t', pickK_f', pickT_t', pickT_f', notK, extract2_0', extract2_1', extract3_0', extract3_1', extract3_2', here_load, here_fieldAt, here_indexAt, here_extract, here_un, here_conv, here_slice, here_bin, here_nil, and_here, true_and, Nat.zero_add, Nat.add_assoc, Nat.add_zero, Int.toNat_natCast, size_alloc, World.cell?_drew, World.frozen?_drew, Bool.not_true, Bool.not_false, Int.toNat_zero, dec_t, dec_f, int_eq_t, int_eq_f, int_ne_t, int_ne_f, wrap_in, kbsub3, kbgtr3, kblss3, kbgeq2, kbadd3, klen22, hlen22, kia22, kld2, here_rfl]; try (exact ⟨trivial, trivial⟩)) ?_
      rw [if_neg (hbad hxy)] at hK
      simp (maxSteps := 1000000) (disch := omega) only [hid1', hid2', guardK_u, takeG_u, wrap_in64, optK_some', fzK_false', nilK_ptr, brK_true', brK_false', guardK_tt', guardK_ff', guardK_tf', guardK_ft', takeG_tt', takeG_ff', takeG_tf', takeG_ft', pickK_t', pickK_f', pickT_t', pickT_f', notK, extract2_0', extract2_1', extract3_0', extract3_1', extract3_2', here_load, here_fieldAt, here_indexAt, here_extract, here_un, here_conv, here_slice, here_bin, here_nil, and_here, true_and, Nat.zero_add, Nat.add_assoc, Nat.add_zero, Int.toNat_natCast, size_alloc, World.cell?_drew, World.frozen?_drew, Bool.not_true, Bool.not_false, Int.toNat_zero, dec_t, dec_f, int_eq_t, int_eq_f, int_ne_t, int_ne_f, wrap_in, kbsub3, kbgtr3, kblss3, kbgeq2, kbadd3, klen22, hlen22, kia22, kld2]
      exact hK _ kd
  · rw [if_pos ((all_up l).2 (fun j hj => hlo j (by omega)))] at hK
    simp (maxSteps := 1000000) (disch := omega) only [hid1', hid2', guardK_u, takeG_u, wrap_in64, optK_some', fzK_false', nilK_ptr, brK_true', brK_false', guardK_tt', guardK_ff', guardK_tf', guardK_ft', takeG_tt', takeG_ff', takeG_tf', takeG_ft', pickK_t', pickK_f', pickT_t', pickT_f', notK, extract2_0', extract2_1', extract3_0', extract3_1', extract3_2', here_load, here_fieldAt, here_indexAt, here_extract, here_un, here_conv, here_slice, here_bin, here_nil, and_here, true_and, Nat.zero_add, Nat.add_assoc, Nat.add_zero, Int.toNat_natCast, size_alloc, World.cell?_drew, World.frozen?_drew, Bool.not_true, Bool.not_false, Int.toNat_zero, dec_t, dec_f, int_eq_t, int_eq_f, int_ne_t, int_ne_f, wrap_in, kbsub3, kbgtr3, kblss3, kbgeq2, kbadd3, klen22, hlen22, kia22, kld2]
    exact hK w1 q1
end Go.Proofs.YtdnlenngbaaeaaaDoor
