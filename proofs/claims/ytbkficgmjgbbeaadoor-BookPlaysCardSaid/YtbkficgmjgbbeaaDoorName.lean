/- Names, and a path's parts, of both packages: each by what it computes. Conditions: at most 1000 bytes. -/
import Derived.Test.YtbkficgmjgbbeaaDoorVI
import Derived.Test.YtbkficgmjgbbeaaDoorL6
import Derived.Test.YtbkficgmjgbbeaaDoorShelf
import Derived.Test.YtbkficgmjgbbeaaDoorB
import Derived.Test.YtbkficgmjgbbeaaDoorPath
set_option linter.unusedVariables false
set_option linter.unusedSimpArgs false
set_option maxRecDepth 100000
namespace Go.Proofs.YtbkficgmjgbbeaaDoor
open Go.RowKit Go.Cn
def strs (ps : List (List UInt8)) : List Value := ps.map fun p => .string (txt p)
theorem ix9 (l : List UInt8) (i : Int) (h : 0 ≤ i ∧ i < (l.length : Int)) (K : Value → World → Prop) (w : World) : ValK Tryd.prog (Instr.index 9 (.string (txt l)) (.int .i64 i)) K w = K (.int .u8 ((l.getD i.toNat 0).toNat : Int)) w := index_txt Tryd.underlying9 l .i64 i h K w
theorem c47 : (ByteArray.mk #[47]) = txt [47] := rfl
theorem c0 : (ByteArray.mk #[]) = txt [] := rfl
theorem eq_txt (a b : List UInt8) : ((txt a).toList == (txt b).toList) = decide (a = b) := by
  rw [txt_toList, txt_toList]
  by_cases h : a = b
  · subst h; simp
  · simp [h]
theorem name_any {l : List UInt8} {w : World} {K : Value → World → Prop} (hK : K (.bool (nameL l)) w) : CallK Tryd.prog 65 #[.string (txt l)] K w := by
  refine F65_calls _ _ _ ?_; unfold F65
  have hsz := txt_size l
  by_cases h0 : l = []
  · have e : nameL l = false := by subst h0; rfl
    rw [e] at hK
    have hb : decide (l = []) = true := decide_eq_true h0
    simp (maxSteps := 1000000) (disch := omega) only [hid1', hid2', guardK_u, takeG_u, wrap_in64, optK_some', fzK_false', nilK_ptr, brK_true', brK_false', guardK_tt', guardK_ff', guardK_tf', guardK_ft', takeG_tt', takeG_ff', takeG_tf', takeG_ft', pickK_t', pickK_f', pickT_t', pickT_f', notK, extract2_0', extract2_1', extract3_0', extract3_1', extract3_2', here_load, here_fieldAt, here_indexAt, here_extract, here_un, here_conv, here_slice, here_bin, here_nil, and_here, true_and, Nat.zero_add, Nat.add_assoc, Nat.add_zero, Int.toNat_natCast, size_alloc, World.cell?_drew, World.frozen?_drew, Bool.not_true, Bool.not_false, Int.toNat_zero, dec_t, dec_f, int_eq_t, int_eq_f, int_ne_t, int_ne_f, wrap_in, kbgtr3, klen9, hlen9, kblss3, kbadd3, kbeql9, kblss5, kbgtr5, c0, eq_txt, hb]
    exact hK
  have hb : decide (l = []) = false := decide_eq_false h0
  have hpos : 0 < l.length := List.length_pos_iff.2 h0
  by_cases h8 : 8 < l.length
  · have e : nameL l = false := nameL_no (by omega)
    rw [e] at hK
    simp (maxSteps := 1000000) (disch := omega) only [hid1', hid2', guardK_u, takeG_u, wrap_in64, optK_some', fzK_false', nilK_ptr, brK_true', brK_false', guardK_tt', guardK_ff', guardK_tf', guardK_ft', takeG_tt', takeG_ff', takeG_tf', takeG_ft', pickK_t', pickK_f', pickT_t', pickT_f', notK, extract2_0', extract2_1', extract3_0', extract3_1', extract3_2', here_load, here_fieldAt, here_indexAt, here_extract, here_un, here_conv, here_slice, here_bin, here_nil, and_here, true_and, Nat.zero_add, Nat.add_assoc, Nat.add_zero, Int.toNat_natCast, size_alloc, World.cell?_drew, World.frozen?_drew, Bool.not_true, Bool.not_false, Int.toNat_zero, dec_t, dec_f, int_eq_t, int_eq_f, int_ne_t, int_ne_f, wrap_in, kbgtr3, klen9, hlen9, kblss3, kbadd3, kbeql9, kblss5, kbgtr5, c0, eq_txt, hb, hsz]
    exact hK
  by_cases h97 : (l.getD 0 0).toNat < 97
  · have e : nameL l = false := nameL_no (by omega)
    rw [e] at hK
    simp (maxSteps := 1000000) (disch := omega) only [hid1', hid2', guardK_u, takeG_u, wrap_in64, optK_some', fzK_false', nilK_ptr, brK_true', brK_false', guardK_tt', guardK_ff', guardK_tf', guardK_ft', takeG_tt', takeG_ff', takeG_tf', takeG_ft', pickK_t', pickK_f', pickT_t', pickT_f', notK, extract2_0', extract2_1', extract3_0', extract3_1', extract3_2', here_load, here_fieldAt, here_indexAt, here_extract, here_un, here_conv, here_slice, here_bin, here_nil, and_here, true_and, Nat.zero_add, Nat.add_assoc, Nat.add_zero, Int.toNat_natCast, size_alloc, World.cell?_drew, World.frozen?_drew, Bool.not_true, Bool.not_false, Int.toNat_zero, dec_t, dec_f, int_eq_t, int_eq_f, int_ne_t, int_ne_f, wrap_in, kbgtr3, klen9, hlen9, kblss3, kbadd3, kbeql9, kblss5, kbgtr5, c0, eq_txt, hb, hsz, ix9]
    exact hK
  simp (maxSteps := 1000000) (disch := omega) only [hid1', hid2', guardK_u, takeG_u, wrap_in64, optK_some', fzK_false', nilK_ptr, brK_true', brK_false', guardK_tt', guardK_ff', guardK_tf', guardK_ft', takeG_tt', takeG_ff', takeG_tf', takeG_ft', pickK_t', pickK_f', pickT_t', pickT_f', notK, extract2_0', extract2_1', extract3_0', extract3_1', extract3_2', here_load, here_fieldAt, here_indexAt, here_extract, here_un, here_conv, here_slice, here_bin, here_nil, and_here, true_and, Nat.zero_add, Nat.add_assoc, Nat.add_zero, Int.toNat_natCast, size_alloc, World.cell?_drew, World.frozen?_drew, Bool.not_true, Bool.not_false, Int.toNat_zero, dec_t, dec_f, int_eq_t, int_eq_f, int_ne_t, int_ne_f, wrap_in, kbgtr3, klen9, hlen9, kblss3, kbadd3, kbeql9, kblss5, kbgtr5, c0, eq_txt, hb, hsz, ix9]
  refine loopK1 (fun v w' => w' = w ∧ ∃ i : Nat, v = .int .i64 i ∧ i ≤ l.length ∧ ∀ j, j < i → (97 ≤ (l.getD j 0).toNat ∧ (l.getD j 0).toNat ≤ 122) ∨ (48 ≤ (l.getD j 0).toNat ∧ (l.getD j 0).toNat ≤ 57)) (fun v _ => l.length - (intOf v).toNat) ⟨rfl, 0, rfl, by omega, fun j h => by omega⟩ ?_
  rintro _ _ w' ⟨hw, i, rfl, hi, hlo⟩
  obtain rfl : w' = w := hw
  by_cases hlt : i < l.length
  · have bad : ¬ ((97 ≤ (l.getD i 0).toNat ∧ (l.getD i 0).toNat ≤ 122) ∨ (48 ≤ (l.getD i 0).toNat ∧ (l.getD i 0).toNat ≤ 57)) → K (.bool false) w' := fun hn => by
      have e : nameL l = false := nameL_no (fun h => hn (h.2.2.2.2 i hlt))
      rw [e] at hK; exact hK
    have good : ((97 ≤ (l.getD i 0).toNat ∧ (l.getD i 0).toNat ≤ 122) ∨ (48 ≤ (l.getD i 0).toNat ∧ (l.getD i 0).toNat ≤ 57)) → ∀ j, j < i + 1 → (97 ≤ (l.getD j 0).toNat ∧ (l.getD j 0).toNat ≤ 122) ∨ (48 ≤ (l.getD j 0).toNat ∧ (l.getD j 0).toNat ≤ 57) := fun hg j hj => by
      by_cases e : j = i
      · subst e; exact hg
      · exact hlo j (by omega)
    by_cases ha : (l.getD i 0).toNat < 97
    · by_cases hb1 : (l.getD i 0).toNat < 48
      · simp (maxSteps := 1000000) (disch := omega) only [hid1', hid2', guardK_u, takeG_u, wrap_in64, optK_some', fzK_false', nilK_ptr, brK_true', brK_false', guardK_tt', guardK_ff', guardK_tf', guardK_ft', takeG_tt', takeG_ff', takeG_tf', takeG_ft', pickK_t', pickK_f', pickT_t', pickT_f', notK, extract2_0', extract2_1', extract3_0', extract3_1', extract3_2', here_load, here_fieldAt, here_indexAt, here_extract, here_un, here_conv, here_slice, here_bin, here_nil, and_here, true_and, Nat.zero_add, Nat.add_assoc, Nat.add_zero, Int.toNat_natCast, size_alloc, World.cell?_drew, World.frozen?_drew, Bool.not_true, Bool.not_false, Int.toNat_zero, dec_t, dec_f, int_eq_t, int_eq_f, int_ne_t, int_ne_f, wrap_in, kbgtr3, klen9, hlen9, kblss3, kbadd3, kbeql9, kblss5, kbgtr5, ix9, hsz]
        exact bad (by omega)
      · by_cases hb2 : 57 < (l.getD i 0).toNat
        · simp (maxSteps := 1000000) (disch := omega) only [hid1', hid2', guardK_u, takeG_u, wrap_in64, optK_some', fzK_false', nilK_ptr, brK_true', brK_false', guardK_tt', guardK_ff', guardK_tf', guardK_ft', takeG_tt', takeG_ff', takeG_tf', takeG_ft', pickK_t', pickK_f', pickT_t', pickT_f', notK, extract2_0', extract2_1', extract3_0', extract3_1', extract3_2', here_load, here_fieldAt, here_indexAt, here_extract, here_un, here_conv, here_slice, here_bin, here_nil, and_here, true_and, Nat.zero_add, Nat.add_assoc, Nat.add_zero, Int.toNat_natCast, size_alloc, World.cell?_drew, World.frozen?_drew, Bool.not_true, Bool.not_false, Int.toNat_zero, dec_t, dec_f, int_eq_t, int_eq_f, int_ne_t, int_ne_f, wrap_in, kbgtr3, klen9, hlen9, kblss3, kbadd3, kbeql9, kblss5, kbgtr5, ix9, hsz]
          exact bad (by omega)
        · simp (maxSteps := 1000000) (disch := omega) only [hid1', hid2', guardK_u, takeG_u, wrap_in64, optK_some', fzK_false', nilK_ptr, brK_true', brK_false', guardK_tt', guardK_ff', guardK_tf', guardK_ft', takeG_tt', takeG_ff', takeG_tf', takeG_ft', pickK_t', pickK_f', pickT_t', pickT_f', notK, extract2_0', extract2_1', extract3_0', extract3_1', extract3_2', here_load, here_fieldAt, here_indexAt, here_extract, here_un, here_conv, here_slice, here_bin, here_nil, and_here, true_and, Nat.zero_add, Nat.add_assoc, Nat.add_zero, Int.toNat_natCast, size_alloc, World.cell?_drew, World.frozen?_drew, Bool.not_true, Bool.not_false, Int.toNat_zero, dec_t, dec_f, int_eq_t, int_eq_f, int_ne_t, int_ne_f, wrap_in, kbgtr3, klen9, hlen9, kblss3, kbadd3, kbeql9, kblss5, kbgtr5, ix9, hsz]
          exact ⟨⟨rfl, i + 1, by go_num, by omega, good (by omega)⟩, by simp [rel, intOf]; omega⟩
    · by_cases hb : 122 < (l.getD i 0).toNat
      · simp (maxSteps := 1000000) (disch := omega) only [hid1', hid2', guardK_u, takeG_u, wrap_in64, optK_some', fzK_false', nilK_ptr, brK_true', brK_false', guardK_tt', guardK_ff', guardK_tf', guardK_ft', takeG_tt', takeG_ff', takeG_tf', takeG_ft', pickK_t', pickK_f', pickT_t', pickT_f', notK, extract2_0', extract2_1', extract3_0', extract3_1', extract3_2', here_load, here_fieldAt, here_indexAt, here_extract, here_un, here_conv, here_slice, here_bin, here_nil, and_here, true_and, Nat.zero_add, Nat.add_assoc, Nat.add_zero, Int.toNat_natCast, size_alloc, World.cell?_drew, World.frozen?_drew, Bool.not_true, Bool.not_false, Int.toNat_zero, dec_t, dec_f, int_eq_t, int_eq_f, int_ne_t, int_ne_f, wrap_in, kbgtr3, klen9, hlen9, kblss3, kbadd3, kbeql9, kblss5, kbgtr5, ix9, hsz]
        exact bad (by omega)
      · simp (maxSteps := 1000000) (disch := omega) only [hid1', hid2', guardK_u, takeG_u, wrap_in64, optK_some', fzK_false', nilK_ptr, brK_true', brK_false', guardK_tt', guardK_ff', guardK_tf', guardK_ft', takeG_tt', takeG_ff', takeG_tf', takeG_ft', pickK_t', pickK_f', pickT_t', pickT_f', notK, extract2_0', extract2_1', extract3_0', extract3_1', extract3_2', here_load, here_fieldAt, here_indexAt, here_extract, here_un, here_conv, here_slice, here_bin, here_nil, and_here, true_and, Nat.zero_add, Nat.add_assoc, Nat.add_zero, Int.toNat_natCast, size_alloc, World.cell?_drew, World.frozen?_drew, Bool.not_true, Bool.not_false, Int.toNat_zero, dec_t, dec_f, int_eq_t, int_eq_f, int_ne_t, int_ne_f, wrap_in, kbgtr3, klen9, hlen9, kblss3, kbadd3, kbeql9, kblss5, kbgtr5, ix9, hsz]
        exact ⟨⟨rfl, i + 1, by go_num, by omega, good (by omega)⟩, by simp [rel, intOf]; omega⟩
  · simp (maxSteps := 1000000) (disch := omega) only [hid1', hid2', guardK_u, takeG_u, wrap_in64, optK_some', fzK_false', nilK_ptr, brK_true', brK_false', guardK_tt', guardK_ff', guardK_tf', guardK_ft', takeG_tt', takeG_ff', takeG_tf', takeG_ft', pickK_t', pickK_f', pickT_t', pickT_f', notK, extract2_0', extract2_1', extract3_0', extract3_1', extract3_2', here_load, here_fieldAt, here_indexAt, here_extract, here_un, here_conv, here_slice, here_bin, here_nil, and_here, true_and, Nat.zero_add, Nat.add_assoc, Nat.add_zero, Int.toNat_natCast, size_alloc, World.cell?_drew, World.frozen?_drew, Bool.not_true, Bool.not_false, Int.toNat_zero, dec_t, dec_f, int_eq_t, int_eq_f, int_ne_t, int_ne_f, wrap_in, kbgtr3, klen9, hlen9, kblss3, kbadd3, kbeql9, kblss5, kbgtr5]
    have e : nameL l = true := (nameL_iff l).2 ⟨by omega, by omega, by omega, by
      rcases hlo 0 (by omega) with h | h
      · exact h.2
      · omega, fun j hj => hlo j (by omega)⟩
    rw [e] at hK
    exact hK
theorem nameR_any {l : List UInt8} {w : World} {K : Value → World → Prop} (hK : K (.bool (nameL l)) w) : CallK Tryd.prog 67 #[.string (txt l)] K w := by
  refine F67_calls _ _ _ ?_; unfold F67
  have hsz := txt_size l
  by_cases h0 : l.length < 1
  · have e : nameL l = false := nameL_no (by omega)
    rw [e] at hK
    simp (maxSteps := 1000000) (disch := omega) only [hid1', hid2', guardK_u, takeG_u, wrap_in64, optK_some', fzK_false', nilK_ptr, brK_true', brK_false', guardK_tt', guardK_ff', guardK_tf', guardK_ft', takeG_tt', takeG_ff', takeG_tf', takeG_ft', pickK_t', pickK_f', pickT_t', pickT_f', notK, extract2_0', extract2_1', extract3_0', extract3_1', extract3_2', here_load, here_fieldAt, here_indexAt, here_extract, here_un, here_conv, here_slice, here_bin, here_nil, and_here, true_and, Nat.zero_add, Nat.add_assoc, Nat.add_zero, Int.toNat_natCast, size_alloc, World.cell?_drew, World.frozen?_drew, Bool.not_true, Bool.not_false, Int.toNat_zero, dec_t, dec_f, int_eq_t, int_eq_f, int_ne_t, int_ne_f, wrap_in, kbgtr3, klen9, hlen9, kblss3, kbadd3, kblss5, kbgtr5, hsz]
    exact hK
  by_cases h8 : 8 < l.length
  · have e : nameL l = false := nameL_no (by omega)
    rw [e] at hK
    simp (maxSteps := 1000000) (disch := omega) only [hid1', hid2', guardK_u, takeG_u, wrap_in64, optK_some', fzK_false', nilK_ptr, brK_true', brK_false', guardK_tt', guardK_ff', guardK_tf', guardK_ft', takeG_tt', takeG_ff', takeG_tf', takeG_ft', pickK_t', pickK_f', pickT_t', pickT_f', notK, extract2_0', extract2_1', extract3_0', extract3_1', extract3_2', here_load, here_fieldAt, here_indexAt, here_extract, here_un, here_conv, here_slice, here_bin, here_nil, and_here, true_and, Nat.zero_add, Nat.add_assoc, Nat.add_zero, Int.toNat_natCast, size_alloc, World.cell?_drew, World.frozen?_drew, Bool.not_true, Bool.not_false, Int.toNat_zero, dec_t, dec_f, int_eq_t, int_eq_f, int_ne_t, int_ne_f, wrap_in, kbgtr3, klen9, hlen9, kblss3, kbadd3, kblss5, kbgtr5, hsz]
    exact hK
  by_cases h97 : (l.getD 0 0).toNat < 97
  · have e : nameL l = false := nameL_no (by omega)
    rw [e] at hK
    simp (maxSteps := 1000000) (disch := omega) only [hid1', hid2', guardK_u, takeG_u, wrap_in64, optK_some', fzK_false', nilK_ptr, brK_true', brK_false', guardK_tt', guardK_ff', guardK_tf', guardK_ft', takeG_tt', takeG_ff', takeG_tf', takeG_ft', pickK_t', pickK_f', pickT_t', pickT_f', notK, extract2_0', extract2_1', extract3_0', extract3_1', extract3_2', here_load, here_fieldAt, here_indexAt, here_extract, here_un, here_conv, here_slice, here_bin, here_nil, and_here, true_and, Nat.zero_add, Nat.add_assoc, Nat.add_zero, Int.toNat_natCast, size_alloc, World.cell?_drew, World.frozen?_drew, Bool.not_true, Bool.not_false, Int.toNat_zero, dec_t, dec_f, int_eq_t, int_eq_f, int_ne_t, int_ne_f, wrap_in, kbgtr3, klen9, hlen9, kblss3, kbadd3, kblss5, kbgtr5, hsz, ix9]
    exact hK
  by_cases h122 : 122 < (l.getD 0 0).toNat
  · have e : nameL l = false := nameL_no (by omega)
    rw [e] at hK
    simp (maxSteps := 1000000) (disch := omega) only [hid1', hid2', guardK_u, takeG_u, wrap_in64, optK_some', fzK_false', nilK_ptr, brK_true', brK_false', guardK_tt', guardK_ff', guardK_tf', guardK_ft', takeG_tt', takeG_ff', takeG_tf', takeG_ft', pickK_t', pickK_f', pickT_t', pickT_f', notK, extract2_0', extract2_1', extract3_0', extract3_1', extract3_2', here_load, here_fieldAt, here_indexAt, here_extract, here_un, here_conv, here_slice, here_bin, here_nil, and_here, true_and, Nat.zero_add, Nat.add_assoc, Nat.add_zero, Int.toNat_natCast, size_alloc, World.cell?_drew, World.frozen?_drew, Bool.not_true, Bool.not_false, Int.toNat_zero, dec_t, dec_f, int_eq_t, int_eq_f, int_ne_t, int_ne_f, wrap_in, kbgtr3, klen9, hlen9, kblss3, kbadd3, kblss5, kbgtr5, hsz, ix9]
    exact hK
  simp (maxSteps := 1000000) (disch := omega) only [hid1', hid2', guardK_u, takeG_u, wrap_in64, optK_some', fzK_false', nilK_ptr, brK_true', brK_false', guardK_tt', guardK_ff', guardK_tf', guardK_ft', takeG_tt', takeG_ff', takeG_tf', takeG_ft', pickK_t', pickK_f', pickT_t', pickT_f', notK, extract2_0', extract2_1', extract3_0', extract3_1', extract3_2', here_load, here_fieldAt, here_indexAt, here_extract, here_un, here_conv, here_slice, here_bin, here_nil, and_here, true_and, Nat.zero_add, Nat.add_assoc, Nat.add_zero, Int.toNat_natCast, size_alloc, World.cell?_drew, World.frozen?_drew, Bool.not_true, Bool.not_false, Int.toNat_zero, dec_t, dec_f, int_eq_t, int_eq_f, int_ne_t, int_ne_f, wrap_in, kbgtr3, klen9, hlen9, kblss3, kbadd3, kblss5, kbgtr5, hsz, ix9]
  refine loopK1 (fun v w' => w' = w ∧ ∃ i : Nat, v = .int .i64 i ∧ i ≤ l.length ∧ ∀ j, j < i → (97 ≤ (l.getD j 0).toNat ∧ (l.getD j 0).toNat ≤ 122) ∨ (48 ≤ (l.getD j 0).toNat ∧ (l.getD j 0).toNat ≤ 57)) (fun v _ => l.length - (intOf v).toNat) ⟨rfl, 0, rfl, by omega, fun j h => by omega⟩ ?_
  rintro _ _ w' ⟨hw, i, rfl, hi, hlo⟩
  obtain rfl : w' = w := hw
  by_cases hlt : i < l.length
  · have bad : ¬ ((97 ≤ (l.getD i 0).toNat ∧ (l.getD i 0).toNat ≤ 122) ∨ (48 ≤ (l.getD i 0).toNat ∧ (l.getD i 0).toNat ≤ 57)) → K (.bool false) w' := fun hn => by
      have e : nameL l = false := nameL_no (fun h => hn (h.2.2.2.2 i hlt))
      rw [e] at hK; exact hK
    have good : ((97 ≤ (l.getD i 0).toNat ∧ (l.getD i 0).toNat ≤ 122) ∨ (48 ≤ (l.getD i 0).toNat ∧ (l.getD i 0).toNat ≤ 57)) → ∀ j, j < i + 1 → (97 ≤ (l.getD j 0).toNat ∧ (l.getD j 0).toNat ≤ 122) ∨ (48 ≤ (l.getD j 0).toNat ∧ (l.getD j 0).toNat ≤ 57) := fun hg j hj => by
      by_cases e : j = i
      · subst e; exact hg
      · exact hlo j (by omega)
    by_cases ha : (l.getD i 0).toNat < 97
    · by_cases hb1 : (l.getD i 0).toNat < 48
      · simp (maxSteps := 1000000) (disch := omega) only [hid1', hid2', guardK_u, takeG_u, wrap_in64, optK_some', fzK_false', nilK_ptr, brK_true', brK_false', guardK_tt', guardK_ff', guardK_tf', guardK_ft', takeG_tt', takeG_ff', takeG_tf', takeG_ft', pickK_t', pickK_f', pickT_t', pickT_f', notK, extract2_0', extract2_1', extract3_0', extract3_1', extract3_2', here_load, here_fieldAt, here_indexAt, here_extract, here_un, here_conv, here_slice, here_bin, here_nil, and_here, true_and, Nat.zero_add, Nat.add_assoc, Nat.add_zero, Int.toNat_natCast, size_alloc, World.cell?_drew, World.frozen?_drew, Bool.not_true, Bool.not_false, Int.toNat_zero, dec_t, dec_f, int_eq_t, int_eq_f, int_ne_t, int_ne_f, wrap_in, kbgtr3, klen9, hlen9, kblss3, kbadd3, kblss5, kbgtr5, ix9, hsz]
        exact bad (by omega)
      · by_cases hb2 : 57 < (l.getD i 0).toNat
        · simp (maxSteps := 1000000) (disch := omega) only [hid1', hid2', guardK_u, takeG_u, wrap_in64, optK_some', fzK_false', nilK_ptr, brK_true', brK_false', guardK_tt', guardK_ff', guardK_tf', guardK_ft', takeG_tt', takeG_ff', takeG_tf', takeG_ft', pickK_t', pickK_f', pickT_t', pickT_f', notK, extract2_0', extract2_1', extract3_0', extract3_1', extract3_2', here_load, here_fieldAt, here_indexAt, here_extract, here_un, here_conv, here_slice, here_bin, here_nil, and_here, true_and, Nat.zero_add, Nat.add_assoc, Nat.add_zero, Int.toNat_natCast, size_alloc, World.cell?_drew, World.frozen?_drew, Bool.not_true, Bool.not_false, Int.toNat_zero, dec_t, dec_f, int_eq_t, int_eq_f, int_ne_t, int_ne_f, wrap_in, kbgtr3, klen9, hlen9, kblss3, kbadd3, kblss5, kbgtr5, ix9, hsz]
          exact bad (by omega)
        · simp (maxSteps := 1000000) (disch := omega) only [hid1', hid2', guardK_u, takeG_u, wrap_in64, optK_some', fzK_false', nilK_ptr, brK_true', brK_false', guardK_tt', guardK_ff', guardK_tf', guardK_ft', takeG_tt', takeG_ff', takeG_tf', takeG_ft', pickK_t', pickK_f', pickT_t', pickT_f', notK, extract2_0', extract2_1', extract3_0', extract3_1', extract3_2', here_load, here_fieldAt, here_indexAt, here_extract, here_un, here_conv, here_slice, here_bin, here_nil, and_here, true_and, Nat.zero_add, Nat.add_assoc, Nat.add_zero, Int.toNat_natCast, size_alloc, World.cell?_drew, World.frozen?_drew, Bool.not_true, Bool.not_false, Int.toNat_zero, dec_t, dec_f, int_eq_t, int_eq_f, int_ne_t, int_ne_f, wrap_in, kbgtr3, klen9, hlen9, kblss3, kbadd3, kblss5, kbgtr5, ix9, hsz]
          exact ⟨⟨rfl, i + 1, by go_num, by omega, good (by omega)⟩, by simp [rel, intOf]; omega⟩
    · by_cases hb : 122 < (l.getD i 0).toNat
      · simp (maxSteps := 1000000) (disch := omega) only [hid1', hid2', guardK_u, takeG_u, wrap_in64, optK_some', fzK_false', nilK_ptr, brK_true', brK_false', guardK_tt', guardK_ff', guardK_tf', guardK_ft', takeG_tt', takeG_ff', takeG_tf', takeG_ft', pickK_t', pickK_f', pickT_t', pickT_f', notK, extract2_0', extract2_1', extract3_0', extract3_1', extract3_2', here_load, here_fieldAt, here_indexAt, here_extract, here_un, here_conv, here_slice, here_bin, here_nil, and_here, true_and, Nat.zero_add, Nat.add_assoc, Nat.add_zero, Int.toNat_natCast, size_alloc, World.cell?_drew, World.frozen?_drew, Bool.not_true, Bool.not_false, Int.toNat_zero, dec_t, dec_f, int_eq_t, int_eq_f, int_ne_t, int_ne_f, wrap_in, kbgtr3, klen9, hlen9, kblss3, kbadd3, kblss5, kbgtr5, ix9, hsz]
        exact bad (by omega)
      · simp (maxSteps := 1000000) (disch := omega) only [hid1', hid2', guardK_u, takeG_u, wrap_in64, optK_some', fzK_false', nilK_ptr, brK_true', brK_false', guardK_tt', guardK_ff', guardK_tf', guardK_ft', takeG_tt', takeG_ff', takeG_tf', takeG_ft', pickK_t', pickK_f', pickT_t', pickT_f', notK, extract2_0', extract2_1', extract3_0', extract3_1', extract3_2', here_load, here_fieldAt, here_indexAt, here_extract, here_un, here_conv, here_slice, here_bin, here_nil, and_here, true_and, Nat.zero_add, Nat.add_assoc, Nat.add_zero, Int.toNat_natCast, size_alloc, World.cell?_drew, World.frozen?_drew, Bool.not_true, Bool.not_false, Int.toNat_zero, dec_t, dec_f, int_eq_t, int_eq_f, int_ne_t, int_ne_f, wrap_in, kbgtr3, klen9, hlen9, kblss3, kbadd3, kblss5, kbgtr5, ix9, hsz]
        exact ⟨⟨rfl, i + 1, by go_num, by omega, good (by omega)⟩, by simp [rel, intOf]; omega⟩
  · simp (maxSteps := 1000000) (disch := omega) only [hid1', hid2', guardK_u, takeG_u, wrap_in64, optK_some', fzK_false', nilK_ptr, brK_true', brK_false', guardK_tt', guardK_ff', guardK_tf', guardK_ft', takeG_tt', takeG_ff', takeG_tf', takeG_ft', pickK_t', pickK_f', pickT_t', pickT_f', notK, extract2_0', extract2_1', extract3_0', extract3_1', extract3_2', here_load, here_fieldAt, here_indexAt, here_extract, here_un, here_conv, here_slice, here_bin, here_nil, and_here, true_and, Nat.zero_add, Nat.add_assoc, Nat.add_zero, Int.toNat_natCast, size_alloc, World.cell?_drew, World.frozen?_drew, Bool.not_true, Bool.not_false, Int.toNat_zero, dec_t, dec_f, int_eq_t, int_eq_f, int_ne_t, int_ne_f, wrap_in, kbgtr3, klen9, hlen9, kblss3, kbadd3, kblss5, kbgtr5, hsz]
    have e : nameL l = true := (nameL_iff l).2 ⟨by omega, by omega, by omega, by omega, fun j hj => hlo j (by omega)⟩
    rw [e] at hK
    exact hK
/-- strings.CutPrefix of a stroke. -/
theorem cutPrefix_any {l : List UInt8} {w : World} {K : Value → World → Prop} (hK : K (.tuple #[.string (txt (if l.headD 0 = 47 then l.tail else l)), .bool (decide (l.headD 0 = 47))]) w) : CallK Tryd.prog 70 #[.string (txt l), .string (txt [47])] K w := by
  refine F70_calls _ _ _ _ ?_; unfold F70
  refine ck74 ?_
  refine F74_calls _ _ _ _ ?_; unfold F74
  refine ck76 ?_
  refine F76_calls _ _ _ _ ?_; unfold F76
  have hsz := txt_size l
  have h1 : (txt [47]).size = 1 := rfl
  have hn1 : ((1 : Nat) : Int) = 1 := rfl
  cases l with
  | nil =>
    have e0 : ((([] : List UInt8).length : Nat) : Int) = 0 := rfl
    have hd : decide ((([] : List UInt8).headD 0) = 47) = false := rfl
    rw [hd] at hK
    simp (maxSteps := 1000000) (disch := omega) only [hid1', hid2', guardK_u, takeG_u, wrap_in64, optK_some', fzK_false', nilK_ptr, brK_true', brK_false', guardK_tt', guardK_ff', guardK_tf', guardK_ft', takeG_tt', takeG_ff', takeG_tf', takeG_ft', pickK_t', pickK_f', pickT_t', pickT_f', notK, extract2_0', extract2_1', extract3_0', extract3_1', extract3_2', here_load, here_fieldAt, here_indexAt, here_extract, here_un, here_conv, here_slice, here_bin, here_nil, and_here, true_and, Nat.zero_add, Nat.add_assoc, Nat.add_zero, Int.toNat_natCast, size_alloc, World.cell?_drew, World.frozen?_drew, Bool.not_true, Bool.not_false, Int.toNat_zero, dec_t, dec_f, int_eq_t, int_eq_f, int_ne_t, int_ne_f, wrap_in, klen9, hlen9, kbgeq3, kbeql9, hsz, h1, hn1, e0]
    exact hK
  | cons c r =>
    have hlen : (((c :: r).length : Nat) : Int) = (r.length : Int) + 1 := by simp
    have hsl : ∀ (K : Value → World → Prop) (w : World), SliceK Tryd.prog 9 (.string (txt (c :: r))) none (some (.int .i64 1)) none K w = K (.string (txt [c])) w := fun K w => slice_txt_h Tryd.underlying9 (c :: r) 1 (by simp) K w
    have hsl2 : ∀ (K : Value → World → Prop) (w : World), SliceK Tryd.prog 9 (.string (txt (c :: r))) (some (.int .i64 1)) none none K w = K (.string (txt r)) w := fun K w => slice_txt_l Tryd.underlying9 (c :: r) 1 (by simp) K w
    by_cases hc : c = 47
    · have hd : decide ((c :: r).headD 0 = 47) = true := decide_eq_true hc
      have hi : (if (c :: r).headD 0 = 47 then (c :: r).tail else c :: r) = r := if_pos hc
      rw [hd, hi] at hK
      have he : decide ([c] = [47]) = true := by subst hc; rfl
      simp (maxSteps := 1000000) (disch := omega) only [hid1', hid2', guardK_u, takeG_u, wrap_in64, optK_some', fzK_false', nilK_ptr, brK_true', brK_false', guardK_tt', guardK_ff', guardK_tf', guardK_ft', takeG_tt', takeG_ff', takeG_tf', takeG_ft', pickK_t', pickK_f', pickT_t', pickT_f', notK, extract2_0', extract2_1', extract3_0', extract3_1', extract3_2', here_load, here_fieldAt, here_indexAt, here_extract, here_un, here_conv, here_slice, here_bin, here_nil, and_here, true_and, Nat.zero_add, Nat.add_assoc, Nat.add_zero, Int.toNat_natCast, size_alloc, World.cell?_drew, World.frozen?_drew, Bool.not_true, Bool.not_false, Int.toNat_zero, dec_t, dec_f, int_eq_t, int_eq_f, int_ne_t, int_ne_f, wrap_in, klen9, hlen9, kbgeq3, kbeql9, hsz, h1, hn1, hlen, hsl, eq_txt, he, hsl2]
      exact hK
    · have hd : decide ((c :: r).headD 0 = 47) = false := decide_eq_false hc
      have hi : (if (c :: r).headD 0 = 47 then (c :: r).tail else c :: r) = c :: r := if_neg hc
      rw [hd, hi] at hK
      have he : decide ([c] = [47]) = false := decide_eq_false (by simpa using hc)
      simp (maxSteps := 1000000) (disch := omega) only [hid1', hid2', guardK_u, takeG_u, wrap_in64, optK_some', fzK_false', nilK_ptr, brK_true', brK_false', guardK_tt', guardK_ff', guardK_tf', guardK_ft', takeG_tt', takeG_ff', takeG_tf', takeG_ft', pickK_t', pickK_f', pickT_t', pickT_f', notK, extract2_0', extract2_1', extract3_0', extract3_1', extract3_2', here_load, here_fieldAt, here_indexAt, here_extract, here_un, here_conv, here_slice, here_bin, here_nil, and_here, true_and, Nat.zero_add, Nat.add_assoc, Nat.add_zero, Int.toNat_natCast, size_alloc, World.cell?_drew, World.frozen?_drew, Bool.not_true, Bool.not_false, Int.toNat_zero, dec_t, dec_f, int_eq_t, int_eq_f, int_ne_t, int_ne_f, wrap_in, klen9, hlen9, kbgeq3, kbeql9, hsz, h1, hn1, hlen, hsl, eq_txt, he, hsl2]
      exact hK
/-- strings.Split at strokes; m: what internal/bytealg.MaxLen holds. -/
theorem split_any {l : List UInt8} {w : World} {K : Value → World → Prop} (hl : l.length ≤ 50000) {m : Int} (hm : w.cell? ⟨0, 0, none⟩ = some (.int .i64 m))
    (hK : ∀ g w', Own w' 9 1 (.slice (some ⟨g, 0, none⟩) (splitL l).length (splitL l).length) (splitL l).length (strs (splitL l)) (some g) → Qt w w' → w.heap.size ≤ g → K (.slice (some ⟨g, 0, none⟩) (splitL l).length (splitL l).length) w') : CallV Tryd.prog (.func (.func 71) #[] #[]) #[.string (txt l), .string (txt [47])] K w := by
  refine callV_func Tryd.func71 (by kernel_rfl) (by kernel_rfl) ((Tryd.strings_Split (txt l) (txt [47]) m w (by rw [txt_size]; omega) hm (by rw [txt_size]; simp)).mono ?_)
  rintro e w' ⟨rfl, rfl⟩
  rw [split_txt, split_count]
  refine hK _ _ ?_ (Chg.alloc Qt.refl _) (Nat.le_refl _)
  refine .inr ⟨w.heap.size, (splitL l).length, rfl, rfl, by simp [strs], _, blk_new _ _, Nat.le_refl _, ?_, by simp, ?_⟩
  · have : (splitL l).length ≤ l.length + 1 := splitL_len l
    unfold maxLen; omega
  · simp only [List.map_map]
    rw [List.take_of_length_le (by simp)]; rfl
end Go.Proofs.YtbkficgmjgbbeaaDoor
