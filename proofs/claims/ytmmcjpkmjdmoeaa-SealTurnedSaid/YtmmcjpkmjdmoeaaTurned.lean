/- A sealed row with up to 32 bits turned anywhere does not open. No program in sight. -/
import Derived.Test.YtmmcjpkmjdmoeaaOpen
set_option linter.unusedVariables false
set_option linter.unusedSimpArgs false
namespace Go.Proofs.Ytmmcjpkmjdmoeaa
open Go.RowKit Go.Cn
theorem leB_bit (s : Crc.W) (i j : Nat) : (Crc.byteW (leB s i)).getLsbD j = (decide (j < 8) && s.getLsbD (8 * i + j)) := by
  by_cases hj : j < 8
  · unfold Crc.byteW leB
    rw [BitVec.getLsbD_ofNat]
    have : (UInt8.ofNat (s.toNat / 2 ^ (8 * i))).toNat = s.toNat / 2 ^ (8 * i) % 2 ^ 8 := by simp
    rw [this, Nat.testBit_mod_two_pow, Nat.testBit_div_two_pow]
    simp only [hj, decide_true, Bool.true_and, show j < 32 by omega]
    rw [BitVec.getLsbD]
    congr 1
    omega
  · rw [Crc.byteW_bit _ _ (by omega)]; simp [hj]
theorem word_le4 (s : Crc.W) : Crc.word (leB s 0) (leB s 1) (leB s 2) (leB s 3) = s := by
  apply BitVec.eq_of_getLsbD_eq; intro i hi
  unfold Crc.word
  simp only [BitVec.getLsbD_xor, BitVec.getLsbD_shiftLeft, leB_bit]
  by_cases h8 : i < 8
  · simp [h8, show i < 16 by omega, show i < 24 by omega]
  · by_cases h16 : i < 16
    · simp [h8, h16, hi, show i < 24 by omega, show i - 8 < 8 by omega, show 8 + (i - 8) = i by omega]
    · by_cases h24 : i < 24
      · simp [h8, h16, h24, hi, show ¬ i - 8 < 8 by omega, show i - 16 < 8 by omega, show 16 + (i - 16) = i by omega]
      · simp [h8, h16, h24, hi, show ¬ i - 8 < 8 by omega, show ¬ i - 16 < 8 by omega, show i - 24 < 8 by omega, show 24 + (i - 24) = i by omega]
theorem le4_eq (s : Crc.W) : le4 s = [leB s 0, leB s 1, leB s 2, leB s 3] := rfl
theorem run_sealed (l : List UInt8) : Crc.run (BitVec.allOnes 32) (sealed l) = Crc.steps 32 (BitVec.allOnes 32) := by
  unfold sealed
  rw [le4_eq]
  exact (Crc.seal_iff l _ _ _ _).1 (word_le4 _)
theorem turn_len (l e : List UInt8) (h : l.length = e.length) : (Crc.turn l e).length = l.length := by simp [Crc.turn, h]
theorem turned_bad (l : List UInt8) (k m : Nat) (d : Crc.W) (hd : d ≠ 0) (hl : (sealed l).length = k + 4 + m) :
    openL (Crc.turn (sealed l) (List.replicate k 0 ++ le4 d ++ List.replicate m 0)) = (10, []) := by
  have hb := Crc.burst (sealed l) k m (leB d 0) (leB d 1) (leB d 2) (leB d 3) hl (by rw [word_le4]; exact hd)
  rw [← le4_eq] at hb
  have hx : (Crc.turn (sealed l) (List.replicate k 0 ++ le4 d ++ List.replicate m 0)).length = k + 4 + m := by
    rw [turn_len]
    · exact hl
    · rw [hl]; simp [le4]; omega
  generalize Crc.turn (sealed l) (List.replicate k 0 ++ le4 d ++ List.replicate m 0) = x at *
  refine openL_bad (by omega) fun h => hb ?_
  rw [run_sealed, ← h, run_sealed]
/-- The row after the first i of the four bytes have been turned. -/
def part (s : List UInt8) (k : Nat) (d : Crc.W) (i : Nat) : List UInt8 := (List.range s.length).map fun j => if k ≤ j ∧ j < k + i then s.getD j default ^^^ leB d (j - k) else s.getD j default
theorem part_len (s : List UInt8) (k : Nat) (d : Crc.W) (i : Nat) : (part s k d i).length = s.length := by simp [part]
theorem part_zero (s : List UInt8) (k : Nat) (d : Crc.W) : part s k d 0 = s := by
  apply List.ext_getElem
  · simp [part]
  · intro j h1 h2
    simp [part, show ¬ (k ≤ j ∧ j < k) by omega, h2]
theorem part_get (s : List UInt8) (k : Nat) (d : Crc.W) (i : Nat) (h : k + i < s.length) : ((part s k d i).map vb)[k + i]? = some (vb (s.getD (k + i) default)) := by
  simp [part, h]
theorem part_set (s : List UInt8) (k : Nat) (d : Crc.W) (i : Nat) (h : k + i < s.length) : ((part s k d i).map vb).set (k + i) (vb (s.getD (k + i) default ^^^ leB d i)) = (part s k d (i + 1)).map vb := by
  apply List.ext_getElem
  · simp [part]
  · intro j h1 h2
    have hj : j < s.length := by simpa [part] using h2
    rw [List.getElem_set]
    by_cases e : k + i = j
    · subst e
      simp [part, show k ≤ k + i ∧ k + i < k + (i + 1) by omega]
    · rw [if_neg e]
      by_cases c : k ≤ j ∧ j < k + i
      · have c2 : k ≤ j ∧ j < k + (i + 1) := by omega
        simp only [part, List.getElem_map, List.getElem_range, if_pos c, if_pos c2]
      · have c2 : ¬ (k ≤ j ∧ j < k + (i + 1)) := by omega
        simp only [part, List.getElem_map, List.getElem_range, if_neg c, if_neg c2]
theorem part_full (s : List UInt8) (k m : Nat) (d : Crc.W) (hl : s.length = k + 4 + m) : part s k d 4 = Crc.turn s (List.replicate k 0 ++ le4 d ++ List.replicate m 0) := by
  apply List.ext_getElem
  · rw [part_len, turn_len]; rw [hl]; simp [le4]; omega
  · intro j h1 h2
    have hj : j < s.length := by simpa [part] using h1
    have hz : s.getD j default = s[j] := by simp [hj]
    simp only [part, Crc.turn, List.getElem_map, List.getElem_range, List.getElem_zipWith, hz]
    by_cases c1 : j < k
    · rw [if_neg (by omega), List.getElem_append_left (by simp [le4]; omega), List.getElem_append_left (by simp; omega)]
      simp
    · by_cases c2 : j < k + 4
      · rw [if_pos (by omega), List.getElem_append_left (by simp [le4]; omega), List.getElem_append_right (by simp; omega)]
        simp [le4]
      · rw [if_neg (by omega), List.getElem_append_right (by simp [le4]; omega)]
        simp
end Go.Proofs.Ytmmcjpkmjdmoeaa
