/- A sealed row with one byte turned does not open. No program in sight. -/
import Derived.Test.YtpjeohellehgjaaGreatDoorZG
set_option linter.unusedVariables false
set_option linter.unusedSimpArgs false
set_option maxRecDepth 100000
namespace Go.Proofs.YtpjeohellehgjaaGreatDoor
open Go.RowKit Go.Cn
theorem leB_bit (s : Crc.W) (i j : Nat) : (Crc.byteW (leB s i)).getLsbD j = (decide (j < 8) && s.getLsbD (8 * i + j)) := by
  by_cases hj : j < 8
  · unfold Crc.byteW leB
    rw [BitVec.getLsbD_ofNat]
    have : (UInt8.ofNat (s.toNat / 2 ^ (8 * i))).toNat = s.toNat / 2 ^ (8 * i) % 2 ^ 8 := by simp
    rw [this, Nat.testBit_mod_two_pow, Nat.testBit_div_two_pow]
    simp only [hj, decide_true, Bool.true_and, show j < 32 by omega]
    rw [BitVec.getLsbD]
    congr 1
    omega
  · rw [Crc.byteW_bit _ _ (by omega)]; simp [hj]
theorem word_le4 (s : Crc.W) : Crc.word (leB s 0) (leB s 1) (leB s 2) (leB s 3) = s := by
  apply BitVec.eq_of_getLsbD_eq; intro i hi
  unfold Crc.word
  simp only [BitVec.getLsbD_xor, BitVec.getLsbD_shiftLeft, leB_bit]
  by_cases h8 : i < 8
  · simp [h8, show i < 16 by omega, show i < 24 by omega]
  · by_cases h16 : i < 16
    · simp [h8, h16, hi, show i < 24 by omega, show i - 8 < 8 by omega, show 8 + (i - 8) = i by omega]
    · by_cases h24 : i < 24
      · simp [h8, h16, h24, hi, show ¬ i - 8 < 8 by omega, show i - 16 < 8 by omega, show 16 + (i - 16) = i by omega]
      · simp [h8, h16, h24, hi, show ¬ i - 8 < 8 by omega, show ¬ i - 16 < 8 by omega, show i - 24 < 8 by omega, show 24 + (i - 24) = i by omega]
theorem le4_eq (s : Crc.W) : le4 s = [leB s 0, leB s 1, leB s 2, leB s 3] := rfl
theorem run_sealed (l : List UInt8) : Crc.run (BitVec.allOnes 32) (sealed l) = Crc.steps 32 (BitVec.allOnes 32) := by
  unfold sealed
  rw [le4_eq]
  exact (Crc.seal_iff l _ _ _ _).1 (word_le4 _)
theorem turn_len (l e : List UInt8) (h : l.length = e.length) : (Crc.turn l e).length = l.length := by simp [Crc.turn, h]
theorem burst_bad (l : List UInt8) (k m : Nat) (b0 b1 b2 b3 : UInt8) (hw : Crc.word b0 b1 b2 b3 ≠ 0) (hl : (sealed l).length = k + 4 + m) :
    openL (Crc.turn (sealed l) (List.replicate k 0 ++ [b0, b1, b2, b3] ++ List.replicate m 0)) = (10, []) := by
  have hb := Crc.burst (sealed l) k m b0 b1 b2 b3 hl hw
  have hx : (Crc.turn (sealed l) (List.replicate k 0 ++ [b0, b1, b2, b3] ++ List.replicate m 0)).length = k + 4 + m := by
    rw [turn_len]
    · exact hl
    · rw [hl]; simp; omega
  generalize Crc.turn (sealed l) (List.replicate k 0 ++ [b0, b1, b2, b3] ++ List.replicate m 0) = x at *
  refine openL_bad (by omega) fun h => hb ?_
  rw [run_sealed, ← h, run_sealed]
theorem word0 : ∀ n : Fin 256, n.val ≠ 0 → Crc.word (UInt8.ofNat n.val) 0 0 0 ≠ 0 := by decide +kernel
theorem word1 : ∀ n : Fin 256, n.val ≠ 0 → Crc.word 0 (UInt8.ofNat n.val) 0 0 ≠ 0 := by decide +kernel
theorem word2 : ∀ n : Fin 256, n.val ≠ 0 → Crc.word 0 0 (UInt8.ofNat n.val) 0 ≠ 0 := by decide +kernel
theorem word3 : ∀ n : Fin 256, n.val ≠ 0 → Crc.word 0 0 0 (UInt8.ofNat n.val) ≠ 0 := by decide +kernel
/-- One byte of four. -/
def one4b (j : Nat) (x : UInt8) : List UInt8 := [if j = 0 then x else 0, if j = 1 then x else 0, if j = 2 then x else 0, if j = 3 then x else 0]
theorem one4b_at (j : Nat) (x : UInt8) (hj : j < 4) (t : Nat) (ht : t < 4) : (one4b j x)[t]? = some (if t = j then x else 0) := by
  have h1 : j = 0 ∨ j = 1 ∨ j = 2 ∨ j = 3 := by omega
  have h2 : t = 0 ∨ t = 1 ∨ t = 2 ∨ t = 3 := by omega
  rcases h1 with rfl | rfl | rfl | rfl <;> rcases h2 with rfl | rfl | rfl | rfl <;> simp [one4b]
theorem turn_set (s : List UInt8) (k m j : Nat) (x : UInt8) (hj : j < 4) (hl : s.length = k + 4 + m) : Crc.turn s (List.replicate k 0 ++ one4b j x ++ List.replicate m 0) = s.set (k + j) (s.getD (k + j) default ^^^ x) := by
  have hlo : (one4b j x).length = 4 := rfl
  apply List.ext_getElem?
  intro i
  by_cases hi : i < s.length
  · have he : (List.replicate k 0 ++ one4b j x ++ List.replicate m 0)[i]? = some (if i = k + j then x else 0) := by
      by_cases h1 : i < k
      · rw [List.append_assoc, List.getElem?_append_left (by simpa using h1), if_neg (by omega)]
        simp [h1]
      · by_cases h2 : i < k + 4
        · rw [List.getElem?_append_left (by simp [hlo]; omega), List.getElem?_append_right (by simpa using (by omega : k ≤ i))]
          rw [List.length_replicate, one4b_at j x hj (i - k) (by omega)]
          by_cases h3 : i = k + j
          · rw [if_pos (by omega), if_pos h3]
          · rw [if_neg (by omega), if_neg h3]
        · rw [List.getElem?_append_right (by simp [hlo]; omega), if_neg (by omega)]
          rw [List.length_append, List.length_replicate, hlo, List.getElem?_replicate, if_pos (by omega)]
    unfold Crc.turn
    rw [List.getElem?_zipWith, he, List.getElem?_eq_getElem hi, List.getElem?_set]
    by_cases h3 : i = k + j
    · subst h3
      simp [hi]
    · rw [if_neg h3, if_neg (fun h => h3 h.symm), List.getElem?_eq_getElem hi]
      simp
  · rw [List.getElem?_eq_none (by rw [turn_len _ _ (by simp [hlo, hl]; omega)]; omega), List.getElem?_eq_none (by simpa using by omega)]
theorem turned1 (l : List UInt8) (p : Nat) (x : UInt8) (hx : x ≠ 0) (hp : p < (sealed l).length) : openL ((sealed l).set p ((sealed l).getD p default ^^^ x)) = (10, []) := by
  have h4 : 4 ≤ (sealed l).length := by rw [seal_len]; omega
  obtain ⟨k, j, m, rfl, hj, hl⟩ : ∃ k j m, p = k + j ∧ j < 4 ∧ (sealed l).length = k + 4 + m := by
    by_cases h : p + 4 ≤ (sealed l).length
    · exact ⟨p, 0, (sealed l).length - p - 4, by omega, by omega, by omega⟩
    · exact ⟨(sealed l).length - 4, p - ((sealed l).length - 4), 0, by omega, by omega, by omega⟩
  rw [← turn_set _ k m j x hj hl]
  have hn : x.toNat ≠ 0 := fun h => hx (UInt8.toNat_inj.1 h)
  have hx' : UInt8.ofNat x.toNat = x := by simp
  have h1 : j = 0 ∨ j = 1 ∨ j = 2 ∨ j = 3 := by omega
  rcases h1 with rfl | rfl | rfl | rfl
  · exact burst_bad l k m x 0 0 0 (by have := word0 ⟨x.toNat, x.toNat_lt⟩ hn; rwa [hx'] at this) hl
  · exact burst_bad l k m 0 x 0 0 (by have := word1 ⟨x.toNat, x.toNat_lt⟩ hn; rwa [hx'] at this) hl
  · exact burst_bad l k m 0 0 x 0 (by have := word2 ⟨x.toNat, x.toNat_lt⟩ hn; rwa [hx'] at this) hl
  · exact burst_bad l k m 0 0 0 x (by have := word3 ⟨x.toNat, x.toNat_lt⟩ hn; rwa [hx'] at this) hl
end Go.Proofs.YtpjeohellehgjaaGreatDoor
