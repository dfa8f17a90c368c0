/- The sum of bytes as a plain function of words of 32 bits, and what a burst of up to 32 bits does to it. No program in sight. -/
import Derived.Test.YtpdhmbbmhomlnaaDoorL0
set_option linter.unusedVariables false
set_option linter.unusedSimpArgs false
namespace Go.Cn.Crc
abbrev W := BitVec 32
def poly : W := 0xEDB88320#32
/-- One bit's step. -/
def step (s : W) : W := if s.getLsbD 0 then (s >>> 1) ^^^ poly else s >>> 1
def steps : Nat → W → W
  | 0, s => s
  | n + 1, s => steps n (step s)
theorem steps_add (m n : Nat) (s : W) : steps (m + n) s = steps n (steps m s) := by
  induction m generalizing s with
  | zero => simp [steps]
  | succ m ih => rw [Nat.succ_add]; exact ih (step s)
theorem step_xor (a b : W) : step (a ^^^ b) = step a ^^^ step b := by
  unfold step
  rw [BitVec.getLsbD_xor]
  have hs : (a ^^^ b) >>> 1 = (a >>> 1) ^^^ (b >>> 1) := by
    apply BitVec.eq_of_getLsbD_eq; intro i hi
    simp only [BitVec.getLsbD_ushiftRight, BitVec.getLsbD_xor]
  rw [hs]
  generalize a >>> 1 = x
  generalize b >>> 1 = y
  cases a.getLsbD 0 <;> cases b.getLsbD 0 <;> simp
  · rw [BitVec.xor_assoc]
  · rw [BitVec.xor_assoc, BitVec.xor_assoc, BitVec.xor_comm y poly]
  · rw [BitVec.xor_assoc, BitVec.xor_comm poly (y ^^^ poly), BitVec.xor_assoc y poly poly, BitVec.xor_self, BitVec.xor_zero]
theorem steps_xor (n : Nat) (a b : W) : steps n (a ^^^ b) = steps n a ^^^ steps n b := by
  induction n generalizing a b with
  | zero => rfl
  | succ n ih => simp only [steps]; rw [step_xor, ih]
theorem step_eq_zero {s : W} (h : step s = 0) : s = 0 := by
  unfold step at h
  have hz : ∀ i, i < 32 → s.getLsbD i = false := by
    cases h0 : s.getLsbD 0 with
    | true =>
      rw [h0, if_pos rfl] at h
      have := congrArg (fun x => BitVec.getLsbD x 31) h
      simp [poly, BitVec.getLsbD_ushiftRight] at this
    | false =>
      rw [h0] at h
      simp only [Bool.false_eq_true, if_false] at h
      intro i hi
      cases i with
      | zero => exact h0
      | succ i =>
        have := congrArg (fun x => BitVec.getLsbD x i) h
        simp [BitVec.getLsbD_ushiftRight] at this
        rw [Nat.add_comm] at this
        exact this
  apply BitVec.eq_of_getLsbD_eq; intro i hi
  rw [hz i hi]; simp
theorem steps_eq_zero (n : Nat) {s : W} (h : steps n s = 0) : s = 0 := by
  induction n generalizing s with
  | zero => exact h
  | succ n ih => exact step_eq_zero (ih h)
theorem step_shl (y : W) (h : y.getLsbD 31 = false) : step (y <<< 1) = y := by
  unfold step
  have h0 : (y <<< 1).getLsbD 0 = false := by simp [BitVec.getLsbD_shiftLeft]
  rw [h0]
  simp only [Bool.false_eq_true, if_false]
  apply BitVec.eq_of_getLsbD_eq; intro i hi
  simp only [BitVec.getLsbD_ushiftRight, BitVec.getLsbD_shiftLeft]
  by_cases h31 : i = 31
  · subst h31; rw [h]; simp
  · have e1 : 1 + i < 32 := by omega
    simp [e1, show ¬ (1 + i < 1) by omega]
theorem steps_shl : ∀ (n : Nat) (y : W), (∀ i, 32 - n ≤ i → y.getLsbD i = false) → n ≤ 32 → steps n (y <<< n) = y
  | 0, y, _, _ => by simp [steps]
  | n + 1, y, h, hn => by
    have e : y <<< (n + 1) = (y <<< n) <<< 1 := by rw [BitVec.shiftLeft_add]
    rw [steps, e, step_shl]
    · exact steps_shl n y (fun i hi => h i (by omega)) (by omega)
    · simp only [BitVec.getLsbD_shiftLeft]
      by_cases hlt : 31 < n
      · simp [hlt]
      · rw [h (31 - n) (by omega)]; simp
def byteW (b : UInt8) : W := BitVec.ofNat 32 b.toNat
theorem byteW_bit (b : UInt8) (i : Nat) (hi : 8 ≤ i) : (byteW b).getLsbD i = false := by
  unfold byteW
  rw [BitVec.getLsbD_ofNat]
  have : b.toNat < 2 ^ i := Nat.lt_of_lt_of_le (UInt8.toNat_lt b) (Nat.pow_le_pow_right (by omega) hi)
  simp [Nat.testBit_lt_two_pow this]
/-- A byte taken in. -/
def take (s : W) (b : UInt8) : W := steps 8 (s ^^^ byteW b)
def run (s : W) (l : List UInt8) : W := l.foldl take s
def sum (l : List UInt8) : W := ~~~ run (BitVec.allOnes 32) l
theorem run_append (s : W) (a b : List UInt8) : run s (a ++ b) = run (run s a) b := List.foldl_append ..
/-- The word of four bytes, the least first. -/
def word (a b c d : UInt8) : W := byteW a ^^^ (byteW b <<< 8) ^^^ (byteW c <<< 16) ^^^ (byteW d <<< 24)
theorem run_word (s : W) (a b c d : UInt8) : run s [a, b, c, d] = steps 32 (s ^^^ word a b c d) := by
  have hb : ∀ (x : UInt8) (n : Nat), n ≤ 24 → steps n (byteW x <<< n) = byteW x := fun x n hn => steps_shl n _ (fun i hi => byteW_bit x i (by omega)) (by omega)
  have e8 : steps 32 (s ^^^ word a b c d) = steps 8 (steps 24 (s ^^^ word a b c d)) := by rw [← steps_add]
  have e24 : ∀ x, steps 24 x = steps 8 (steps 16 x) := fun x => by rw [← steps_add]
  have e16 : ∀ x, steps 16 x = steps 8 (steps 8 x) := fun x => by rw [← steps_add]
  simp only [run, List.foldl_cons, List.foldl_nil, take]
  rw [e8]
  congr 1
  have w1 : s ^^^ word a b c d = (s ^^^ byteW a) ^^^ (byteW b <<< 8) ^^^ (byteW c <<< 16) ^^^ (byteW d <<< 24) := by
    unfold word; simp only [BitVec.xor_assoc]
  have key : steps 24 (s ^^^ byteW a ^^^ byteW b <<< 8 ^^^ byteW c <<< 16 ^^^ byteW d <<< 24) = steps 24 (s ^^^ byteW a) ^^^ steps 24 (byteW b <<< 8) ^^^ steps 24 (byteW c <<< 16) ^^^ steps 24 (byteW d <<< 24) := by rw [steps_xor, steps_xor, steps_xor]
  have f24 : ∀ x, steps 24 x = steps 16 (steps 8 x) := fun x => by rw [← steps_add]
  have g24 : ∀ x, steps 24 x = steps 8 (steps 16 x) := fun x => by rw [← steps_add]
  rw [w1, key, hb d 24 (by omega), f24 (byteW b <<< 8), hb b 8 (by omega), g24 (byteW c <<< 16), hb c 16 (by omega)]
  rw [steps_xor, steps_xor, steps_xor, e24 (s ^^^ byteW a), e16 (s ^^^ byteW a), e16 (byteW b)]
/-- Bytes turned, one by one. -/
def turn (l e : List UInt8) : List UInt8 := List.zipWith (· ^^^ ·) l e
theorem byteW_xor (a b : UInt8) : byteW (a ^^^ b) = byteW a ^^^ byteW b := by
  unfold byteW
  apply BitVec.eq_of_getLsbD_eq; intro i hi
  simp only [BitVec.getLsbD_ofNat, BitVec.getLsbD_xor, UInt8.toNat_xor, Nat.testBit_xor]
  simp [hi]
theorem take_xor (s t : W) (a b : UInt8) : take (s ^^^ t) (a ^^^ b) = take s a ^^^ take t b := by
  unfold take
  rw [byteW_xor, ← steps_xor]
  congr 1
  rw [BitVec.xor_assoc, BitVec.xor_assoc, ← BitVec.xor_assoc t, BitVec.xor_comm t, BitVec.xor_assoc (byteW a)]
theorem run_turn : ∀ (l e : List UInt8) (s t : W), l.length = e.length → run (s ^^^ t) (turn l e) = run s l ^^^ run t e
  | [], [], s, t, _ => rfl
  | a :: l, b :: e, s, t, h => by
    simp only [turn, List.zipWith_cons_cons, run, List.foldl_cons]
    rw [take_xor]
    exact run_turn l e _ _ (by simpa using h)
theorem run_zeros (n : Nat) (s : W) : run s (List.replicate n 0) = steps (8 * n) s := by
  induction n generalizing s with
  | zero => rfl
  | succ n ih =>
    rw [List.replicate_succ, run, List.foldl_cons, show 8 * (n + 1) = 8 + 8 * n by omega, steps_add]
    have : take s 0 = steps 8 s := by unfold take byteW; simp
    rw [this]; exact ih _
theorem steps_zero (n : Nat) : steps n 0 = 0 := by
  induction n with
  | zero => rfl
  | succ n ih => rw [steps, show step 0 = 0 from rfl]; exact ih
theorem allOnes_xor (x : W) : x ^^^ ~~~ x = BitVec.allOnes 32 := by
  apply BitVec.eq_of_getLsbD_eq; intro i hi
  rw [BitVec.getLsbD_xor, BitVec.getLsbD_not, BitVec.getLsbD_allOnes]
  cases x.getLsbD i <;> simp [hi]
/-- Four bytes behind l are its sum just when the whole runs to a fixed word. -/
theorem seal_iff (l : List UInt8) (a b c d : UInt8) : word a b c d = sum l ↔ run (BitVec.allOnes 32) (l ++ [a, b, c, d]) = steps 32 (BitVec.allOnes 32) := by
  rw [run_append, run_word]
  constructor
  · intro h; rw [h, sum, allOnes_xor]
  · intro h
    have h1 : steps 32 ((run (BitVec.allOnes 32) l ^^^ word a b c d) ^^^ BitVec.allOnes 32) = 0 := by rw [steps_xor, h, BitVec.xor_self]; rfl
    have h2 := steps_eq_zero 32 h1
    unfold sum
    apply BitVec.eq_of_getLsbD_eq; intro i hi
    have := congrArg (fun x => BitVec.getLsbD x i) h2
    simp only [BitVec.getLsbD_xor, BitVec.getLsbD_allOnes, hi, decide_true] at this
    rw [BitVec.getLsbD_not]
    simp only [hi, decide_true, Bool.true_and]
    have hz : (0 : W).getLsbD i = false := by simp
    rw [hz] at this
    revert this
    cases (run (BitVec.allOnes 32) l).getLsbD i <;> cases (word a b c d).getLsbD i <;> simp
/-- A burst of up to 32 bits, anywhere, turns what the whole runs to. -/
theorem burst (l : List UInt8) (k m : Nat) (a b c d : UInt8) (hl : l.length = k + 4 + m) (hw : word a b c d ≠ 0) :
    run (BitVec.allOnes 32) (turn l (List.replicate k 0 ++ [a, b, c, d] ++ List.replicate m 0)) ≠ run (BitVec.allOnes 32) l := by
  intro h
  have h1 := run_turn l (List.replicate k 0 ++ [a, b, c, d] ++ List.replicate m 0) (BitVec.allOnes 32) 0 (by simp [hl]; omega)
  rw [show BitVec.allOnes 32 ^^^ (0 : W) = BitVec.allOnes 32 from rfl, h] at h1
  have h2 : run 0 (List.replicate k 0 ++ [a, b, c, d] ++ List.replicate m 0) = 0 := by
    have : run (BitVec.allOnes 32) l ^^^ run (BitVec.allOnes 32) l = run (BitVec.allOnes 32) l ^^^ (run (BitVec.allOnes 32) l ^^^ run 0 (List.replicate k 0 ++ [a, b, c, d] ++ List.replicate m 0)) := by rw [← h1]
    rw [← BitVec.xor_assoc, BitVec.xor_self, BitVec.zero_xor] at this
    exact this.symm
  rw [run_append, run_append, run_zeros, run_zeros, steps_zero, run_word, show (0 : W) ^^^ word a b c d = word a b c d from BitVec.zero_xor] at h2
  exact hw (steps_eq_zero _ (steps_eq_zero _ h2))
end Go.Cn.Crc
