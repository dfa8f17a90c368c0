/- A text that is cut ends too early; a number in a byte too many is none. No program in sight. -/
import Derived.Test.YtmmcjpkmjdmoeaaDec
set_option linter.unusedVariables false
set_option linter.unusedSimpArgs false
namespace Go.Proofs.Ytmmcjpkmjdmoeaa
open Go.RowKit Go.Cn Go.Cn.Num
theorem numD_cut : ∀ (k i v x j : Nat), i + k = 9 → x < 2 ^ (64 - 7 * i) → (0 < i → 0 < x) → j < (vbytes x).length → numD i v ((vbytes x).take j) = (3, 0, []) := by
  intro k
  induction k with
  | zero =>
    intro i v x j hi hx h0 hj
    obtain rfl : i = 9 := by omega
    have hx2 : x < 2 := by simpa using hx
    rw [vbytes_small (by omega)] at hj ⊢
    obtain rfl : j = 0 := by simpa using hj
    rfl
  | succ k ih =>
    intro i v x j hi hx h0 hj
    by_cases hs : x < 128
    · rw [vbytes_small hs] at hj ⊢
      obtain rfl : j = 0 := by simpa using hj
      rfl
    · rw [vbytes_big hs] at hj ⊢
      cases j with
      | zero => rfl
      | succ j =>
        have e : (UInt8.ofNat (x % 128 + 128)).toNat = x % 128 + 128 := by simp; omega
        rw [List.take_succ_cons, numD, e, if_neg (by omega), if_neg (by omega)]
        refine ih (i + 1) _ (x / 128) j (by omega) ?_ (fun _ => by omega) (by simpa using hj)
        rw [Nat.div_lt_iff_lt_mul (by omega)]
        have e6 : 2 ^ (64 - 7 * (i + 1)) * 128 = 2 ^ (64 - 7 * i) := by
          rw [show 64 - 7 * i = (64 - 7 * (i + 1)) + 7 by omega, Nat.pow_add]
        rw [e6]; exact hx
/-- The last byte says that more comes. -/
def over (l : List UInt8) : List UInt8 := l.set (l.length - 1) (l.getD (l.length - 1) default ||| 128)
theorem over_len (l : List UInt8) : (over l).length = l.length := by simp [over]
theorem over_cons (a : UInt8) (l : List UInt8) (h : 0 < l.length) : over (a :: l) = a :: over l := by
  unfold over
  have e : (a :: l).length - 1 = (l.length - 1) + 1 := by simp; omega
  rw [e, List.set_cons_succ]
  simp
theorem or128 (x : Nat) (h : x < 128) : (UInt8.ofNat x ||| 128).toNat = x + 128 := by
  have := Nat.two_pow_add_eq_or_of_lt (i := 7) (b := x) (by omega) 1
  rw [UInt8.toNat_or]
  have e : (UInt8.ofNat x).toNat = x := by simp; omega
  rw [e, show (128 : UInt8).toNat = 128 from rfl, Nat.or_comm]
  simpa [Nat.add_comm] using this.symm
theorem vbytes_pos (x : Nat) : 0 < (vbytes x).length := by
  by_cases h : x < 128
  · rw [vbytes_small h]; simp
  · rw [vbytes_big h]; simp
theorem numD_over : ∀ (k i v x : Nat), i + k = 9 → x < 2 ^ (64 - 7 * i) → numD i v (over (vbytes x) ++ [0]) = (2, 0, []) := by
  intro k
  induction k with
  | zero =>
    intro i v x hi hx
    obtain rfl : i = 9 := by omega
    have hx2 : x < 2 := by simpa using hx
    rw [vbytes_small (by omega)]
    have e0 : over [UInt8.ofNat x] = [UInt8.ofNat x ||| 128] := rfl
    rw [e0, List.singleton_append, numD, or128 x (by omega), if_pos (by omega)]
  | succ k ih =>
    intro i v x hi hx
    by_cases hs : x < 128
    · rw [vbytes_small hs]
      have e0 : over [UInt8.ofNat x] = [UInt8.ofNat x ||| 128] := rfl
      rw [e0, List.singleton_append, numD, or128 x (by omega), if_neg (by omega), if_neg (by omega), numD, if_pos (.inr ⟨by omega, rfl⟩)]
    · rw [vbytes_big hs, over_cons _ _ (vbytes_pos _)]
      have e : (UInt8.ofNat (x % 128 + 128)).toNat = x % 128 + 128 := by simp; omega
      rw [List.cons_append, numD, e, if_neg (by omega), if_neg (by omega)]
      refine ih (i + 1) _ (x / 128) (by omega) ?_
      rw [Nat.div_lt_iff_lt_mul (by omega)]
      have e6 : 2 ^ (64 - 7 * (i + 1)) * 128 = 2 ^ (64 - 7 * i) := by
        rw [show 64 - 7 * i = (64 - 7 * (i + 1)) + 7 by omega, Nat.pow_add]
      rw [e6]; exact hx
theorem int_over (n : Int) (h0 : -9223372036854775808 ≤ n) (h1 : n ≤ 9223372036854775807) : intD 0 (over (putInt n) ++ [0]) = (0, 2, over (putInt n) ++ [0]) := by
  have h := numD_over 9 0 0 (zz n) rfl (by simpa using zz_lt n h0 h1)
  unfold intD putInt
  rw [if_pos rfl, h]
  simp
/-- A number, and what is behind it. -/
theorem int_put (n : Int) (h0 : -9223372036854775808 ≤ n) (h1 : n ≤ 9223372036854775807) (r : List UInt8) : intD 0 (putInt n ++ r) = (n, 0, r) := by
  have h := num_put (zz n) (zz_lt n h0 h1) r
  unfold intD putInt
  rw [if_pos rfl, h]
  simp [uz_zz]
theorem text_put (s : List UInt8) (hs : s.length ≤ 100000) (r : List UInt8) : textD 0 (putText s ++ r) = (s, 0, r) := by
  have e : putText s ++ r = putInt s.length ++ (s ++ r) := by unfold putText; rw [List.append_assoc]
  unfold textD
  rw [e, int_put _ (by omega) (by omega)]
  simp only [List.length_append]
  rw [if_neg (by simp), if_neg (by omega), if_neg (by omega)]
  simp
theorem text_cut (s : List UInt8) (hs : s.length ≤ 100000) (k : Nat) (hk : k < (putText s).length) : (textD 0 ((putText s).take k)).1 = [] ∧ (textD 0 ((putText s).take k)).2.1 = 3 := by
  have e : putText s = putInt s.length ++ s := rfl
  by_cases h : k < (putInt s.length).length
  · have e2 : (putText s).take k = (vbytes (zz s.length)).take k := by
      rw [e, List.take_append_of_le_length (by omega)]; rfl
    have hd := numD_cut 9 0 0 (zz s.length) k rfl (by simpa using zz_lt _ (by omega) (by omega)) (fun h => absurd h (by omega)) h
    have hi : intD 0 ((putText s).take k) = (0, 3, (putText s).take k) := by
      unfold intD; rw [if_pos rfl, e2, hd]; simp
    unfold textD
    rw [hi]; simp
  · have e2 : (putText s).take k = putInt s.length ++ s.take (k - (putInt s.length).length) := by
      rw [e, List.take_append]
      congr 1
      exact List.take_of_length_le (by omega)
    have hl : (putText s).length = (putInt s.length).length + s.length := by rw [e, List.length_append]
    unfold textD
    rw [e2, int_put _ (by omega) (by omega)]
    simp only [List.length_take]
    rw [if_neg (by simp), if_neg (by omega), if_pos (by omega)]
    exact ⟨rfl, rfl⟩
end Go.Proofs.Ytmmcjpkmjdmoeaa
