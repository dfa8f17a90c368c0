/- Numbers as bytes, plain: zigzag, seven bits a byte, and back. No program in sight. -/
import Derived.Test.YtpdhmbbmhomlnaaDoorL0
set_option linter.unusedVariables false
set_option linter.unusedSimpArgs false
namespace Go.Cn.Num
def zz (n : Int) : Nat := if 0 ≤ n then (2 * n).toNat else (-2 * n - 1).toNat
def uz (v : Nat) : Int := if v % 2 = 0 then (v / 2 : Nat) else -((v / 2 : Nat) : Int) - 1
theorem uz_zz (n : Int) : uz (zz n) = n := by
  unfold zz uz
  by_cases h : 0 ≤ n
  · rw [if_pos h, if_pos (by omega)]; omega
  · rw [if_neg h, if_neg (by omega)]; omega
theorem zz_lt (n : Int) (h0 : -9223372036854775808 ≤ n) (h1 : n ≤ 9223372036854775807) : zz n < 2 ^ 64 := by
  unfold zz; split <;> omega
def vbytes (v : Nat) : List UInt8 := if h : v < 128 then [UInt8.ofNat v] else UInt8.ofNat (v % 128 + 128) :: vbytes (v / 128)
termination_by v
theorem vbytes_small {v : Nat} (h : v < 128) : vbytes v = [UInt8.ofNat v] := by rw [vbytes, dif_pos h]
theorem vbytes_big {v : Nat} (h : ¬ v < 128) : vbytes v = UInt8.ofNat (v % 128 + 128) :: vbytes (v / 128) := by rw [vbytes, dif_neg h]
theorem vbytes_len (k : Nat) : ∀ v : Nat, v < 128 ^ (k + 1) → 1 ≤ (vbytes v).length ∧ (vbytes v).length ≤ k + 1 := by
  induction k with
  | zero => intro v h; rw [vbytes_small (by simpa using h)]; simp
  | succ k ih =>
    intro v h
    by_cases hs : v < 128
    · rw [vbytes_small hs]; simp
    · rw [vbytes_big hs]
      have := ih (v / 128) (by rw [Nat.div_lt_iff_lt_mul (by omega)]; rw [Nat.pow_succ] at h; exact h)
      simp only [List.length_cons]
      omega
def putInt (n : Int) : List UInt8 := vbytes (zz n)
theorem putInt_len (n : Int) (h0 : -9223372036854775808 ≤ n) (h1 : n ≤ 9223372036854775807) : 1 ≤ (putInt n).length ∧ (putInt n).length ≤ 10 :=
  vbytes_len 9 _ (Nat.lt_of_lt_of_le (zz_lt n h0 h1) (by decide))
def putText (s : List UInt8) : List UInt8 := putInt s.length ++ s
/-- A number out of bytes: why not (3: too short, 2: no form), the number, what is left. -/
def numD : Nat → Nat → List UInt8 → Int × Nat × List UInt8
  | _, _, [] => (3, 0, [])
  | i, v, c :: r => if (i = 9 ∧ 1 < c.toNat) ∨ (0 < i ∧ c.toNat = 0) then (2, 0, []) else if c.toNat < 128 then (0, v + (c.toNat % 128) * 2 ^ (7 * i), r) else numD (i + 1) (v + (c.toNat % 128) * 2 ^ (7 * i)) r
theorem numD_put : ∀ (k i v x : Nat) (r : List UInt8), i + k = 9 → x < 2 ^ (64 - 7 * i) → (0 < i → 0 < x) → numD i v (vbytes x ++ r) = (0, v + x * 2 ^ (7 * i), r) := by
  intro k
  induction k with
  | zero =>
    intro i v x r hi hx h0
    obtain rfl : i = 9 := by omega
    have hx2 : x < 2 := by simpa using hx
    rw [vbytes_small (by omega)]
    have e : (UInt8.ofNat x).toNat = x := by simp; omega
    rw [List.singleton_append, numD, e, if_neg (by have := h0 (by omega); omega), if_pos (by omega), Nat.mod_eq_of_lt (by omega)]
  | succ k ih =>
    intro i v x r hi hx h0
    by_cases hs : x < 128
    · rw [vbytes_small hs]
      have e : (UInt8.ofNat x).toNat = x := by simp; omega
      rw [List.singleton_append, numD, e, if_neg (by intro h; rcases h with h | h; omega; have := h0 h.1; omega), if_pos hs, Nat.mod_eq_of_lt hs]
    · rw [vbytes_big hs]
      have e : (UInt8.ofNat (x % 128 + 128)).toNat = x % 128 + 128 := by simp; omega
      rw [List.cons_append, numD, e, if_neg (by omega), if_neg (by omega), ih (i + 1) _ (x / 128) r (by omega) ?_ (fun _ => by omega)]
      · have e2 : (x % 128 + 128) % 128 = x % 128 := by omega
        rw [e2]
        have e3 : 2 ^ (7 * (i + 1)) = 128 * 2 ^ (7 * i) := by rw [show 7 * (i + 1) = 7 + 7 * i by omega, Nat.pow_add]
        rw [e3]
        have e4 : x / 128 * (128 * 2 ^ (7 * i)) = (x / 128 * 128) * 2 ^ (7 * i) := by rw [Nat.mul_assoc]
        rw [e4, Nat.add_assoc, ← Nat.add_mul]
        have e5 : x % 128 + x / 128 * 128 = x := by omega
        rw [e5]
      · rw [Nat.div_lt_iff_lt_mul (by omega)]
        have e6 : 2 ^ (64 - 7 * (i + 1)) * 128 = 2 ^ (64 - 7 * i) := by
          rw [show 64 - 7 * i = (64 - 7 * (i + 1)) + 7 by omega, Nat.pow_add]
        rw [e6]; exact hx
theorem num_put (x : Nat) (hx : x < 2 ^ 64) (r : List UInt8) : numD 0 0 (vbytes x ++ r) = (0, x, r) := by
  rw [numD_put 9 0 0 x r rfl (by simpa using hx) (fun h => absurd h (by omega))]
  simp
end Go.Cn.Num
