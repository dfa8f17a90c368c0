/- Numerals in decimal: as Go's library reads and writes them, and as the document does. No program in sight. -/
import Derived.Test.YtdnlenngbaaeaaaDoorL0
import Derived.Lib.ParseIntB
import Derived.Lib.ItoaNum
set_option linter.unusedVariables false
set_option linter.unusedSimpArgs false
namespace Go.Cn
open Go.Lib
def digB (c : UInt8) : Bool := decide (48 ≤ c.toNat) && decide (c.toNat ≤ 57)
def stepN (a : Nat) (c : UInt8) : Nat := 10 * a + (c.toNat - 48)
def valN (d : List UInt8) : Nat := d.foldl stepN 0
theorem digB_iff (c : UInt8) : digB c = true ↔ 48 ≤ c.toNat ∧ c.toNat ≤ 57 := by simp [digB]
theorem valN_snoc (d : List UInt8) (c : UInt8) : valN (d ++ [c]) = 10 * valN d + (c.toNat - 48) := by
  unfold valN; rw [List.foldl_append]; rfl
theorem byte_dig {c : UInt8} (h : 48 ≤ c.toNat) : UInt8.ofNat (48 + (c.toNat - 48)) = c := by
  rw [show 48 + (c.toNat - 48) = c.toNat by omega]; simp
theorem dig_toNat {n : Nat} (h : n < 10) : (UInt8.ofNat (48 + n)).toNat = 48 + n := by simp; omega
theorem dec_one {u : Nat} (h : u < 10) : decDigits u = [UInt8.ofNat (48 + u)] := decDigits_one h
theorem dec_more {u : Nat} (h : ¬ u < 10) : decDigits u = decDigits (u / 10) ++ [UInt8.ofNat (48 + u % 10)] := by rw [decDigits, dif_neg h]
theorem dec_all : ∀ (u : Nat), (decDigits u).all digB = true ∧ valN (decDigits u) = u ∧ decDigits u ≠ [] ∧ (u ≠ 0 → (decDigits u).headD 0 ≠ 48) := by
  intro u
  induction u using Nat.strongRecOn with
  | _ u ih =>
    by_cases h : u < 10
    · have e := dig_toNat h
      rw [dec_one h]
      refine ⟨?_, ?_, by simp, fun h0 => ?_⟩
      · rw [List.all_cons, List.all_nil, Bool.and_true, digB_iff, e]; omega
      · show 10 * 0 + _ = _
        rw [e]; omega
      · show UInt8.ofNat (48 + u) ≠ 48
        intro he
        have := congrArg UInt8.toNat he
        rw [e] at this
        have h48 : (48 : UInt8).toNat = 48 := rfl
        omega
    · obtain ⟨h1, h2, h3, h4⟩ := ih (u / 10) (by omega)
      have e := dig_toNat (n := u % 10) (by omega)
      rw [dec_more h]
      refine ⟨?_, ?_, by simp, fun _ => ?_⟩
      · rw [List.all_append, h1, List.all_cons, List.all_nil, Bool.and_true, Bool.true_and, digB_iff, e]; omega
      · rw [valN_snoc, h2, e]; omega
      · have := h4 (by omega)
        cases hd : decDigits (u / 10) with
        | nil => exact absurd hd h3
        | cons a r => rw [hd] at this; exact this
/-- A numeral that does not begin with nought. -/
theorem dec_back : ∀ (n : Nat) (d : List UInt8), d.length = n + 1 → d.all digB = true → d.headD 0 ≠ 48 → 1 ≤ valN d ∧ decDigits (valN d) = d ∧ valN d < 10 ^ (n + 1)
  | 0, d, hl, ha, hh => by
    match d, hl with
    | [c], _ =>
      rw [List.all_cons, List.all_nil, Bool.and_true, digB_iff] at ha
      have hc : c.toNat ≠ 48 := fun e => hh (by show c = 48; exact UInt8.toNat_inj.1 e)
      have hv : valN [c] = c.toNat - 48 := by show 10 * 0 + _ = _; omega
      rw [hv]
      exact ⟨by omega, by rw [dec_one (by omega), byte_dig ha.1], by omega⟩
  | n + 1, d, hl, ha, hh => by
    obtain ⟨e, c, rfl⟩ : ∃ e c, d = e ++ [c] := by
      have hne : d ≠ [] := fun h => by rw [h] at hl; cases hl
      exact ⟨d.dropLast, d.getLast hne, (List.dropLast_concat_getLast hne).symm⟩
    have hel : e.length = n + 1 := by simpa using hl
    rw [List.all_append, Bool.and_eq_true] at ha
    obtain ⟨ha1, ha2⟩ := ha
    rw [List.all_cons, List.all_nil, Bool.and_true, digB_iff] at ha2
    have heh : e.headD 0 ≠ 48 := by
      cases e with
      | nil => cases hel
      | cons a r => exact hh
    obtain ⟨h1, h2, h3⟩ := dec_back n e hel ha1 heh
    rw [valN_snoc]
    have hd : (10 * valN e + (c.toNat - 48)) / 10 = valN e := by omega
    have hm : (10 * valN e + (c.toNat - 48)) % 10 = c.toNat - 48 := by omega
    refine ⟨by omega, ?_, ?_⟩
    · rw [dec_more (by omega), hd, hm, h2, byte_dig ha2.1]
    · rw [Nat.pow_succ]; omega
theorem dec_len {u k : Nat} (h : u < 10 ^ (k + 1)) : (decDigits u).length ≤ k + 1 := by
  induction k generalizing u with
  | zero => rw [dec_one (by simpa using h)]; simp
  | succ k ih =>
    by_cases h1 : u < 10
    · rw [dec_one h1]; simp
    · rw [dec_more h1, List.length_append]
      have := ih (u := u / 10) (by rw [Nat.pow_succ] at h; omega)
      simp; omega
/-- The document's numerals. -/
def numR (l : List UInt8) : Option Int :=
  let neg := decide (l.headD 0 = 45)
  let d := if neg = true then l.tail else l
  if d = [] ∨ 19 < d.length ∨ (d.headD 0 = 48 ∧ (1 < d.length ∨ neg = true)) then none
  else if d.all digB = false then none
  else if neg = true ∧ valN d = 9223372036854775808 then some (-9223372036854775808)
  else if 9223372036854775808 ≤ valN d then none
  else if neg = true then some (-(valN d : Int)) else some (valN d : Int)
def in64 (v : Int) : Prop := -9223372036854775808 ≤ v ∧ v ≤ 9223372036854775807
theorem head_dig {d : List UInt8} (h : d.all digB = true) (hn : d ≠ []) : d.headD 0 ≠ 45 := by
  cases d with
  | nil => exact absurd rfl hn
  | cons c r =>
    rw [List.all_cons, Bool.and_eq_true, digB_iff] at h
    intro e
    have : c = 45 := e
    subst this
    exact absurd h.1.1 (by decide)
theorem numR_itoa {v : Int} (h : in64 v) : numR (itoa v) = some v := by
  obtain ⟨h1, h2⟩ := h
  unfold itoa
  by_cases hv : v < 0
  · rw [if_pos hv]
    obtain ⟨a1, a2, a3, a4⟩ := dec_all v.natAbs
    have hl := dec_len (u := v.natAbs) (k := 18) (by omega)
    have a4' := a4 (by omega)
    unfold numR
    simp only [List.headD_cons, List.tail_cons, decide_true, if_true, true_and]
    rw [if_neg (by rintro (e | e | ⟨e, _⟩); exact a3 e; omega; exact a4' e), if_neg (by rw [a1]; decide), a2]
    by_cases hm : v.natAbs = 9223372036854775808
    · rw [if_pos hm]; congr 1; omega
    · rw [if_neg hm, if_neg (by omega)]; congr 1; omega
  · rw [if_neg hv]
    obtain ⟨a1, a2, a3, a4⟩ := dec_all v.toNat
    have hl := dec_len (u := v.toNat) (k := 18) (by omega)
    have hn : decide ((decDigits v.toNat).headD 0 = 45) = false := decide_eq_false (head_dig a1 a3)
    unfold numR
    simp only [hn, Bool.false_eq_true, if_false, or_false, false_and]
    rw [if_neg, if_neg (by rw [a1]; decide), a2, if_neg (by omega)]
    · congr 1; omega
    · rintro (e | e | ⟨e, e2⟩)
      · exact a3 e
      · omega
      · by_cases h0 : v.toNat = 0
        · rw [h0, dec_one (by omega)] at e2; simp at e2
        · exact a4 h0 e
theorem numR_some {l : List UInt8} {v : Int} (h : numR l = some v) : in64 v ∧ l = itoa v := by
  unfold numR at h
  simp only at h
  by_cases hn : l.headD 0 = 45
  · rw [decide_eq_true hn] at h
    simp only [if_true, true_and, or_true, and_true] at h
    have hl : l = 45 :: l.tail := by
      cases l with
      | nil => exact absurd hn (by decide)
      | cons a r => rw [show a = 45 from hn]; rfl
    generalize l.tail = d at *
    split at h
    · cases h
    · rename_i h1
      split at h
      · cases h
      · rename_i h2
        have h2' : d.all digB = true := by simpa using h2
        have hd0 : d ≠ [] := fun e => h1 (.inl e)
        have hdl : 0 < d.length := List.length_pos_iff.2 hd0
        obtain ⟨b1, b2, b3⟩ := dec_back (d.length - 1) d (by omega) h2' (fun e => h1 (.inr (.inr e)))
        split at h
        · rename_i h3
          cases h
          refine ⟨⟨by omega, by omega⟩, ?_⟩
          rw [hl]
          show _ = 45 :: decDigits 9223372036854775808
          rw [← h3, b2]
        · split at h
          · cases h
          · rename_i h3 h4
            cases h
            refine ⟨⟨by omega, by omega⟩, ?_⟩
            unfold itoa
            rw [if_pos (by omega), hl]
            have : (-(valN d : Int)).natAbs = valN d := by omega
            rw [this, b2]
  · rw [decide_eq_false hn] at h
    simp only [Bool.false_eq_true, if_false, or_false, false_and] at h
    split at h
    · cases h
    · rename_i h1
      split at h
      · cases h
      · rename_i h2
        have h2' : l.all digB = true := by simpa using h2
        split at h
        · cases h
        · rename_i h3
          cases h
          refine ⟨⟨by omega, by omega⟩, ?_⟩
          unfold itoa
          rw [if_neg (by omega)]
          have e : ((valN l : Int)).toNat = valN l := by omega
          rw [e]
          have hd0 : l ≠ [] := fun e => h1 (.inl e)
          have hdl : 0 < l.length := List.length_pos_iff.2 hd0
          by_cases h48 : l.headD 0 = 48
          · have hl1 : l.length = 1 := by
              have : ¬ 1 < l.length := fun e => h1 (.inr (.inr ⟨h48, e⟩))
              omega
            match l, hl1 with
            | [c], _ =>
              rw [show c = 48 from h48]
              show [48] = decDigits 0
              rw [dec_one (by omega)]; rfl
          · exact ((dec_back (l.length - 1) l (by omega) h2' h48).2.1).symm
/-- The library's. -/
theorem parse_snoc (M : Nat) : ∀ (a : List UInt8) (acc : Nat) (c : UInt8), parseUintM M acc (a ++ [c]) = match parseUintM M acc a with | .ok v => parseUintM M v [c] | e => e
  | [], acc, c => by simp [parseUintM]
  | x :: a, acc, c => by
    rw [List.cons_append, parseUintM, parseUintM]
    split
    · split
      · rfl
      · split
        · rfl
        · exact parse_snoc M a _ c
    · rfl
theorem parse_dec {u : Nat} (h : u ≤ 18446744073709551615) : parseUintM 18446744073709551615 0 (decDigits u) = .ok u := by
  induction u using Nat.strongRecOn with
  | _ u ih =>
    by_cases h1 : u < 10
    · rw [dec_one h1]
      have e := dig_toNat h1
      simp only [parseUintM, e]
      rw [if_pos (by omega), if_neg (by omega), if_neg (by omega)]
      congr 1; omega
    · rw [dec_more h1, parse_snoc, ih (u / 10) (by omega) (by omega)]
      have e := dig_toNat (n := u % 10) (by omega)
      simp only [parseUintM, e]
      rw [if_pos (by omega), if_neg (by omega), if_neg (by omega)]
      congr 1; omega
theorem parse_itoa {v : Int} (h : in64 v) : parseIntB 64 (itoa v) = .ok v := by
  obtain ⟨h1, h2⟩ := h
  have hM : 2 ^ 64 - 1 = 18446744073709551615 := by decide
  unfold itoa
  by_cases hv : v < 0
  · rw [if_pos hv]
    obtain ⟨a1, a2, a3, a4⟩ := dec_all v.natAbs
    have hp := parse_dec (u := v.natAbs) (by omega)
    unfold parseIntB
    have h45 : (45 : UInt8).toNat = 45 := rfl
    simp only [h45, parseUintB, or_true, if_true, if_neg a3, hM, hp, not_true, false_and, if_false, true_and]
    rw [if_neg (by omega)]
    congr 1; omega
  · rw [if_neg hv]
    obtain ⟨a1, a2, a3, a4⟩ := dec_all v.toNat
    have hp := parse_dec (u := v.toNat) (by omega)
    cases hd : decDigits v.toNat with
    | nil => exact absurd hd a3
    | cons c r =>
      rw [hd] at a1 hp
      rw [List.all_cons, Bool.and_eq_true, digB_iff] at a1
      have e1 : ¬ c.toNat = 45 := by omega
      have e2 : ¬ (c.toNat = 43 ∨ c.toNat = 45) := by omega
      unfold parseIntB
      simp only [if_neg e2, parseUintB, hM]
      rw [if_neg (by simp), hp]
      simp only [e1, not_false_eq_true, true_and, false_and, if_false]
      rw [if_neg (by omega)]
      congr 1; omega
theorem parse_in64 {l : List UInt8} {v : Int} (h : parseIntB 64 l = .ok v) : in64 v := by
  unfold parseIntB at h
  split at h
  · cases h
  · simp only at h
    split at h
    · cases h
    · cases h
    · rename_i u hu
      split at h
      · cases h
      · rename_i h1
        split at h
        · cases h
        · rename_i h2
          injection h with h
          subst h
          unfold in64
          split
          · rename_i hn
            have : ¬ 9223372036854775808 < u := fun e => h2 ⟨hn, e⟩
            omega
          · rename_i hn
            have : ¬ 9223372036854775808 ≤ u := fun e => h1 ⟨hn, e⟩
            omega
def numP (l : List UInt8) : Option Int := match parseIntB 64 l with
  | .ok v => if itoa v = l then some v else none
  | _ => none
theorem numP_eq (l : List UInt8) : numP l = numR l := by
  have hs : ∀ v, numP l = some v → numR l = some v := fun v h => by
    unfold numP at h
    split at h
    · rename_i x hx
      split at h
      · rename_i he
        cases h
        rw [← he]; exact numR_itoa (parse_in64 hx)
      · cases h
    · cases h
  cases hp : numP l with
  | some v => rw [hs v hp]
  | none =>
    cases hr : numR l with
    | none => rfl
    | some v =>
      obtain ⟨h1, h2⟩ := numR_some hr
      unfold numP at hp
      rw [h2, parse_itoa h1] at hp
      simp at hp
end Go.Cn
