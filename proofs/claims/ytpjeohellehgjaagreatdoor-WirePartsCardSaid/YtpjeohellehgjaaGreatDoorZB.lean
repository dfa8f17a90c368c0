import Derived.Test.YtpjeohellehgjaaGreatDoorV4
import Derived.Shelf.Strings.Builder1
import Derived.Shelf.Strings.Builder2
import Derived.Shelf.Utf8.RuneCount
import Derived.Shelf.Strings.Search1
import Derived.Shelf.Strings.Search2
import Derived.Shelf.Strings.Search3
import Derived.Shelf.Strings.Count
import Derived.Shelf.LaysM
import Derived.Shelf.Strings.Shaped
import Derived.Shelf.Strings.Split
import Derived.Shelf.Strings.SplitShaped
import Derived.Shelf.Unicode.Decode
import Derived.Shelf.Strings.RuneCount
import Derived.Shelf.Strings.Explode
import Derived.Shelf.Unicode.DecodeSlow
import Derived.Shelf.Unicode.DecodeAny
import Derived.Test.YtpjeohellehgjaaGreatDoorProg
import Derived.Lib.Split
import Derived.Lib.SplitLaws
import Derived.Test.YtpjeohellehgjaaGreatDoorVG
import Derived.Test.YtpjeohellehgjaaGreatDoorL0
import Derived.Lib.ParseIntB
import Derived.Lib.ItoaNum
import Derived.Test.YtpjeohellehgjaaGreatDoorZA
section
/- The decoder (codec.Dec): what its methods answer and leave. Conditions: at most 10000000 bytes. -/
set_option maxRecDepth 10000000
set_option linter.unusedVariables false
set_option linter.unusedSimpArgs false
namespace Go.Proofs.YtpjeohellehgjaaGreatDoor
open Go.RowKit Go.Cn Go.Cn.Num
/-- The decoder at g: why it stands (0: it does not), what is left; D: the block of its bytes. -/
def DecAt (w : World) (g : Nat) (e : Int) (r : List UInt8) (D : Option Nat) : Prop :=
  ∃ A c, w.heap[g]? = some (.cells #[.slice A r.length c, .int .i64 e] 125 (0, 0)) ∧ Reads w A (r.map vb) ∧ r.length ≤ c ∧ c ≤ 9223372036854775807 ∧ (∀ ad, A = some ad → D = some ad.block ∧ ad.spot = none) ∧ (A = none → r = [] ∧ c = 0) ∧ D ≠ some g
theorem DecAt.chg {w w' : World} {g : Nat} {e : Int} {r : List UInt8} {D : Option Nat} {S : Nat → Prop} (h : DecAt w g e r D) (c : Chg S w w') (hg : ¬ S g) (hD : ∀ k, D = some k → ¬ S k) : DecAt w' g e r D := by
  obtain ⟨A, cp, h1, h2, h3, h4, h5, h7, h6⟩ := h
  exact ⟨A, cp, c.heap h1 hg, h2.chg c (fun ad e => hD _ (h5 ad e).1), h3, h4, h5, h7, h6⟩
theorem reads_drop {w : World} {g o c n : Nat} {l : List UInt8} (hr : Reads w (some ⟨g, o, none⟩) (l.map vb)) (hc : l.length ≤ c) (k : Nat) (hk : k ≤ l.length) : Reads w (if c = k then some ⟨g, o, none⟩ else some ⟨g, o + k, none⟩) ((l.drop k).map vb) := by
  by_cases hkl : k = l.length
  · rw [List.drop_eq_nil_of_le (by omega)]; exact .inl rfl
  · rw [if_neg (by omega)]
    rcases hr with h | ⟨g', o', e, h⟩
    · rw [List.map_eq_nil_iff] at h; subst h; simp at hkl hk; omega
    · cases e
      refine .inr ⟨g, o + k, rfl, fun j hj => ?_⟩
      simp at hj
      rw [Nat.add_assoc, h (k + j) (by simp; omega), List.getElem?_map, List.getElem?_map, List.getElem?_drop]
theorem numD_lt : ∀ (l : List UInt8) (i v : Nat), i ≤ 9 → v < 2 ^ (7 * i) → (numD i v l).2.1 < 2 ^ 64
  | [], i, v, _, _ => by simp [numD]
  | c :: r, i, v, hi, hv => by
    rw [numD]
    split
    · simp
    · rename_i hn
      have hc := Nat.mod_lt c.toNat (show 0 < 128 by omega)
      by_cases h9 : i = 9
      · subst h9
        have hc1 : c.toNat ≤ 1 := by omega
        rw [if_pos (by omega)]
        have : c.toNat % 128 ≤ 1 := by omega
        have h2 : c.toNat % 128 * 2 ^ (7 * 9) ≤ 1 * 2 ^ (7 * 9) := Nat.mul_le_mul_right _ this
        simp at hv h2 ⊢
        omega
      · have h2 : c.toNat % 128 * 2 ^ (7 * i) ≤ 127 * 2 ^ (7 * i) := Nat.mul_le_mul_right _ (by omega)
        have h3 : 2 ^ (7 * (i + 1)) = 128 * 2 ^ (7 * i) := by rw [show 7 * (i + 1) = 7 + 7 * i by omega, Nat.pow_add]
        have h4 : v + c.toNat % 128 * 2 ^ (7 * i) < 2 ^ (7 * (i + 1)) := by rw [h3]; omega
        have h5 : 2 ^ (7 * (i + 1)) ≤ 2 ^ 64 := Nat.pow_le_pow_right (by omega) (by omega)
        split
        · simp only; omega
        · exact numD_lt r (i + 1) _ (by omega) h4
set_option maxRecDepth 10000000 in
theorem andNot_more (c : UInt8) : bits .andNot .u8 (c.toNat : Int) 128 = ((c.toNat % 128 : Nat) : Int) := by
  have h := andNot_u8 c.toBitVec 128#8
  rw [show (((128#8).toNat : Nat) : Int) = 128 from rfl] at h
  have e0 : c.toBitVec.toNat = c.toNat := rfl
  rw [e0] at h
  rw [h]
  have key : ∀ x : Fin 256, ((BitVec.ofNat 8 x.val) &&& ~~~ 128#8).toNat = x.val % 128 := by decide
  have k2 := key ⟨c.toNat, UInt8.toNat_lt c⟩
  have e2 : BitVec.ofNat 8 c.toNat = c.toBitVec := by apply BitVec.eq_of_toNat_eq; simp
  simp only [e2] at k2
  rw [k2]
theorem u64_nat (x : Nat) (h : x < 2 ^ 64) : IntKind.u64.wrap (x : Int) = (x : Int) := by
  simp [IntKind.wrap, IntKind.bits, IntKind.signed]; omega
theorem shl_or (v c i : Nat) (hi : i ≤ 9) (hv : v < 2 ^ (7 * i)) (hc : c < 128) (h9 : i = 9 → c ≤ 1) :
    bits .or .u64 (v : Int) (IntKind.u64.wrap ((c : Int) * (2 : Int) ^ min (7 * (i : Int)).toNat 64)) = ((v + c * 2 ^ (7 * i) : Nat) : Int) := by
  have e : min (7 * (i : Int)).toNat 64 = 7 * i := by omega
  rw [e]
  have hlt : c * 2 ^ (7 * i) < 2 ^ 64 := by
    by_cases h : i = 9
    · subst h
      have := Nat.mul_le_mul_right (2 ^ (7 * 9)) (h9 rfl)
      simp at this ⊢
      omega
    · have h2 : c * 2 ^ (7 * i) ≤ 127 * 2 ^ (7 * i) := Nat.mul_le_mul_right _ (by omega)
      have h3 : 2 ^ (7 * (i + 1)) = 128 * 2 ^ (7 * i) := by rw [show 7 * (i + 1) = 7 + 7 * i by omega, Nat.pow_add]
      have h5 : 2 ^ (7 * (i + 1)) ≤ 2 ^ 64 := Nat.pow_le_pow_right (by omega) (by omega)
      have : 0 < 2 ^ (7 * i) := Nat.pow_pos (by omega)
      omega
  have hv64 : v < 2 ^ 64 := Nat.lt_of_lt_of_le hv (Nat.pow_le_pow_right (by omega) (by omega))
  have e2 : (c : Int) * (2 : Int) ^ (7 * i) = ((c * 2 ^ (7 * i) : Nat) : Int) := by simp
  rw [e2, u64_nat _ hlt, bits_or_u64_nat v _ (by omega) (by omega)]
  have := Nat.two_pow_add_eq_or_of_lt hv c
  rw [Nat.or_comm, Nat.mul_comm c, ← this, Nat.add_comm]
theorem uz_code (v : Nat) (h : v < 2 ^ 64) : bits .xor .i64 (IntKind.i64.wrap ((v : Int) / (2 : Int) ^ min (Int.toNat 1) 64)) (IntKind.i64.wrap (-(IntKind.i64.wrap (bits .and .u64 (v : Int) 1)))) = uz v := by
  rw [show min (Int.toNat 1) 64 = 1 from rfl]
  have ha := bits_and_u64_nat v 1 (by omega) (by omega)
  rw [show ((1 : Nat) : Int) = 1 from rfl, Nat.and_one_is_mod] at ha
  rw [ha]
  have e1 : IntKind.i64.wrap ((v : Int) / (2 : Int) ^ 1) = ((v / 2 : Nat) : Int) := by
    rw [IntKind.wrap_i64]; omega
  rw [e1]
  have hx : v / 2 < 2 ^ 63 := by omega
  unfold uz
  generalize v / 2 = x at *
  have hbx : (BitVec.ofInt 64 (x : Int)).toNat = x := by simp [BitVec.toNat_ofInt]; omega
  by_cases h0 : v % 2 = 0
  · rw [if_pos h0, h0]
    show IntKind.i64.wrap (((BitVec.ofInt 64 (x : Int)) ^^^ (BitVec.ofInt 64 (IntKind.i64.wrap (-(IntKind.i64.wrap ((0 : Nat) : Int)))))).toNat : Int) = _
    have e2 : BitVec.ofInt 64 (IntKind.i64.wrap (-(IntKind.i64.wrap ((0 : Nat) : Int)))) = 0#64 := by decide
    rw [e2]
    have e5 : ((BitVec.ofInt 64 (x : Int)) ^^^ (0#64)).toNat = x := by rw [BitVec.xor_zero]; exact hbx
    have e6 : IntKind.i64.wrap (x : Int) = x := by rw [IntKind.wrap_i64]; omega
    exact (congrArg (fun t : Nat => IntKind.i64.wrap (t : Int)) e5).trans e6
  · have h1 : v % 2 = 1 := by omega
    rw [if_neg h0, h1]
    show IntKind.i64.wrap (((BitVec.ofInt 64 (x : Int)) ^^^ (BitVec.ofInt 64 (IntKind.i64.wrap (-(IntKind.i64.wrap ((1 : Nat) : Int)))))).toNat : Int) = _
    have e2 : BitVec.ofInt 64 (IntKind.i64.wrap (-(IntKind.i64.wrap ((1 : Nat) : Int)))) = BitVec.allOnes 64 := by decide
    have e3 : (BitVec.ofInt 64 (x : Int)) ^^^ BitVec.allOnes 64 = ~~~ (BitVec.ofInt 64 (x : Int)) := by
      apply BitVec.eq_of_getLsbD_eq; intro i hi
      rw [BitVec.getLsbD_xor, BitVec.getLsbD_not, BitVec.getLsbD_allOnes]
      cases (BitVec.ofInt 64 (x : Int)).getLsbD i <;> simp [hi]
    rw [e2]
    have e5 : ((BitVec.ofInt 64 (x : Int)) ^^^ BitVec.allOnes 64).toNat = 2 ^ 64 - 1 - x := by rw [e3, BitVec.toNat_not, hbx]
    have e6 : IntKind.i64.wrap ((2 ^ 64 - 1 - x : Nat) : Int) = -(x : Int) - 1 := by rw [IntKind.wrap_i64]; omega
    exact (congrArg (fun t : Nat => IntKind.i64.wrap (t : Int)) e5).trans e6
theorem dec_set0 {w : World} {g : Nat} {a b x : Value} {t : TypeId} (h : w.heap[g]? = some (.cells #[a, b] t (0, 0))) : (w.setCell ⟨g, 0, none⟩ x).heap[g]? = some (.cells #[x, b] t (0, 0)) := by
  rw [blk_set h]; rfl
theorem dec_set1 {w : World} {g : Nat} {a b x : Value} {t : TypeId} (h : w.heap[g]? = some (.cells #[a, b] t (0, 0))) : (w.setCell ⟨g, 1, none⟩ x).heap[g]? = some (.cells #[a, x] t (0, 0)) := by
  rw [blk_set h]; rfl
theorem num_any {g : Nat} {e : Int} {r : List UInt8} {D : Option Nat} {w : World} {K : Value → World → Prop} (h : DecAt w g e r D) (hr : r.length ≤ 10000000)
    (hK : ∀ w', DecAt w' g e (if (numD 0 0 r).1 = 0 then (numD 0 0 r).2.2 else r) D → Chg (fun k => k = g) w w' → K (.tuple #[.int .u64 (numD 0 0 r).2.1, .int .i64 (numD 0 0 r).1]) w') : CallK Tryz.prog 98 #[.pointer (some ⟨g, 0, none⟩)] K w := by
  refine F98_calls _ _ _ ?_; unfold F98
  obtain ⟨A, c, h1, h2, h3, h4, h5, h7, h6⟩ := id h
  have c0 : w.cell? ⟨g, 0, none⟩ = some (.slice A r.length c) := by rw [blk_cell h1]; rfl
  simp (maxSteps := 1000000) (disch := omega) only [genAll, decAll, tk_nil, st98, c0]
  refine loopK2 (fun v i w' => w' = w ∧ ∃ (j u : Nat), i = .int .i64 j ∧ v = .int .u64 u ∧ j ≤ r.length ∧ (j < r.length → j ≤ 9) ∧ u < 2 ^ (7 * j) ∧ numD j u (r.drop j) = numD 0 0 r) (fun _ i _ => r.length - (intOf i).toNat) ⟨rfl, 0, 0, rfl, rfl, by omega, by omega, by simp, rfl⟩ ?_
  rintro _ _ _ w' ⟨hw, j, u, rfl, rfl, hj, hj9, hu, hnum⟩
  obtain rfl : w' = w := hw
  by_cases hlt : j < r.length
  · obtain ⟨b, o, rfl, hcell⟩ := h2.get hlt
    have hdr : r.drop j = r.getD j default :: r.drop (j + 1) := by
      rw [List.drop_eq_getElem_cons hlt]; simp [hlt]
    rw [hdr] at hnum
    generalize r.getD j default = x at *
    have hx := UInt8.toNat_lt x
    simp only [vb] at hcell
    rw [numD] at hnum
    have hj9' := hj9 hlt
    have hm : x.toNat % 128 < 128 := Nat.mod_lt _ (by omega)
    by_cases hbad : (j = 9 ∧ 1 < x.toNat) ∨ (0 < j ∧ x.toNat = 0)
    · rw [if_pos hbad] at hnum
      rw [← hnum] at hK
      have hK' := hK w' h (Chg.refl _ _)
      rcases hbad with ⟨h9, hx1⟩ | ⟨hj0, hx0⟩
      · simp (maxSteps := 1000000) (disch := omega) only [genAll, decAll, tk_nil, st98, hcell]
        exact hK'
      · by_cases h9 : j = 9
        · simp (maxSteps := 1000000) (disch := omega) only [genAll, decAll, tk_nil, st98, hcell]
          exact hK'
        · simp (maxSteps := 1000000) (disch := omega) only [genAll, decAll, tk_nil, st98, hcell]
          exact hK'
    · rw [if_neg hbad] at hnum
      have hso := shl_or u (x.toNat % 128) j hj9' hu hm (fun h => by omega)
      have h64 : IntKind.u64.wrap (((x.toNat % 128 : Nat) : Int)) = ((x.toNat % 128 : Nat) : Int) := u64_nat _ (by omega)
      generalize hu2 : u + x.toNat % 128 * 2 ^ (7 * j) = u2 at *
      by_cases hlast : x.toNat < 128
      · rw [if_pos hlast] at hnum
        rw [← hnum] at hK
        have hT : ((j : Int) + 1).toNat = j + 1 := by omega
        have hfz : w'.frozen? ⟨g, 0, none⟩ = false := blk_frozen h1 0
        have hch : Chg (fun k => k = g) w' (w'.setCell ⟨g, 0, none⟩ (.slice (if c = j + 1 then some ⟨b, o, none⟩ else some ⟨b, o + (j + 1), none⟩) (r.length - (j + 1)) (c - (j + 1)))) := (Chg.refl (fun k => k = g) w').setCell (p := ⟨g, 0, none⟩) (.inl rfl) _
        have hbg : b ≠ g := fun h => h6 (by rw [(h5 _ rfl).1, h])
        have hrd := reads_drop (n := 0) h2 h3 (j + 1) (by omega)
        have hfin := hK _ (by
          rw [if_pos rfl]
          refine ⟨_, c - (j + 1), by rw [List.length_drop]; exact dec_set0 h1, hrd.chg hch (fun ad e => ?_), by rw [List.length_drop]; omega, by omega, fun ad e => ?_, fun e => ?_, h6⟩
          · intro h; split at e <;> (cases e; exact hbg h)
          · have hD := h5 _ rfl
            split at e <;> (cases e; exact hD)
          · split at e <;> cases e) hch
        by_cases h9 : j = 9
        · simp (maxSteps := 1000000) (disch := omega) only [genAll, decAll, tk_nil, st98, hcell, andNot_more, h64, hso, c0, hT, hfz]
          exact hfin
        · by_cases j0 : j = 0
          · simp (maxSteps := 1000000) (disch := omega) only [genAll, decAll, tk_nil, st98, hcell, andNot_more, h64, hso, c0, hT, hfz]
            exact hfin
          · have hx0 : ¬ x.toNat = 0 := fun h => hbad (.inr ⟨by omega, h⟩)
            simp (maxSteps := 1000000) (disch := omega) only [genAll, decAll, tk_nil, st98, hcell, andNot_more, h64, hso, c0, hT, hfz]
            exact hfin
      · rw [if_neg hlast] at hnum
        have hj8 : j ≤ 8 := by omega
        have hu2 : u2 < 2 ^ (7 * (j + 1)) := by
          have h2 : x.toNat % 128 * 2 ^ (7 * j) ≤ 127 * 2 ^ (7 * j) := Nat.mul_le_mul_right _ (by omega)
          have h3 : 2 ^ (7 * (j + 1)) = 128 * 2 ^ (7 * j) := by rw [show 7 * (j + 1) = 7 + 7 * j by omega, Nat.pow_add]
          rw [h3]; omega
        by_cases j0 : j = 0
        · simp (maxSteps := 1000000) (disch := omega) only [genAll, decAll, tk_nil, st98, hcell, andNot_more, h64, hso]
          exact ⟨⟨rfl, j + 1, u2, by go_num, rfl, by omega, by omega, hu2, hnum⟩, by simp [rel, intOf]; omega⟩
        · have hx0 : ¬ x.toNat = 0 := fun h => hbad (.inr ⟨by omega, h⟩)
          simp (maxSteps := 1000000) (disch := omega) only [genAll, decAll, tk_nil, st98, hcell, andNot_more, h64, hso]
          exact ⟨⟨rfl, j + 1, u2, by go_num, rfl, by omega, by omega, hu2, hnum⟩, by simp [rel, intOf]; omega⟩
  · rw [List.drop_eq_nil_of_le (by omega), numD] at hnum
    rw [← hnum] at hK
    simp (maxSteps := 1000000) (disch := omega) only [genAll, decAll, tk_nil, st98]
    exact hK w' h (Chg.refl _ _)
/-- Int of a decoder: the number, why not, what is left. -/
def intD (e : Int) (r : List UInt8) : Int × Int × List UInt8 := if e = 0 then (if (numD 0 0 r).1 = 0 then (uz (numD 0 0 r).2.1, 0, (numD 0 0 r).2.2) else (0, (numD 0 0 r).1, r)) else (0, e, r)
theorem numD_len : ∀ (l : List UInt8) (i v : Nat), (numD i v l).2.2.length ≤ l.length
  | [], i, v => by simp [numD]
  | c :: r, i, v => by
    rw [numD]
    split
    · simp
    · split
      · simp
      · exact Nat.le_trans (numD_len r _ _) (by simp)
theorem intD_len (e : Int) (r : List UInt8) : (intD e r).2.2.length ≤ r.length := by
  unfold intD
  split
  · split
    · exact numD_len r 0 0
    · exact Nat.le_refl _
  · exact Nat.le_refl _
theorem uz_bounds (v : Nat) (h : v < 2 ^ 64) : -9223372036854775808 ≤ uz v ∧ uz v ≤ 9223372036854775807 := by unfold uz; split <;> omega
theorem intD_bounds (e : Int) (r : List UInt8) : -9223372036854775808 ≤ (intD e r).1 ∧ (intD e r).1 ≤ 9223372036854775807 := by
  unfold intD
  split
  · split
    · exact uz_bounds _ (numD_lt r 0 0 (by omega) (by simp))
    · simp
  · simp
theorem dec_store {w : World} {g : Nat} {e e' : Int} {r : List UInt8} {D : Option Nat} (h : DecAt w g e r D) : DecAt (w.setCell ⟨g, 1, none⟩ (.int .i64 e')) g e' r D := by
  obtain ⟨A, c, h1, h2, h3, h4, h5, h7, h6⟩ := h
  exact ⟨A, c, dec_set1 h1, h2.chg ((Chg.refl (fun k => k = g) w).setCell (p := ⟨g, 1, none⟩) (.inl rfl) _) (fun ad e h => h6 (by rw [(h5 ad e).1, h])), h3, h4, h5, h7, h6⟩
theorem dec_cells {w : World} {g : Nat} {e : Int} {r : List UInt8} {D : Option Nat} (h : DecAt w g e r D) : w.cell? ⟨g, 1, none⟩ = some (.int .i64 e) ∧ w.frozen? ⟨g, 1, none⟩ = false ∧ w.frozen? ⟨g, 0, none⟩ = false ∧ ∃ A c, w.cell? ⟨g, 0, none⟩ = some (.slice A r.length c) := by
  obtain ⟨A, c, h1, h2, h3, h4, h5, h7, h6⟩ := h
  exact ⟨by rw [blk_cell h1]; rfl, blk_frozen h1 1, blk_frozen h1 0, A, c, by rw [blk_cell h1]; rfl⟩
theorem int_any {g : Nat} {e : Int} {r : List UInt8} {D : Option Nat} {w : World} {K : Value → World → Prop} (h : DecAt w g e r D) (hr : r.length ≤ 10000000)
    (hK : ∀ w', DecAt w' g (intD e r).2.1 (intD e r).2.2 D → Chg (fun k => k = g) w w' → K (.int .i64 (intD e r).1) w') : CallK Tryz.prog 72 #[.pointer (some ⟨g, 0, none⟩)] K w := by
  refine F72_calls _ _ _ ?_; unfold F72
  obtain ⟨c1, f1, _⟩ := dec_cells h
  by_cases he : e = 0
  · have hid : intD e r = if (numD 0 0 r).1 = 0 then (uz (numD 0 0 r).2.1, 0, (numD 0 0 r).2.2) else (0, (numD 0 0 r).1, r) := if_pos he
    rw [hid] at hK
    simp (maxSteps := 1000000) (disch := omega) only [genAll, decAll, tk_nil, st72, c1]
    refine ck98 (num_any h hr ?_)
    intro w2 h2 hc2
    have hlt := numD_lt r 0 0 (by omega) (by simp)
    generalize hnd : numD 0 0 r = nd at *
    obtain ⟨er, v, r'⟩ := nd
    simp only at h2 hK hlt ⊢
    by_cases h0 : er = 0
    · rw [if_pos h0] at h2
      rw [if_pos h0] at hK
      subst he
      simp (maxSteps := 1000000) (disch := omega) only [genAll, decAll, tk_nil, st72, uz_code v hlt]
      exact hK w2 h2 hc2
    · rw [if_neg h0] at h2
      rw [if_neg h0] at hK
      obtain ⟨c1', f1', _⟩ := dec_cells h2
      simp (maxSteps := 1000000) (disch := omega) only [genAll, decAll, tk_nil, st72, c1', f1']
      exact hK _ (dec_store h2) (hc2.setCell (p := ⟨g, 1, none⟩) (.inl rfl) _)
  · have hid : intD e r = (0, e, r) := if_neg he
    rw [hid] at hK
    simp (maxSteps := 1000000) (disch := omega) only [genAll, decAll, tk_nil, st72, c1]
    exact hK w h (Chg.refl _ _)
theorem convK_len {P : Program} {w : World} {src dst e : TypeId} {n : Nat} {A : Option Addr} {l : List UInt8} {c : Nat} (hn : n = l.length) (hs : P.underlying src = some (.slice e)) (he : P.underlying e = some (.int .u8)) (hd : P.underlying dst = some .string) (hr : Reads w A (l.map vb)) {K : Value → World → Prop} (h : K (.string (txt l)) w) :
    ConvK P src dst (.slice A n c) K w := by
  subst hn
  exact convK hs he hd hr h
/-- Text of a decoder. -/
def textD (e : Int) (r : List UInt8) : List UInt8 × Int × List UInt8 :=
  if (intD e r).2.1 ≠ 0 then ([], (intD e r).2.1, (intD e r).2.2) else if (intD e r).1 < 0 then ([], 2, (intD e r).2.2) else if ((intD e r).2.2.length : Int) < (intD e r).1 then ([], 3, (intD e r).2.2)
  else ((intD e r).2.2.take (intD e r).1.toNat, 0, (intD e r).2.2.drop (intD e r).1.toNat)
def manyD (e : Int) (r : List UInt8) (most : Int) : Int × Int × List UInt8 :=
  if (intD e r).2.1 ≠ 0 then (0, (intD e r).2.1, (intD e r).2.2) else if (intD e r).1 < 0 ∨ most < (intD e r).1 then (0, 2, (intD e r).2.2) else ((intD e r).1, 0, (intD e r).2.2)
def leftD (e : Int) (r : List UInt8) : Int := if e = 0 then r.length else 0
theorem left_any {g : Nat} {e : Int} {r : List UInt8} {D : Option Nat} {w : World} {K : Value → World → Prop} (h : DecAt w g e r D) (hK : K (.int .i64 (leftD e r)) w) : CallK Tryz.prog 39 #[.pointer (some ⟨g, 0, none⟩)] K w := by
  refine F39_calls _ _ _ ?_; unfold F39
  obtain ⟨c1, f1, f0, A, c, c0⟩ := dec_cells h
  by_cases he : e = 0
  · unfold leftD at hK; rw [if_pos he] at hK
    simp (maxSteps := 1000000) (disch := omega) only [genAll, decAll, tk_nil, st39, c1, c0]
    exact hK
  · unfold leftD at hK; rw [if_neg he] at hK
    simp (maxSteps := 1000000) (disch := omega) only [genAll, decAll, tk_nil, st39, c1, c0]
    exact hK
theorem err_any {g : Nat} {e : Int} {r : List UInt8} {D : Option Nat} {w : World} {K : Value → World → Prop} (h : DecAt w g e r D) (hK : K (.int .i64 e) w) : CallK Tryz.prog 40 #[.pointer (some ⟨g, 0, none⟩)] K w := by
  refine F40_calls _ _ _ ?_; unfold F40
  obtain ⟨c1, f1, f0, A, c, c0⟩ := dec_cells h
  simp (maxSteps := 1000000) (disch := omega) only [genAll, decAll, tk_nil, st40, c1]
  exact hK
theorem of_any {l : List UInt8} {A : Option Addr} {c : Nat} {w : World} {K : Value → World → Prop} (hr : Reads w A (l.map vb)) (hl : l.length ≤ 10000000)
    (hK : ∀ g D w', DecAt w' g 0 l D → Qt w w' → w.heap.size ≤ g → (∀ k, D = some k → w.heap.size ≤ k) → K (.pointer (some ⟨g, 0, none⟩)) w') : CallK Tryz.prog 34 #[.slice A l.length c] K w := by
  refine F34_calls _ _ _ ?_; unfold F34
  refine ck71 (clone_any hr hl ?_)
  intro A1 c1 F1 w1 o1 q1 f1
  simp (maxSteps := 1000000) (disch := omega) only [genAll, decAll, tk_nil, st34]
  obtain ⟨A', c', hv, hc1, hc2⟩ := o1.shape
  cases hv
  have hc := (Chg.refl (fun _ => False) w1).alloc (.cells #[.slice A1 l.length c1, .int .i64 0] 125)
  refine hK _ F1 _ ⟨A1, c1, blk_new _ _, Reads.of_own (o1.chg hc (fun _ _ h => h)), hc1, hc2, fun ad e => ?_, fun e => ?_, fun e => ?_⟩ (q1.trans hc) q1.size f1
  · subst e
    rcases o1 with ⟨hv, _⟩ | ⟨g, cap, hv, hF, _⟩
    · cases hv
    · injection hv with e1 e2 e3
      injection e1 with e1
      subst e1
      exact ⟨hF, rfl⟩
  · obtain ⟨h1, h2⟩ := (own_clip o1).1 e
    exact ⟨List.eq_nil_of_length_eq_zero h1, h2⟩
  · have := o1.lt e
    omega
theorem many_any {g : Nat} {e most : Int} {r : List UInt8} {D : Option Nat} {w : World} {K : Value → World → Prop} (h : DecAt w g e r D) (hr : r.length ≤ 10000000)
    (hK : ∀ w', DecAt w' g (manyD e r most).2.1 (manyD e r most).2.2 D → Chg (fun k => k = g) w w' → K (.int .i64 (manyD e r most).1) w') : CallK Tryz.prog 92 #[.pointer (some ⟨g, 0, none⟩), .int .i64 most] K w := by
  refine F92_calls _ _ _ _ ?_; unfold F92
  refine ck72 (int_any h hr ?_)
  intro w2 h2 hc2
  unfold manyD at hK
  generalize intD e r = q at *
  obtain ⟨n, e1, r1⟩ := q
  simp only at h2 hK ⊢
  obtain ⟨c1, f1, f0, A, c, c0⟩ := dec_cells h2
  simp (maxSteps := 1000000) (disch := omega) only [genAll, decAll, tk_nil, st92]
  by_cases he : e1 = 0
  · rw [if_neg (by simpa using he)] at hK
    by_cases hb : n < 0 ∨ most < n
    · rw [if_pos hb] at hK
      have hfin := hK _ (dec_store h2 (e' := 2)) (hc2.setCell (p := ⟨g, 1, none⟩) (.inl rfl) _)
      have c1' := (dec_cells (dec_store h2 (e' := 2))).1
      refine cutK0 (fun w' => w' = w2.setCell ⟨g, 1, none⟩ (.int .i64 2)) ?_ ?_
      · by_cases hn : n < 0
        · simp (maxSteps := 1000000) (disch := omega) only [genAll, decAll, tk_nil, st92, c1, f1]
          rfl
        · simp (maxSteps := 1000000) (disch := omega) only [genAll, decAll, tk_nil, st92, c1, f1]
          rfl
      rintro _ _ rfl
      simp (maxSteps := 1000000) (disch := omega) only [genAll, decAll, tk_nil, st92, c1']
      exact hfin
    · rw [if_neg hb] at hK
      refine cutK0 (fun w' => w' = w2) ?_ ?_
      · simp (maxSteps := 1000000) (disch := omega) only [genAll, decAll, tk_nil, st92, c1]
        rfl
      rintro _ w3 hw
      obtain rfl : w3 = w2 := hw
      subst he
      simp (maxSteps := 1000000) (disch := omega) only [genAll, decAll, tk_nil, st92, c1]
      exact hK w3 h2 hc2
  · rw [if_pos he] at hK
    refine cutK0 (fun w' => w' = w2) ?_ ?_
    · simp (maxSteps := 1000000) (disch := omega) only [genAll, decAll, tk_nil, st92, c1]
      rfl
    rintro _ w3 hw
    obtain rfl : w3 = w2 := hw
    simp (maxSteps := 1000000) (disch := omega) only [genAll, decAll, tk_nil, st92, c1]
    exact hK w3 h2 hc2
theorem text_any {g : Nat} {e : Int} {r : List UInt8} {D : Option Nat} {w : World} {K : Value → World → Prop} (h : DecAt w g e r D) (hr : r.length ≤ 10000000)
    (hK : ∀ w', DecAt w' g (textD e r).2.1 (textD e r).2.2 D → Chg (fun k => k = g) w w' → K (.string (txt (textD e r).1)) w') : CallK Tryz.prog 73 #[.pointer (some ⟨g, 0, none⟩)] K w := by
  refine F73_calls _ _ _ ?_; unfold F73
  refine ck72 (int_any h hr ?_)
  intro w2 h2 hc2
  have hlen := intD_len e r
  unfold textD at hK
  generalize intD e r = q at *
  obtain ⟨n, e1, r1⟩ := q
  simp only at h2 hK hlen ⊢
  obtain ⟨c1, f1, f0, A, c, c0⟩ := dec_cells h2
  by_cases he : e1 = 0
  · rw [if_neg (by simpa using he)] at hK
    by_cases hn : n < 0
    · rw [if_pos hn] at hK
      simp (maxSteps := 1000000) (disch := omega) only [genAll, decAll, tk_nil, st73, c1, f1]
      exact hK _ (dec_store h2) (hc2.setCell (p := ⟨g, 1, none⟩) (.inl rfl) _)
    · rw [if_neg hn] at hK
      by_cases hbig : (r1.length : Int) < n
      · rw [if_pos hbig] at hK
        simp (maxSteps := 1000000) (disch := omega) only [genAll, decAll, tk_nil, st73, c1, f1, c0]
        exact hK _ (dec_store h2) (hc2.setCell (p := ⟨g, 1, none⟩) (.inl rfl) _)
      · rw [if_neg hbig] at hK
        obtain ⟨k, rfl⟩ := Int.eq_ofNat_of_zero_le (show 0 ≤ n by omega)
        obtain ⟨A, c, g1, g2, g3, g4, g5, g7, g6⟩ := id h2
        have c0 : w2.cell? ⟨g, 0, none⟩ = some (.slice A r1.length c) := by rw [blk_cell g1]; rfl
        rw [Int.toNat_natCast] at hK
        subst he
        match A, g1, g2, g5, g7, c0 with
        | none, g1, g2, g5, g7, c0 =>
          obtain ⟨rfl, rfl⟩ := g7 rfl
          obtain rfl : k = 0 := by simp at hbig; omega
          have hfin := hK _ ⟨none, 0, dec_set0 (x := .slice none 0 0) g1, .inl rfl, by simp, by omega, fun _ h => (by cases h), fun _ => ⟨rfl, rfl⟩, g6⟩ (hc2.setCell (p := ⟨g, 0, none⟩) (.inl rfl) _)
          rw [List.length_nil] at c0
          have e0 : ((0 : Nat) : Int) = 0 := rfl
          simp (maxSteps := 1000000) (disch := omega) only [genAll, decAll, tk_nil, st73, c1, f0, c0, e0]
          refine convK (l := []) Tryz.underlying29 Tryz.underlying5 Tryz.underlying9 (.inl rfl) ?_
          simp (maxSteps := 1000000) (disch := omega) only [genAll, decAll, tk_nil, st73, c1, f0, c0, e0]
          exact hfin
        | some ⟨b, o, sp⟩, g1, g2, g5, g7, c0 =>
          obtain ⟨hD, rfl⟩ : D = some b ∧ sp = none := g5 _ rfl
          have hbg : b ≠ g := fun h => g6 (by rw [hD, h])
          have hch : Chg (fun k => k = g) w2 (w2.setCell ⟨g, 0, none⟩ (.slice (if c = k then some ⟨b, o, none⟩ else some ⟨b, o + k, none⟩) (r1.length - k) (c - k))) := (Chg.refl (fun k => k = g) w2).setCell (p := ⟨g, 0, none⟩) (.inl rfl) _
          have hrd := reads_drop (n := 0) g2 g3 k (by omega)
          have hfin := hK _ ⟨_, c - k, by rw [List.length_drop]; exact dec_set0 g1, hrd.chg hch (fun ad e h => (by split at e <;> (cases e; exact hbg h))), (by rw [List.length_drop]; omega), (by omega), fun ad e => (by split at e <;> (cases e; exact ⟨hD, rfl⟩)), fun e => (by split at e <;> cases e), g6⟩ (hc2.trans hch)
          have htk := reads_take g2 k
          have htl : (r1.take k).length = k := by simp; omega
          simp (maxSteps := 1000000) (disch := omega) only [genAll, decAll, tk_nil, st73, c1, f0, c0]
          refine convK_len htl.symm Tryz.underlying29 Tryz.underlying5 Tryz.underlying9 htk ?_
          simp (maxSteps := 1000000) (disch := omega) only [genAll, decAll, tk_nil, st73, c1, f0, c0]
          exact hfin
  · rw [if_pos he] at hK
    simp (maxSteps := 1000000) (disch := omega) only [genAll, decAll, tk_nil, st73, c1]
    exact hK w2 h2 hc2
end Go.Proofs.YtpjeohellehgjaaGreatDoor
end

section
/- strings.Split at this dump, as the kit's tool laid it. -/
namespace Go.Proofs
open Go.Shelf
def Tryz.lays146_ren : Go.Shelf.Ren := ⟨fun | 146 => 118 | 221 => 126 | 268 => 131 | 138 => 132 | 143 => 133 | 195 => 134 | 197 => 135 | 218 => 136 | 219 => 137 | 260 => 138 | 217 => 139 | 225 => 140 | 224 => 141 | 267 => 142 | 266 => 143 | 314 => 144 | n => n, fun | 9 => 9 | 31 => 150 | 3 => 3 | 4 => 4 | 0 => 0 | 105 => 179 | 21 => 21 | 5 => 5 | 46 => 108 | 119 => 182 | 139 => 185 | 138 => 184 | 146 => 186 | 51 => 106 | n => n, fun | 1 => 0 | 3 => 1 | 4 => 2 | n => n⟩
theorem Tryz.lays146 : Go.Proofs.Lays.n146 Tryz.prog Tryz.lays146_ren := {
  mixed := by kernel_rfl
  f138 := Tryz.func132.trans (congrArg some (by kernel_rfl))
  f143 := Tryz.func133.trans (congrArg some (by kernel_rfl))
  f146 := Tryz.func118.trans (congrArg some (by kernel_rfl))
  f195 := Tryz.func134.trans (congrArg some (by kernel_rfl))
  f197 := Tryz.func135.trans (congrArg some (by kernel_rfl))
  f217 := Tryz.func139.trans (congrArg some (by kernel_rfl))
  f218 := Tryz.func136.trans (congrArg some (by kernel_rfl))
  f219 := Tryz.func137.trans (congrArg some (by kernel_rfl))
  f221 := Tryz.func126.trans (congrArg some (by kernel_rfl))
  f224 := Tryz.func141.trans (congrArg some (by kernel_rfl))
  f225 := Tryz.func140.trans (congrArg some (by kernel_rfl))
  f260 := Tryz.func138.trans (congrArg some (by kernel_rfl))
  f266 := Tryz.func143.trans (congrArg some (by kernel_rfl))
  f267 := Tryz.func142.trans (congrArg some (by kernel_rfl))
  f268 := Tryz.func131.trans (congrArg some (by kernel_rfl))
  f314 := Tryz.func144.trans (congrArg some (by kernel_rfl))
  t0 := Tryz.underlying0
  a0 := Tryz.isAgg0
  z0 := Tryz.sizeOf0
  v0 := Tryz.zeroValue0
  t3 := Tryz.underlying3
  a3 := Tryz.isAgg3
  z3 := Tryz.sizeOf3
  v3 := Tryz.zeroValue3
  t4 := Tryz.underlying4
  a4 := Tryz.isAgg4
  z4 := Tryz.sizeOf4
  v4 := Tryz.zeroValue4
  t5 := Tryz.underlying5
  a5 := Tryz.isAgg5
  z5 := Tryz.sizeOf5
  v5 := Tryz.zeroValue5
  t9 := Tryz.underlying9
  a9 := Tryz.isAgg9
  z9 := Tryz.sizeOf9
  v9 := Tryz.zeroValue9
  t21 := Tryz.underlying21
  a21 := Tryz.isAgg21
  z21 := Tryz.sizeOf21
  v21 := Tryz.zeroValue21
  t31 := Tryz.underlying150
  a31 := Tryz.isAgg150
  z31 := Tryz.sizeOf150
  v31 := Tryz.zeroValue150
  t46 := Tryz.underlying108
  a46 := Tryz.isAgg108
  z46 := Tryz.sizeOf108
  v46 := Tryz.zeroValue108
  t51 := Tryz.underlying106
  a51 := Tryz.isAgg106
  z51 := Tryz.sizeOf106
  v51 := Tryz.zeroValue106
  t105 := Tryz.underlying179
  a105 := Tryz.isAgg179
  z105 := Tryz.sizeOf179
  v105 := Tryz.zeroValue179
  t119 := Tryz.underlying182
  a119 := Tryz.isAgg182
  z119 := Tryz.sizeOf182
  t138 := Tryz.underlying184
  a138 := Tryz.isAgg184
  z138 := Tryz.sizeOf184
  v138 := Tryz.zeroValue184
  t139 := Tryz.underlying185
  a139 := Tryz.isAgg185
  z139 := Tryz.sizeOf185
  v139 := Tryz.zeroValue185
  t146 := Tryz.underlying186
  a146 := Tryz.isAgg186
  z146 := Tryz.sizeOf186
  v146 := Tryz.zeroValue186
  g1 := by kernel_rfl
  g3 := by kernel_rfl
  g4 := by kernel_rfl }
open Go.RowKit Go.Lib in
/-- strings.Split. (LAID: no walk: one application.) -/
theorem Tryz.strings_Split (s sep : ByteArray) (m : Int) (w : World) (hs : s.size < 4294967281) (hm : w.cell? ⟨0, 0, none⟩ = some (.int .i64 m)) (h1 : 1 ≤ sep.size) :
    Calls Tryz.prog 118 #[.string s, .string sep] w fun e w' =>
      e = .returned (.slice (some ⟨w.heap.size, 0, none⟩) (Lib.countB s sep + 1) (Lib.countB s sep + 1)) ∧ w' = w.alloc (.cells ((Lib.splitB sep 0 (Lib.countB s sep) s).map Value.string).toArray 9) := Any.strings_Split Tryz.lays146 (by kernel_rfl) s sep m w hs hm h1
end Go.Proofs
end

section
/- Texts as rows of bytes: index, slices, concatenation; the parts of a path. -/
set_option linter.unusedVariables false
set_option linter.unusedSimpArgs false
namespace Go.Cn
open Go.RowKit
theorem txt_data (l : List UInt8) : (txt l).data.toList = l := rfl
theorem data_inj {a b : ByteArray} (h : a.data.toList = b.data.toList) : a = b := by
  cases a; cases b; simp at h; simp [h]
theorem txt_extract (l : List UInt8) (a b : Nat) : (txt l).extract a b = txt ((l.drop a).take (b - a)) := by
  apply data_inj
  rw [Go.Lib.extract_data]
  simp [txt_data]
theorem txt_app (a b : List UInt8) : txt a ++ txt b = txt (a ++ b) := by
  apply data_inj
  simp [txt, ByteArray.data_append]
theorem index_txt {P : Program} {t : TypeId} (hu : P.underlying t = some .string) (l : List UInt8) (k : IntKind) (i : Int) (h : 0 ≤ i ∧ i < (l.length : Int)) (K : Value → World → Prop) (w : World) : ValK P (Instr.index t (.string (txt l)) (.int k i)) K w = K (.int .u8 ((l.getD i.toNat 0).toNat : Int)) w := by
  have hs : (txt l).size = l.length := txt_size l
  unfold ValK
  rw [run_index_string w t (txt l) k i hu, dif_pos (by omega)]
  have e : (txt l)[i.toNat]'(by omega) = l.getD i.toNat 0 := by
    have hl : i.toNat < l.length := by omega
    show (txt l).data[i.toNat]'_ = _
    simp [txt, hl]
  show K _ w = _
  rw [e]
theorem slice_txt_l {P : Program} {t : TypeId} (hu : P.underlying t = some .string) (l : List UInt8) (n : Nat) (h : n ≤ l.length) (K : Value → World → Prop) (w : World) : SliceK P t (.string (txt l)) (some (.int .i64 n)) none none K w = K (.string (txt (l.drop n))) w := by
  have hs : (txt l).size = l.length := txt_size l
  unfold SliceK
  rw [run_sliceAt_string w t _ _ _ _ hu, run_slice_string_l w t (txt l) hu .i64 n (by omega) (by omega)]
  have e : (txt l).extract (n : Int).toNat (txt l).size = txt (l.drop n) := by
    rw [txt_extract, hs, List.take_of_length_le (by simp)]; rfl
  rw [e]; rfl
theorem slice_txt_h {P : Program} {t : TypeId} (hu : P.underlying t = some .string) (l : List UInt8) (n : Nat) (h : n ≤ l.length) (K : Value → World → Prop) (w : World) : SliceK P t (.string (txt l)) none (some (.int .i64 n)) none K w = K (.string (txt (l.take n))) w := by
  have hs : (txt l).size = l.length := txt_size l
  unfold SliceK
  rw [run_sliceAt_string w t _ _ _ _ hu, run_slice_string_h w t (txt l) hu .i64 n (by omega) (by omega)]
  have e : (txt l).extract 0 (n : Int).toNat = txt (l.take n) := by
    rw [txt_extract]; rfl
  rw [e]; rfl
theorem slice_txt_lh {P : Program} {t : TypeId} (hu : P.underlying t = some .string) (l : List UInt8) (a b : Nat) (h : a ≤ b ∧ b ≤ l.length) (K : Value → World → Prop) (w : World) : SliceK P t (.string (txt l)) (some (.int .i64 a)) (some (.int .i64 b)) none K w = K (.string (txt ((l.drop a).take (b - a)))) w := by
  have hs : (txt l).size = l.length := txt_size l
  unfold SliceK
  rw [run_sliceAt_string w t _ _ _ _ hu, run_slice_string w t (txt l) .i64 .i64 a b hu (by omega) (by omega) (by omega)]
  have e : (txt l).extract (a : Int).toNat (b : Int).toNat = txt ((l.drop a).take (b - a)) := by
    rw [txt_extract]; rfl
  rw [e]; rfl
theorem add_txt {P : Program} {t : TypeId} (a b : List UInt8) (h : a.length + b.length ≤ 9223372036854775807) (K : Value → World → Prop) (w : World) : BinK P .add t (.string (txt a)) (.string (txt b)) K w = K (.string (txt (a ++ b))) w := by
  have h1 : (txt a).size = a.length := txt_size a
  have h2 : (txt b).size = b.length := txt_size b
  have hn : ¬ 9223372036854775807 < a.length + b.length := by omega
  rw [← txt_app]
  unfold BinK; go_simp
  exact Iff.rfl
/-- A text cut at every stroke. -/
def splitL : List UInt8 → List (List UInt8)
  | [] => [[]]
  | c :: l => if c = 47 then [] :: splitL l else (c :: (splitL l).headD []) :: (splitL l).tail
theorem splitL_pos (l : List UInt8) : 0 < (splitL l).length := by
  cases l with
  | nil => simp [splitL]
  | cons c l => rw [splitL]; split <;> simp
theorem splitL_ne (l : List UInt8) : splitL l ≠ [] := fun h => by have := splitL_pos l; rw [h] at this; simp at this
theorem splitL_none : ∀ (l : List UInt8), (47 : UInt8) ∉ l → splitL l = [l]
  | [], _ => rfl
  | c :: l, h => by
    have hc : c ≠ 47 := fun e => h (by simp [e])
    rw [splitL, if_neg hc, splitL_none l (fun h2 => h (by simp [h2]))]; rfl
theorem splitL_hit : ∀ (a b : List UInt8), (47 : UInt8) ∉ a → splitL (a ++ 47 :: b) = a :: splitL b
  | [], b, _ => by rw [List.nil_append, splitL, if_pos rfl]
  | c :: a, b, h => by
    have hc : c ≠ 47 := fun e => h (by simp [e])
    rw [List.cons_append, splitL, if_neg hc, splitL_hit a b (fun h2 => h (by simp [h2]))]; rfl
theorem index47 : ∀ (l : List UInt8), (Go.Lib.index l [47] = -1 ∧ (47 : UInt8) ∉ l) ∨ ∃ a b, l = a ++ 47 :: b ∧ (47 : UInt8) ∉ a ∧ Go.Lib.index l [47] = a.length
  | [] => .inl ⟨rfl, by simp⟩
  | c :: l => by
    by_cases hc : c = 47
    · subst hc
      right
      refine ⟨[], l, rfl, by simp, ?_⟩
      rw [Go.Lib.index, if_pos (by simp [List.isPrefixOf])]; rfl
    · have hp : ¬ ([47] : List UInt8).isPrefixOf (c :: l) = true := by
        simp [List.isPrefixOf]; exact fun h => hc h.symm
      rw [Go.Lib.index, if_neg hp]
      rcases index47 l with ⟨h1, h2⟩ | ⟨a, b, h1, h2, h3⟩
      · left
        rw [if_pos (by rw [h1]; rfl)]
        exact ⟨rfl, by simp [h2]; intro h; exact hc h.symm⟩
      · right
        refine ⟨c :: a, b, by rw [h1]; rfl, by simp [h2]; exact fun h => hc h.symm, ?_⟩
        have hn : ¬ (Go.Lib.index l [47] == -1) = true := by rw [h3]; simp
        rw [if_neg hn, h3]; simp
theorem splitK_eq : ∀ (n : Nat) (l : List UInt8), l.length ≤ n → Go.Lib.splitK [47] 0 (Go.Lib.count l [47]) l = splitL l
  | n, l, hn => by
    rcases index47 l with ⟨h1, h2⟩ | ⟨a, b, h1, h2, h3⟩
    · rw [Go.Lib.count_miss h1, Go.Lib.splitK, splitL_none l h2]
    · have hd : l.drop (a.length + 1) = b := by rw [h1]; simp
      have hl : b.length < l.length := by rw [h1]; simp; omega
      rw [Go.Lib.count_hit (by simp) h3, Nat.add_comm, Go.Lib.splitK, if_neg (by rw [h3]; simp), h3]
      simp only [Int.toNat_natCast, List.length_cons, List.length_nil, Nat.add_zero, Nat.zero_add]
      cases n with
      | zero => omega
      | succ n =>
        rw [hd, splitK_eq n b (by omega), h1, splitL_hit a b h2]
        simp
theorem split_txt (l : List UInt8) : Go.Lib.splitB (txt [47]) 0 (Go.Lib.countB (txt l) (txt [47])) (txt l) = (splitL l).map txt := by
  have h := Go.Lib.splitB_data (txt [47]) 0 (Go.Lib.countB (txt l) (txt [47])) (txt l)
  rw [txt_data, txt_data] at h
  have e : Go.Lib.splitK [47] 0 (Go.Lib.countB (txt l) (txt [47])) l = splitL l := splitK_eq l.length l (Nat.le_refl _)
  rw [e] at h
  rw [← h, List.map_map]
  have : (txt ∘ fun x : ByteArray => x.data.toList) = id := by funext x; exact txt_list x
  rw [this, List.map_id]
theorem split_count (l : List UInt8) : Go.Lib.countB (txt l) (txt [47]) + 1 = (splitL l).length := by
  have h := Go.Lib.splitB_all (txt [47]) (by rw [txt_size]; simp) 0 _ (txt l) rfl
  rw [← h, split_txt, List.length_map]
def joinL : List (List UInt8) → List UInt8
  | [] => []
  | p :: r => p ++ r.flatMap (fun q => 47 :: q)
end Go.Cn
end

section
/- Paths, plain: names, parts, what is told of them. No program in sight. -/
set_option linter.unusedVariables false
set_option linter.unusedSimpArgs false
namespace Go.Cn
def lowB (c : UInt8) : Bool := decide (97 ≤ c.toNat) && decide (c.toNat ≤ 122)
def okB (c : UInt8) : Bool := lowB c || (decide (48 ≤ c.toNat) && decide (c.toNat ≤ 57))
def nameL (l : List UInt8) : Bool := decide (1 ≤ l.length) && decide (l.length ≤ 8) && lowB (l.getD 0 0) && l.all okB
theorem okB_iff (c : UInt8) : okB c = true ↔ (97 ≤ c.toNat ∧ c.toNat ≤ 122) ∨ (48 ≤ c.toNat ∧ c.toNat ≤ 57) := by simp [okB, lowB]
theorem nameL_iff (l : List UInt8) : nameL l = true ↔ 1 ≤ l.length ∧ l.length ≤ 8 ∧ 97 ≤ (l.getD 0 0).toNat ∧ (l.getD 0 0).toNat ≤ 122 ∧ ∀ i, i < l.length → (97 ≤ (l.getD i 0).toNat ∧ (l.getD i 0).toNat ≤ 122) ∨ (48 ≤ (l.getD i 0).toNat ∧ (l.getD i 0).toNat ≤ 57) := by
  have h : l.all okB = true ↔ ∀ i, i < l.length → (97 ≤ (l.getD i 0).toNat ∧ (l.getD i 0).toNat ≤ 122) ∨ (48 ≤ (l.getD i 0).toNat ∧ (l.getD i 0).toNat ≤ 57) := by
    rw [List.all_eq_true]
    constructor
    · intro h i hi
      have := h l[i] (List.getElem_mem hi)
      rw [okB_iff] at this
      simpa [hi] using this
    · intro h x hx
      obtain ⟨i, hi, rfl⟩ := List.mem_iff_getElem.1 hx
      have := h i hi
      rw [okB_iff]
      simpa [hi] using this
  simp only [nameL, Bool.and_eq_true, decide_eq_true_eq, lowB, h, and_assoc]
theorem nameL_no {l : List UInt8} (h : ¬ (1 ≤ l.length ∧ l.length ≤ 8 ∧ 97 ≤ (l.getD 0 0).toNat ∧ (l.getD 0 0).toNat ≤ 122 ∧ ∀ i, i < l.length → (97 ≤ (l.getD i 0).toNat ∧ (l.getD i 0).toNat ≤ 122) ∨ (48 ≤ (l.getD i 0).toNat ∧ (l.getD i 0).toNat ≤ 57))) : nameL l = false := by
  cases hn : nameL l with
  | false => rfl
  | true => exact absurd ((nameL_iff l).1 hn) h
def cutL (l : List UInt8) : Option (List (List UInt8)) := match l with
  | [] => none
  | c :: r => if c = 47 then some (if r = [] then [] else splitL r) else none
/-- Why not (0: it is one; 2: its form; 4: too long), the parts. -/
def parseL (l : List UInt8) : Int × List (List UInt8) := match cutL l with
  | none => (2, [])
  | some ps => if ps.all nameL = false then (2, []) else if 4 < ps.length then (4, []) else (0, ps)
def pathL (ps : List (List UInt8)) : List UInt8 := 47 :: joinL ps
theorem parseL_ok {l : List UInt8} (h : (parseL l).1 = 0) : cutL l = some (parseL l).2 ∧ (parseL l).2.all nameL = true ∧ (parseL l).2.length ≤ 4 := by
  unfold parseL at *
  cases hc : cutL l with
  | none => rw [hc] at h; simp at h
  | some ps =>
    rw [hc] at h
    simp only at h ⊢
    by_cases h1 : ps.all nameL = false
    · rw [if_pos h1] at h; simp at h
    · rw [if_neg h1] at h ⊢
      by_cases h2 : 4 < ps.length
      · rw [if_pos h2] at h; simp at h
      · rw [if_neg h2]
        exact ⟨rfl, by simpa using h1, by simp only; omega⟩
theorem parseL_bad {l : List UInt8} (h : (parseL l).1 ≠ 0) : (parseL l).2 = [] ∧ ((parseL l).1 = 2 ∨ (parseL l).1 = 4) := by
  unfold parseL at *
  cases hc : cutL l with
  | none => simp
  | some ps =>
    rw [hc] at h
    simp only at h ⊢
    by_cases h1 : ps.all nameL = false
    · rw [if_pos h1]; simp
    · rw [if_neg h1] at h ⊢
      by_cases h2 : 4 < ps.length
      · rw [if_pos h2]; simp
      · rw [if_neg h2] at h; simp at h
theorem parts_len {ps : List (List UInt8)} (h : ps.all nameL = true) : ∀ p ∈ ps, 1 ≤ p.length ∧ p.length ≤ 8 := by
  intro p hp
  have := (nameL_iff p).1 (List.all_eq_true.1 h p hp)
  exact ⟨this.1, this.2.1⟩
theorem name_nostroke {p : List UInt8} (h : nameL p = true) : (47 : UInt8) ∉ p := by
  intro hm
  obtain ⟨i, hi, e⟩ := List.mem_iff_getElem.1 hm
  have := ((nameL_iff p).1 h).2.2.2.2 i hi
  have e2 : p.getD i 0 = 47 := by simp [hi, e]
  rw [e2] at this
  simp at this
theorem splitL_len : ∀ l : List UInt8, (splitL l).length ≤ l.length + 1
  | [] => by simp [splitL]
  | c :: l => by
    have ih := splitL_len l
    have hp := splitL_pos l
    rw [splitL]
    split
    · simp; omega
    · simp; omega
/-- Cut again, a path's text gives its parts. -/
theorem split_join : ∀ (ps : List (List UInt8)), ps ≠ [] → (∀ p ∈ ps, (47 : UInt8) ∉ p) → splitL (joinL ps) = ps
  | [p], _, h => by
    have : joinL [p] = p := by simp [joinL]
    rw [this, splitL_none p (h p (by simp))]
  | p :: q :: r, _, h => by
    have e : joinL (p :: q :: r) = p ++ 47 :: joinL (q :: r) := by simp [joinL]
    rw [e, splitL_hit p _ (h p (by simp)), split_join (q :: r) (by simp) (fun x hx => h x (by simp [hx]))]
theorem joinL_split : ∀ l : List UInt8, joinL (splitL l) = l
  | [] => rfl
  | c :: l => by
    have ih := joinL_split l
    have hp := splitL_pos l
    rw [splitL]
    cases hs : splitL l with
    | nil => rw [hs] at hp; simp at hp
    | cons p r =>
      rw [hs] at ih
      by_cases hc : c = 47
      · rw [if_pos hc]
        simp only [joinL, List.flatMap_cons, List.nil_append] at ih ⊢
        rw [hc]; simp only [List.cons_append, List.cons.injEq, true_and]; exact ih
      · rw [if_neg hc]
        simp only [joinL, List.headD_cons, List.tail_cons, List.cons_append, List.cons.injEq, true_and] at ih ⊢
        exact ih
theorem cut_path {ps : List (List UInt8)} (h : ps.all nameL = true) : cutL (pathL ps) = some ps := by
  unfold cutL pathL
  simp only [if_true]
  cases ps with
  | nil => rfl
  | cons p r =>
    have hp := parts_len h p (by simp)
    have hne : joinL (p :: r) ≠ [] := by
      intro e
      have : p.length ≤ (joinL (p :: r)).length := by simp [joinL]
      rw [e] at this; simp at this; rw [this] at hp; simp at hp
    rw [if_neg hne, split_join _ (by simp) (fun q hq => name_nostroke (List.all_eq_true.1 h q hq))]
theorem parse_path {ps : List (List UInt8)} (h : ps.all nameL = true) (hl : ps.length ≤ 4) : parseL (pathL ps) = (0, ps) := by
  unfold parseL
  rw [cut_path h]
  simp only
  rw [if_neg (by rw [h]; decide), if_neg (by omega)]
theorem path_of {l : List UInt8} {ps : List (List UInt8)} (h : cutL l = some ps) : pathL ps = l := by
  cases l with
  | nil => cases h
  | cons c r =>
    unfold cutL at h
    simp only at h
    by_cases hc : c = 47
    · rw [if_pos hc] at h
      injection h with h
      subst h
      unfold pathL
      by_cases hr : r = []
      · rw [if_pos hr, hr, hc]; rfl
      · rw [if_neg hr, joinL_split, hc]
    · rw [if_neg hc] at h; cases h
end Go.Cn
end

section
/- Names, and a path's parts, of both packages: each by what it computes. Conditions: at most 1000 bytes. -/
set_option linter.unusedVariables false
set_option linter.unusedSimpArgs false
set_option maxRecDepth 100000
namespace Go.Proofs.YtpjeohellehgjaaGreatDoor
open Go.RowKit Go.Cn
def strs (ps : List (List UInt8)) : List Value := ps.map fun p => .string (txt p)
theorem ix9 (l : List UInt8) (i : Int) (h : 0 ≤ i ∧ i < (l.length : Int)) (K : Value → World → Prop) (w : World) : ValK Tryz.prog (Instr.index 9 (.string (txt l)) (.int .i64 i)) K w = K (.int .u8 ((l.getD i.toNat 0).toNat : Int)) w := index_txt Tryz.underlying9 l .i64 i h K w
theorem c47 : (ByteArray.mk #[47]) = txt [47] := rfl
theorem c0 : (ByteArray.mk #[]) = txt [] := rfl
theorem eq_txt (a b : List UInt8) : ((txt a).toList == (txt b).toList) = decide (a = b) := by
  rw [txt_toList, txt_toList]
  by_cases h : a = b
  · subst h; simp
  · simp [h]
theorem name_any {l : List UInt8} {w : World} {K : Value → World → Prop} (hK : K (.bool (nameL l)) w) : CallK Tryz.prog 87 #[.string (txt l)] K w := by
  refine F87_calls _ _ _ ?_; unfold F87
  have hsz := txt_size l
  by_cases h0 : l = []
  · have e : nameL l = false := by subst h0; rfl
    rw [e] at hK
    have hb : decide (l = []) = true := decide_eq_true h0
    simp (maxSteps := 1000000) (disch := omega) only [genAll, decAll, tk_nil, st87, c0, eq_txt, hb]
    exact hK
  have hb : decide (l = []) = false := decide_eq_false h0
  have hpos : 0 < l.length := List.length_pos_iff.2 h0
  by_cases h8 : 8 < l.length
  · have e : nameL l = false := nameL_no (by omega)
    rw [e] at hK
    simp (maxSteps := 1000000) (disch := omega) only [genAll, decAll, tk_nil, st87, c0, eq_txt, hb, hsz]
    exact hK
  by_cases h97 : (l.getD 0 0).toNat < 97
  · have e : nameL l = false := nameL_no (by omega)
    rw [e] at hK
    simp (maxSteps := 1000000) (disch := omega) only [genAll, decAll, tk_nil, st87, c0, eq_txt, hb, hsz, ix9]
    exact hK
  simp (maxSteps := 1000000) (disch := omega) only [genAll, decAll, tk_nil, st87, c0, eq_txt, hb, hsz, ix9]
  refine loopK1 (fun v w' => w' = w ∧ ∃ i : Nat, v = .int .i64 i ∧ i ≤ l.length ∧ ∀ j, j < i → (97 ≤ (l.getD j 0).toNat ∧ (l.getD j 0).toNat ≤ 122) ∨ (48 ≤ (l.getD j 0).toNat ∧ (l.getD j 0).toNat ≤ 57)) (fun v _ => l.length - (intOf v).toNat) ⟨rfl, 0, rfl, by omega, fun j h => by omega⟩ ?_
  rintro _ _ w' ⟨hw, i, rfl, hi, hlo⟩
  obtain rfl : w' = w := hw
  by_cases hlt : i < l.length
  · have bad : ¬ ((97 ≤ (l.getD i 0).toNat ∧ (l.getD i 0).toNat ≤ 122) ∨ (48 ≤ (l.getD i 0).toNat ∧ (l.getD i 0).toNat ≤ 57)) → K (.bool false) w' := fun hn => by
      have e : nameL l = false := nameL_no (fun h => hn (h.2.2.2.2 i hlt))
      rw [e] at hK; exact hK
    have good : ((97 ≤ (l.getD i 0).toNat ∧ (l.getD i 0).toNat ≤ 122) ∨ (48 ≤ (l.getD i 0).toNat ∧ (l.getD i 0).toNat ≤ 57)) → ∀ j, j < i + 1 → (97 ≤ (l.getD j 0).toNat ∧ (l.getD j 0).toNat ≤ 122) ∨ (48 ≤ (l.getD j 0).toNat ∧ (l.getD j 0).toNat ≤ 57) := fun hg j hj => by
      by_cases e : j = i
      · subst e; exact hg
      · exact hlo j (by omega)
    by_cases ha : (l.getD i 0).toNat < 97
    · by_cases hb1 : (l.getD i 0).toNat < 48
      · simp (maxSteps := 1000000) (disch := omega) only [genAll, decAll, tk_nil, st87, ix9, hsz]
        exact bad (by omega)
      · by_cases hb2 : 57 < (l.getD i 0).toNat
        · simp (maxSteps := 1000000) (disch := omega) only [genAll, decAll, tk_nil, st87, ix9, hsz]
          exact bad (by omega)
        · simp (maxSteps := 1000000) (disch := omega) only [genAll, decAll, tk_nil, st87, ix9, hsz]
          exact ⟨⟨rfl, i + 1, by go_num, by omega, good (by omega)⟩, by simp [rel, intOf]; omega⟩
    · by_cases hb : 122 < (l.getD i 0).toNat
      · simp (maxSteps := 1000000) (disch := omega) only [genAll, decAll, tk_nil, st87, ix9, hsz]
        exact bad (by omega)
      · simp (maxSteps := 1000000) (disch := omega) only [genAll, decAll, tk_nil, st87, ix9, hsz]
        exact ⟨⟨rfl, i + 1, by go_num, by omega, good (by omega)⟩, by simp [rel, intOf]; omega⟩
  · simp (maxSteps := 1000000) (disch := omega) only [genAll, decAll, tk_nil, st87]
    have e : nameL l = true := (nameL_iff l).2 ⟨by omega, by omega, by omega, by
      rcases hlo 0 (by omega) with h | h
      · exact h.2
      · omega, fun j hj => hlo j (by omega)⟩
    rw [e] at hK
    exact hK
theorem nameR_any {l : List UInt8} {w : World} {K : Value → World → Prop} (hK : K (.bool (nameL l)) w) : CallK Tryz.prog 82 #[.string (txt l)] K w := by
  refine F82_calls _ _ _ ?_; unfold F82
  have hsz := txt_size l
  by_cases h0 : l.length < 1
  · have e : nameL l = false := nameL_no (by omega)
    rw [e] at hK
    simp (maxSteps := 1000000) (disch := omega) only [genAll, decAll, tk_nil, st82, hsz]
    exact hK
  by_cases h8 : 8 < l.length
  · have e : nameL l = false := nameL_no (by omega)
    rw [e] at hK
    simp (maxSteps := 1000000) (disch := omega) only [genAll, decAll, tk_nil, st82, hsz]
    exact hK
  by_cases h97 : (l.getD 0 0).toNat < 97
  · have e : nameL l = false := nameL_no (by omega)
    rw [e] at hK
    simp (maxSteps := 1000000) (disch := omega) only [genAll, decAll, tk_nil, st82, hsz, ix9]
    exact hK
  by_cases h122 : 122 < (l.getD 0 0).toNat
  · have e : nameL l = false := nameL_no (by omega)
    rw [e] at hK
    simp (maxSteps := 1000000) (disch := omega) only [genAll, decAll, tk_nil, st82, hsz, ix9]
    exact hK
  simp (maxSteps := 1000000) (disch := omega) only [genAll, decAll, tk_nil, st82, hsz, ix9]
  refine loopK1 (fun v w' => w' = w ∧ ∃ i : Nat, v = .int .i64 i ∧ i ≤ l.length ∧ ∀ j, j < i → (97 ≤ (l.getD j 0).toNat ∧ (l.getD j 0).toNat ≤ 122) ∨ (48 ≤ (l.getD j 0).toNat ∧ (l.getD j 0).toNat ≤ 57)) (fun v _ => l.length - (intOf v).toNat) ⟨rfl, 0, rfl, by omega, fun j h => by omega⟩ ?_
  rintro _ _ w' ⟨hw, i, rfl, hi, hlo⟩
  obtain rfl : w' = w := hw
  by_cases hlt : i < l.length
  · have bad : ¬ ((97 ≤ (l.getD i 0).toNat ∧ (l.getD i 0).toNat ≤ 122) ∨ (48 ≤ (l.getD i 0).toNat ∧ (l.getD i 0).toNat ≤ 57)) → K (.bool false) w' := fun hn => by
      have e : nameL l = false := nameL_no (fun h => hn (h.2.2.2.2 i hlt))
      rw [e] at hK; exact hK
    have good : ((97 ≤ (l.getD i 0).toNat ∧ (l.getD i 0).toNat ≤ 122) ∨ (48 ≤ (l.getD i 0).toNat ∧ (l.getD i 0).toNat ≤ 57)) → ∀ j, j < i + 1 → (97 ≤ (l.getD j 0).toNat ∧ (l.getD j 0).toNat ≤ 122) ∨ (48 ≤ (l.getD j 0).toNat ∧ (l.getD j 0).toNat ≤ 57) := fun hg j hj => by
      by_cases e : j = i
      · subst e; exact hg
      · exact hlo j (by omega)
    by_cases ha : (l.getD i 0).toNat < 97
    · by_cases hb1 : (l.getD i 0).toNat < 48
      · simp (maxSteps := 1000000) (disch := omega) only [genAll, decAll, tk_nil, st82, ix9, hsz]
        exact bad (by omega)
      · by_cases hb2 : 57 < (l.getD i 0).toNat
        · simp (maxSteps := 1000000) (disch := omega) only [genAll, decAll, tk_nil, st82, ix9, hsz]
          exact bad (by omega)
        · simp (maxSteps := 1000000) (disch := omega) only [genAll, decAll, tk_nil, st82, ix9, hsz]
          exact ⟨⟨rfl, i + 1, by go_num, by omega, good (by omega)⟩, by simp [rel, intOf]; omega⟩
    · by_cases hb : 122 < (l.getD i 0).toNat
      · simp (maxSteps := 1000000) (disch := omega) only [genAll, decAll, tk_nil, st82, ix9, hsz]
        exact bad (by omega)
      · simp (maxSteps := 1000000) (disch := omega) only [genAll, decAll, tk_nil, st82, ix9, hsz]
        exact ⟨⟨rfl, i + 1, by go_num, by omega, good (by omega)⟩, by simp [rel, intOf]; omega⟩
  · simp (maxSteps := 1000000) (disch := omega) only [genAll, decAll, tk_nil, st82, hsz]
    have e : nameL l = true := (nameL_iff l).2 ⟨by omega, by omega, by omega, by omega, fun j hj => hlo j (by omega)⟩
    rw [e] at hK
    exact hK
/-- strings.CutPrefix of a stroke. -/
theorem cutPrefix_any {l : List UInt8} {w : World} {K : Value → World → Prop} (hK : K (.tuple #[.string (txt (if l.headD 0 = 47 then l.tail else l)), .bool (decide (l.headD 0 = 47))]) w) : CallK Tryz.prog 117 #[.string (txt l), .string (txt [47])] K w := by
  refine F117_calls _ _ _ _ ?_; unfold F117
  refine ck125 ?_
  refine F125_calls _ _ _ _ ?_; unfold F125
  refine ck130 ?_
  refine F130_calls _ _ _ _ ?_; unfold F130
  have hsz := txt_size l
  have h1 : (txt [47]).size = 1 := rfl
  have hn1 : ((1 : Nat) : Int) = 1 := rfl
  cases l with
  | nil =>
    have e0 : ((([] : List UInt8).length : Nat) : Int) = 0 := rfl
    have hd : decide ((([] : List UInt8).headD 0) = 47) = false := rfl
    rw [hd] at hK
    simp (maxSteps := 1000000) (disch := omega) only [genAll, decAll, tk_nil, st125, st130, hsz, h1, hn1, e0]
    exact hK
  | cons c r =>
    have hlen : (((c :: r).length : Nat) : Int) = (r.length : Int) + 1 := by simp
    have hsl : ∀ (K : Value → World → Prop) (w : World), SliceK Tryz.prog 9 (.string (txt (c :: r))) none (some (.int .i64 1)) none K w = K (.string (txt [c])) w := fun K w => slice_txt_h Tryz.underlying9 (c :: r) 1 (by simp) K w
    have hsl2 : ∀ (K : Value → World → Prop) (w : World), SliceK Tryz.prog 9 (.string (txt (c :: r))) (some (.int .i64 1)) none none K w = K (.string (txt r)) w := fun K w => slice_txt_l Tryz.underlying9 (c :: r) 1 (by simp) K w
    by_cases hc : c = 47
    · have hd : decide ((c :: r).headD 0 = 47) = true := decide_eq_true hc
      have hi : (if (c :: r).headD 0 = 47 then (c :: r).tail else c :: r) = r := if_pos hc
      rw [hd, hi] at hK
      have he : decide ([c] = [47]) = true := by subst hc; rfl
      simp (maxSteps := 1000000) (disch := omega) only [genAll, decAll, tk_nil, st125, st130, hsz, h1, hn1, hlen, hsl, eq_txt, he, hsl2]
      exact hK
    · have hd : decide ((c :: r).headD 0 = 47) = false := decide_eq_false hc
      have hi : (if (c :: r).headD 0 = 47 then (c :: r).tail else c :: r) = c :: r := if_neg hc
      rw [hd, hi] at hK
      have he : decide ([c] = [47]) = false := decide_eq_false (by simpa using hc)
      simp (maxSteps := 1000000) (disch := omega) only [genAll, decAll, tk_nil, st125, st130, hsz, h1, hn1, hlen, hsl, eq_txt, he, hsl2]
      exact hK
/-- strings.Split at strokes; m: what internal/bytealg.MaxLen holds. -/
theorem split_any {l : List UInt8} {w : World} {K : Value → World → Prop} (hl : l.length ≤ 50000) {m : Int} (hm : w.cell? ⟨0, 0, none⟩ = some (.int .i64 m))
    (hK : ∀ g w', Own w' 9 1 (.slice (some ⟨g, 0, none⟩) (splitL l).length (splitL l).length) (splitL l).length (strs (splitL l)) (some g) → Qt w w' → w.heap.size ≤ g → K (.slice (some ⟨g, 0, none⟩) (splitL l).length (splitL l).length) w') : CallV Tryz.prog (.func (.func 118) #[] #[]) #[.string (txt l), .string (txt [47])] K w := by
  refine callV_func Tryz.func118 (by kernel_rfl) (by kernel_rfl) ((Tryz.strings_Split (txt l) (txt [47]) m w (by rw [txt_size]; omega) hm (by rw [txt_size]; simp)).mono ?_)
  rintro e w' ⟨rfl, rfl⟩
  rw [split_txt, split_count]
  refine hK _ _ ?_ (Chg.alloc Qt.refl _) (Nat.le_refl _)
  refine .inr ⟨w.heap.size, (splitL l).length, rfl, rfl, by simp [strs], _, blk_new _ _, Nat.le_refl _, ?_, by simp, ?_⟩
  · have : (splitL l).length ≤ l.length + 1 := splitL_len l
    unfold maxLen; omega
  · simp only [List.map_map]
    rw [List.take_of_length_le (by simp)]; rfl
end Go.Proofs.YtpjeohellehgjaaGreatDoor
end

section
/- Parse of both packages, a path's text. Conditions: at most 1000 bytes. -/
set_option linter.unusedVariables false
set_option linter.unusedSimpArgs false
set_option maxRecDepth 100000
namespace Go.Proofs.YtpjeohellehgjaaGreatDoor
open Go.RowKit Go.Cn
def MaxAt (w : World) : Prop := ∃ m, w.cell? ⟨0, 0, none⟩ = some (.int .i64 m)
theorem MaxAt.quiet {w w' : World} (h : MaxAt w) (q : Qt w w') : MaxAt w' := by
  obtain ⟨m, hm⟩ := h; exact ⟨m, q.cell hm (fun h => h)⟩
theorem infoS : (Tryz.prog.info? 9).map (fun i => (i.zero, i.size, i.bytes)) = some (some (.string ByteArray.empty), 1, 16) := by kernel_rfl
theorem tyS : ElemTy Tryz.prog 150 9 (.string ByteArray.empty) 1 16 := ElemTy.mk' Tryz.underlying150 infoS rfl (by decide)
theorem strs_one (ps : List (List UInt8)) : ∀ u ∈ strs ps, u.oneCell' = true := by
  intro u hu; obtain ⟨p, _, rfl⟩ := List.mem_map.1 hu; rfl
theorem strs_at {w : World} {A : Option Addr} {ps : List (List UInt8)} (h : Reads w A (strs ps)) {i : Nat} (hi : i < ps.length) : ∃ g o, A = some ⟨g, o, none⟩ ∧ w.cell? ⟨g, o + i, none⟩ = some (.string (txt ps[i])) := by
  obtain ⟨g, o, hA, hc⟩ := Reads.get (enc := fun p => Value.string (txt p)) h hi
  refine ⟨g, o, hA, ?_⟩
  rw [hc, List.getD_eq_getElem?_getD, List.getElem?_eq_getElem hi]; rfl
theorem any_not (ps : List (List UInt8)) : ps.any (fun p => !nameL p) = !(ps.all nameL) := by
  rw [List.all_eq_not_any_not, Bool.not_not]
end Go.Proofs.YtpjeohellehgjaaGreatDoor
end

section
/- The document's cutting at strokes, and its Parse. Conditions: at most 1000 bytes. -/
set_option linter.unusedVariables false
set_option linter.unusedSimpArgs false
set_option maxRecDepth 100000
namespace Go.Proofs.YtpjeohellehgjaaGreatDoor
open Go.RowKit Go.Cn
theorem take_o {P : Program} {S : World → Prop} {s : Sem Next} {K : Value → Prop} (v : Value) (hr : ∀ w, s.run P w = .ok (.value v) w) (hk : K v) : TakeO P S s (@Cn.hid _ ⟨K⟩) := ⟨v, fun w _ => hr w, hk⟩
theorem push_run {P : Program} {w : World} {t e : TypeId} {z : Value} {bytes : Nat} (T : ElemTy P t e z 1 bytes) {v : Value} {n : Nat} {xs : List Value} {F : Option Nat} (ho : Own w e 1 v n xs F) (x : Value) (hx : x.oneCell' = true) (hb : (n + 1) * bytes ≤ 140737488355328) (hb2 : n + 1 ≤ 9223372036854775807) (ty : TypeId) :
    ∃ A' cap F' w', (Builtin.append_ #[t, t] ty #[v, .slice (some ⟨w.heap.size, 0, none⟩) 1 1]).run P (w.alloc (.cells #[x] e)) = .ok (.slice A' (n + 1) cap) w' ∧ Own w' e 1 (.slice A' (n + 1) cap) (n + 1) (xs ++ [x]) F' ∧ Chg (fun k => F = some k) w w' ∧ (∀ k, F' = some k → F = some k ∨ w.heap.size ≤ k) := by
  have q : Qt w (w.alloc (.cells #[x] e)) := Chg.alloc Qt.refl _
  obtain ⟨A', cap, F', w', p, o, k, f⟩ := app_run T (ho.chg q (fun _ _ h => h)) (some ⟨w.heap.size, 0, none⟩) 1 1 [x] rfl (Src.new w x e) (oneCell_one hx) hb hb2 ty
  refine ⟨A', cap, F', w', p, o, Chg.then (q.mono (fun _ _ h => h.elim)) k (fun i hi => .inl hi), fun j hj => ?_⟩
  rcases f j hj with h | h
  · exact .inl h
  · right; rw [h, size_alloc]; omega
/-- One more byte. -/
def snocL (l : List (List UInt8)) (c : UInt8) : List (List UInt8) := if c = 47 then l ++ [[]] else l.set (l.length - 1) (l.getD (l.length - 1) [] ++ [c])
theorem snocL_cons (a : List UInt8) (l : List (List UInt8)) (h : l ≠ []) (c : UInt8) : snocL (a :: l) c = a :: snocL l c := by
  unfold snocL
  cases l with
  | nil => exact absurd rfl h
  | cons b r =>
    by_cases hc : c = 47
    · simp [hc]
    · simp [hc]
theorem splitL_snoc : ∀ (l : List UInt8) (c : UInt8), splitL (l ++ [c]) = snocL (splitL l) c
  | [], c => by
    by_cases hc : c = 47
    · simp [splitL, snocL, hc]
    · simp [splitL, snocL, hc]
  | x :: l, c => by
    have ih := splitL_snoc l c
    rw [List.cons_append, splitL, ih]
    by_cases hx : x = 47
    · rw [if_pos hx, splitL, if_pos hx, snocL_cons _ _ (splitL_ne l)]
    · rw [if_neg hx, splitL, if_neg hx]
      cases hs : splitL l with
      | nil => exact absurd hs (splitL_ne l)
      | cons p r =>
        cases r with
        | nil =>
          unfold snocL
          by_cases hc : c = 47
          · simp [hc]
          · simp [hc]
        | cons b r =>
          rw [snocL_cons p (b :: r) (by simp)]
          simp only [List.headD_cons, List.tail_cons]
          rw [snocL_cons (x :: p) (b :: r) (by simp)]
theorem strs_len (ps : List (List UInt8)) : (strs ps).length = ps.length := by simp [strs]
theorem part_len : ∀ (l : List UInt8), ∀ p ∈ splitL l, p.length ≤ l.length
  | [], p, h => by simp [splitL] at h; subst h; simp
  | c :: l, p, h => by
    have ih := part_len l
    rw [splitL] at h
    cases hs : splitL l with
    | nil => exact absurd hs (splitL_ne l)
    | cons a r =>
      rw [hs] at h ih
      by_cases hc : c = 47
      · rw [if_pos hc] at h
        rcases List.mem_cons.1 h with h | h
        · subst h; simp
        · have := ih p h; simp; omega
      · rw [if_neg hc] at h
        rcases List.mem_cons.1 h with h | h
        · subst h; have := ih a (by simp); simp; omega
        · have := ih p (List.mem_cons_of_mem _ h); simp; omega
theorem cutL_len {l : List UInt8} {ps : List (List UInt8)} (hcut : cutL l = some ps) : ps.length ≤ l.length + 1 := by
  cases l with
  | nil => cases hcut
  | cons a r =>
    unfold cutL at hcut
    simp only at hcut
    split at hcut
    · injection hcut with hcut
      subst hcut
      split
      · simp
      · have := splitL_len r; simp; omega
    · cases hcut
theorem cutR_any {l : List UInt8} {w : World} {K : Value → World → Prop} (hl : l.length ≤ 2000000)
    (hK : ∀ A c F w', Own w' 9 1 (.slice A ((cutL l).getD []).length c) ((cutL l).getD []).length (strs ((cutL l).getD [])) F → Qt w w' → (∀ k, F = some k → w.heap.size ≤ k) → K (.tuple #[.slice A ((cutL l).getD []).length c, .bool (cutL l).isSome]) w') : CallK Tryz.prog 128 #[.string (txt l)] K w := by
  refine F128_calls _ _ _ ?_; unfold F128
  have hsz := txt_size l
  cases l with
  | nil =>
    have hb : decide (([] : List UInt8) = []) = true := rfl
    simp (maxSteps := 1000000) (disch := omega) only [genAll, decAll, tk_nil, st128, c0, eq_txt, hb]
    exact hK none 0 none w (Own.nil _ _ _) Qt.refl (fun _ h => by cases h)
  | cons c r =>
    have hb : decide (c :: r = []) = false := by simp
    have hlen : (((c :: r).length : Nat) : Int) = (r.length : Int) + 1 := by simp
    have hg0 : (c :: r).getD 0 0 = c := rfl
    by_cases hc : c = 47
    · by_cases hr : r = []
      · have e3 : cutL (c :: r) = some [] := by unfold cutL; simp [hc, hr]
        rw [e3] at hK
        have h47 : ¬ ((c.toNat : Int) ≠ 47) := by subst hc; decide
        have h48 : (c.toNat : Int) = 47 := by subst hc; rfl
        have hb2 : decide (c :: r = [47]) = true := by subst hc hr; rfl
        simp (maxSteps := 1000000) (disch := omega) only [genAll, decAll, tk_nil, st128, c0, eq_txt, hb, ix9, hlen, hg0, h48, c47, hb2]
        exact hK none 0 none w (Own.nil _ _ _) Qt.refl (fun _ h => by cases h)
      have e3 : cutL (c :: r) = some (splitL r) := by unfold cutL; simp [hc, hr]
      rw [e3] at hK
      have h48 : (c.toNat : Int) = 47 := by subst hc; rfl
      have hb2 : decide (c :: r = [47]) = false := by simp [hr]
      simp (maxSteps := 1000000) (disch := omega) only [genAll, decAll, tk_nil, st128, c0, eq_txt, hb, ix9, hlen, hg0, h48, c47, hb2]
      have hrow0 : RowAt (w.alloc (.cells #[.string (txt [])] 9)) 9 1 w.heap.size 1 1 (strs (splitL (r.take 0))) := by
        exact ⟨rfl, _, blk_new _ _, Nat.le_refl _, by decide, by decide, rfl⟩
      refine loopK2 (fun x v w' => Qt w w' ∧ ∃ (i : Nat) (g cap : Nat), v = .int .i64 (i + 1 : Nat) ∧ i ≤ r.length ∧ w.heap.size ≤ g ∧ x = .slice (some ⟨g, 0, none⟩) (splitL (r.take i)).length cap ∧ RowAt w' 9 1 g (splitL (r.take i)).length cap (strs (splitL (r.take i)))) (fun _ v _ => r.length + 1 - (intOf v).toNat) ⟨Chg.alloc Qt.refl _, 0, w.heap.size, 1, rfl, by omega, Nat.le_refl _, rfl, hrow0⟩ ?_
      rintro _ _ _ w' ⟨q, i, g, cap, rfl, hi, hg, rfl, hrow⟩
      by_cases hlt : i < r.length
      · have htk : r.take (i + 1) = r.take i ++ [r[i]] := List.take_succ_eq_append_getElem hlt
        have hgi : (c :: r).getD (i + 1) 0 = r[i] := by simp [hlt]
        have hdr : ((c :: r).drop (i + 1)).take (i + 2 - (i + 1)) = [r[i]] := by
          rw [List.drop_succ_cons, show i + 2 - (i + 1) = 1 by omega, List.drop_eq_getElem_cons hlt]; rfl
        have hsn := splitL_snoc (r.take i) r[i]
        rw [← htk] at hsn
        have hpos := splitL_pos (r.take i)
        have hle := splitL_len (r.take i)
        have hpl := part_len (r.take i)
        have htl : (r.take i).length = i := by rw [List.length_take]; omega
        rw [htl] at hle hpl
        have hl' : r.length + 1 ≤ 2000000 := by simpa using hl
        have hsl : ∀ (K : Value → World → Prop) (w : World), SliceK Tryz.prog 9 (.string (txt (c :: r))) (some (.int .i64 (i + 1 : Nat))) (some (.int .i64 (((i + 1 : Nat) : Int) + 1))) none K w = K (.string (txt [r[i]])) w := fun K w => by
          rw [show (((i + 1 : Nat) : Int) + 1) = ((i + 2 : Nat) : Int) by omega, slice_txt_lh Tryz.underlying9 (c :: r) (i + 1) (i + 2) ⟨by omega, by simp; omega⟩, hdr]
        generalize r[i] = d at *
        generalize splitL (r.take i) = ps at *
        by_cases hd : d = 47
        · have hd' : (d.toNat : Int) = 47 := by subst hd; rfl
          simp (maxSteps := 1000000) (disch := omega) only [genAll, decAll, tk_nil, st128, hsz, hlen, ix9, hgi, hd']
          obtain ⟨A2, c2, F2, w2, p2, o2, k2, f2⟩ := push_run (P := Tryz.prog) tyS hrow.own (.string (txt [])) rfl (by omega) (by omega) 150
          refine appK p2 ?_
          obtain ⟨g2, c2', e2, rfl, hr2⟩ := o2.pos (by omega)
          injection e2 with e21 e22 e23
          subst e21 e23
          have hq2 := Qt.then q k2 (fun k hk => by cases hk; exact hg)
          have hg2 : w.heap.size ≤ g2 := by
            rcases f2 g2 rfl with h | h
            · cases h; exact hg
            · have := q.size; omega
          have e47 : snocL ps d = ps ++ [[]] := by unfold snocL; rw [if_pos hd]
          simp (maxSteps := 1000000) (disch := omega) only [genAll, decAll, tk_nil, st128]
          refine ⟨⟨hq2, i + 1, g2, c2, by go_num, by omega, hg2, ?_, ?_⟩, by simp [rel, intOf]; omega⟩
          · rw [hsn, e47, List.length_append]; rfl
          · rw [hsn, e47, List.length_append, strs, List.map_append]; exact hr2
        · have hd' : ¬ (d.toNat : Int) = 47 := fun h => hd (UInt8.toNat_inj.1 (show d.toNat = 47 by omega))
          simp (maxSteps := 1000000) (disch := omega) only [genAll, decAll, tk_nil, st128, hsz, hlen, ix9, hgi, hd']
          refine drawK_by (fun _ => True) trivial ?_
          have hn1 : ((ps.length : Int) - 1).toNat = ps.length - 1 := by omega
          refine take_o (.int .i64 ps.length) (fun w => by first | (go_simp; rfl) | (go_simp; done)) ?_
          refine take_bin (.int .i64 ((ps.length : Int) - 1)) (fun w' _ => by (simp (maxSteps := 1000000) (disch := omega) only [genAll, decAll, tk_nil, st128]; try (exact ⟨trivial, trivial⟩))) ?_
          refine take_o (.int .i64 ps.length) (fun w => by first | (go_simp; rfl) | (go_simp; done)) ?_
          refine take_bin (.int .i64 ((ps.length : Int) - 1)) (fun w' _ => by (simp (maxSteps := 1000000) (disch := omega) only [genAll, decAll, tk_nil, st128]; try (exact ⟨trivial, trivial⟩))) ?_
          refine take_index (.pointer (some ⟨g, ps.length - 1, none⟩)) (fun w' _ => by (simp (maxSteps := 1000000) (disch := omega) only [genAll, decAll, tk_nil, st128, hn1]; try (exact ⟨trivial, trivial⟩))) ?_
          refine take_bin (.int .i64 (((i + 1 : Nat) : Int) + 1)) (fun w' _ => by (simp (maxSteps := 1000000) (disch := omega) only [genAll, decAll, tk_nil, st128]; try (exact ⟨trivial, trivial⟩))) ?_
          refine take_slice (.string (txt [d])) (fun w' _ => by (simp (maxSteps := 1000000) (disch := omega) only [genAll, decAll, tk_nil, st128, hsl]; try (exact ⟨trivial, trivial⟩))) ?_
          have hlast : ps.length - 1 < ps.length := by omega
          have hcl : w'.drew.cell? ⟨g, ps.length - 1, none⟩ = some (.string (txt (ps.getD (ps.length - 1) []))) := by
            have := (hrow.chg (S := fun _ => False) (Qt.drew Qt.refl) (fun h => h)).cell (ps.length - 1) (by omega)
            rw [this, strs, List.getElem?_map, List.getElem?_eq_getElem hlast, List.getD_eq_getElem?_getD, List.getElem?_eq_getElem hlast]; rfl
          have hll : (ps.getD (ps.length - 1) []).length ≤ 2000000 := by
            rw [List.getD_eq_getElem?_getD, List.getElem?_eq_getElem hlast]
            have := hpl _ (List.getElem_mem hlast)
            simp only [Option.getD_some]; omega
          have e47 : snocL ps d = ps.set (ps.length - 1) (ps.getD (ps.length - 1) [] ++ [d]) := by unfold snocL; rw [if_neg hd]
          generalize ps.getD (ps.length - 1) [] = lp at *
          have hrow2 := (hrow.chg (S := fun _ => False) (Qt.drew Qt.refl) (fun h => h)).store (ps.length - 1) (.string (txt (lp ++ [d])))
          have hfz := (hrow.chg (S := fun _ => False) (Qt.drew Qt.refl) (fun h => h)).frozen (ps.length - 1)
          have hq2 : Qt w (w'.drew.setCell ⟨g, ps.length - 1, none⟩ (.string (txt (lp ++ [d])))) := Qt.then q ((Chg.refl (fun k => k = g) w').drew.setCell (p := ⟨g, ps.length - 1, none⟩) (.inl rfl) _) (fun k hk => by rw [hk]; exact hg)
          simp (maxSteps := 1000000) (disch := omega) only [genAll, decAll, tk_nil, st128, hcl]
          refine ⟨?_, trivial⟩
          refine take_bin (.string (txt (lp ++ [d]))) (fun w' _ => by rw [add_txt _ _ (by simp; omega)]; exact ⟨rfl, rfl⟩) ?_
          refine take_index (.pointer (some ⟨g, ps.length - 1, none⟩)) (fun w' _ => by (simp (maxSteps := 1000000) (disch := omega) only [genAll, decAll, tk_nil, st128, hn1]; try (exact ⟨trivial, trivial⟩))) ?_
          simp (maxSteps := 1000000) (disch := omega) only [genAll, decAll, tk_nil, st128, hcl, hfz]
          refine ⟨⟨⟨hq2, i + 1, g, cap, by go_num, by omega, hg, ?_, ?_⟩, by simp [rel, intOf]; omega⟩, trivial⟩
          · rw [hsn, e47, List.length_set]
          · rw [hsn, e47, List.length_set, strs, List.map_set]; exact hrow2
      · obtain rfl : i = r.length := by omega
        rw [List.take_length] at hrow ⊢
        simp (maxSteps := 1000000) (disch := omega) only [genAll, decAll, tk_nil, st128, hsz, hlen]
        exact hK _ _ _ w' hrow.own q (fun k hk => by cases hk; exact hg)
    · have e3 : cutL (c :: r) = none := by unfold cutL; simp [hc]
      rw [e3] at hK
      have h48 : ¬ (c.toNat : Int) = 47 := fun h => hc (UInt8.toNat_inj.1 (show c.toNat = 47 by omega))
      simp (maxSteps := 1000000) (disch := omega) only [genAll, decAll, tk_nil, st128, c0, eq_txt, hb, ix9, hlen, hg0, h48]
      exact hK none 0 none w (Own.nil _ _ _) Qt.refl (fun _ h => by cases h)
theorem parseR_any {l : List UInt8} {w : World} {K : Value → World → Prop} (hl : l.length ≤ 2000000)
    (hK : ∀ A c F w', Own w' 9 1 (.slice A (parseL l).2.length c) (parseL l).2.length (strs (parseL l).2) F → Qt w w' → (∀ k, F = some k → w.heap.size ≤ k) → K (.tuple #[.slice A (parseL l).2.length c, .int .i64 (parseL l).1]) w') : CallK Tryz.prog 122 #[.string (txt l)] K w := by
  refine F122_calls _ _ _ ?_; unfold F122
  refine ck128 (cutR_any (by omega) ?_)
  unfold parseL at hK
  cases hcut : cutL l with
  | none =>
    intro A c F w' o q f
    rw [hcut] at hK
    simp (maxSteps := 1000000) (disch := omega) only [genAll, decAll, tk_nil, st122, Option.isSome_none]
    exact hK none 0 none w' (Own.nil _ _ _) q (fun _ h => by cases h)
  | some ps =>
    rw [hcut] at hK
    intro A c F w' o q f
    simp only [Option.getD_some, Option.isSome_some] at o ⊢
    have hb := o.shape
    have hr := Reads.of_own o
    have hpl : ps.length ≤ 3000000 := by
      have h1 : ps.length ≤ l.length + 1 := cutL_len hcut
      omega
    simp only at hK
    simp (maxSteps := 1000000) (disch := omega) only [genAll, decAll, tk_nil, st122]
    refine loopK1 (fun v w2 => w2 = w' ∧ ∃ i : Nat, v = .int .i64 i ∧ i ≤ ps.length ∧ (ps.take i).all nameL = true) (fun v _ => ps.length - (intOf v).toNat) ⟨rfl, 0, rfl, by omega, rfl⟩ ?_
    rintro _ _ w2 ⟨hw, i, rfl, hi, hlo⟩
    obtain rfl : w2 = w' := hw
    by_cases hlt : i < ps.length
    · obtain ⟨g, o', rfl, hc⟩ := strs_at hr hlt
      have htk : ps.take (i + 1) = ps.take i ++ [ps[i]] := List.take_succ_eq_append_getElem hlt
      have hmem := List.getElem_mem hlt
      generalize ps[i] = p at *
      simp (maxSteps := 1000000) (disch := omega) only [genAll, decAll, tk_nil, st122, hc]
      refine ck82 (nameR_any ?_)
      cases hp : nameL p with
      | true =>
        simp (maxSteps := 1000000) (disch := omega) only [genAll, decAll, tk_nil, st122]
        refine ⟨⟨rfl, i + 1, by go_num, by omega, ?_⟩, by simp [rel, intOf]; omega⟩
        rw [htk, List.all_append, hlo]; simp [hp]
      | false =>
        have hany : ps.all nameL = false := by
          cases h : ps.all nameL with
          | false => rfl
          | true => rw [List.all_eq_true.1 h p hmem] at hp; cases hp
        rw [if_pos hany] at hK
        simp (maxSteps := 1000000) (disch := omega) only [genAll, decAll, tk_nil, st122]
        exact hK none 0 none w2 (Own.nil _ _ _) q (fun _ h => by cases h)
    · rw [List.take_of_length_le (by omega)] at hlo
      rw [if_neg (by rw [hlo]; decide)] at hK
      by_cases h2 : 4 < ps.length
      · rw [if_pos h2] at hK
        simp (maxSteps := 1000000) (disch := omega) only [genAll, decAll, tk_nil, st122]
        exact hK none 0 none w2 (Own.nil _ _ _) q (fun _ h => by cases h)
      · rw [if_neg h2] at hK
        simp (maxSteps := 1000000) (disch := omega) only [genAll, decAll, tk_nil, st122]
        exact hK A c F w2 o q f
end Go.Proofs.YtpjeohellehgjaaGreatDoor
end

section
/- Two paths, plain: where they part; patterns. No program in sight. -/
set_option linter.unusedVariables false
set_option linter.unusedSimpArgs false
namespace Go.Cn
def sharedN {α : Type} [DecidableEq α] : List α → List α → Nat
  | a :: l, b :: k => if a = b then sharedN l k + 1 else 0
  | _, _ => 0
theorem sharedN_le {α : Type} [DecidableEq α] : ∀ (a b : List α), sharedN a b ≤ a.length ∧ sharedN a b ≤ b.length
  | [], b => by simp [sharedN]
  | a :: l, [] => by simp [sharedN]
  | a :: l, b :: k => by
    have := sharedN_le l k
    unfold sharedN
    split
    · simp; omega
    · simp
theorem sharedN_eq {α : Type} [DecidableEq α] (d : α) : ∀ (a b : List α) (i : Nat), i ≤ a.length → i ≤ b.length → a.take i = b.take i → (i < a.length → i < b.length → a.getD i d ≠ b.getD i d) → sharedN a b = i
  | [], b, i, h1, _, _, _ => by simp at h1; subst h1; simp [sharedN]
  | a :: l, [], i, _, h2, _, _ => by simp at h2; subst h2; simp [sharedN]
  | a :: l, b :: k, 0, _, _, _, hne => by
    have := hne (by simp) (by simp)
    unfold sharedN
    rw [if_neg (by simpa using this)]
  | a :: l, b :: k, i + 1, h1, h2, ht, hne => by
    simp only [List.take_succ_cons, List.cons.injEq] at ht
    have := sharedN_eq d l k i (by simpa using h1) (by simpa using h2) ht.2 (fun x y => by
      have := hne (by simpa using x) (by simpa using y)
      simpa using this)
    unfold sharedN
    rw [if_pos ht.1, this]
theorem sharedN_take {α : Type} [DecidableEq α] : ∀ (a b : List α), a.take (sharedN a b) = b.take (sharedN a b)
  | [], b => by simp [sharedN]
  | a :: l, [] => by simp [sharedN]
  | a :: l, b :: k => by
    have := sharedN_take l k
    unfold sharedN
    split
    · rename_i h; simp [h, this]
    · simp
theorem sharedN_comm {α : Type} [DecidableEq α] : ∀ (a b : List α), sharedN a b = sharedN b a
  | [], b => by cases b <;> simp [sharedN]
  | a :: l, [] => by simp [sharedN]
  | a :: l, b :: k => by
    have := sharedN_comm l k
    unfold sharedN
    by_cases h : a = b
    · rw [if_pos h, if_pos h.symm, this]
    · rw [if_neg h, if_neg (fun e => h e.symm)]
/-- One lies at the head of the other. -/
theorem sharedN_full {α : Type} [DecidableEq α] (a b : List α) : sharedN a b = b.length ↔ b <+: a := by
  constructor
  · intro h
    have ht := sharedN_take a b
    rw [h, List.take_length] at ht
    exact ⟨a.drop b.length, (congrArg (· ++ a.drop b.length) ht.symm).trans (List.take_append_drop _ _)⟩
  · rintro ⟨t, rfl⟩
    induction b with
    | nil => cases t <;> simp [sharedN]
    | cons x b ih => simp [sharedN, ih]
def depthL (l : List UInt8) : Int := if (parseL l).1 = 0 then ((parseL l).2.length : Int) else -1
def parentL (l : List UInt8) : List UInt8 := if (parseL l).2 = [] then [] else pathL (parseL l).2.dropLast
def lastL (l : List UInt8) : List UInt8 := (parseL l).2.getD ((parseL l).2.length - 1) []
def joinP (l p : List UInt8) : Int × List UInt8 := if (parseL l).1 ≠ 0 then (2, []) else if nameL p = false then (5, []) else if 4 ≤ (parseL l).2.length then (4, []) else (0, pathL ((parseL l).2 ++ [p]))
def zonesL (l : List UInt8) : List (List UInt8) := (List.range (parseL l).2.length).map fun i => pathL ((parseL l).2.take i)
def underL (l z : List UInt8) : Bool := decide ((parseL l).1 = 0) && decide ((parseL z).1 = 0) && decide (sharedN (parseL l).2 (parseL z).2 = (parseL z).2.length)
def commonL (a b : List UInt8) : List UInt8 := if (parseL a).1 = 0 ∧ (parseL b).1 = 0 then pathL ((parseL a).2.take (sharedN (parseL a).2 (parseL b).2)) else []
def partsL (p : List UInt8) : List (List UInt8) := (cutL p).getD []
def longerL (q : List (List UInt8)) : Bool := decide (q.getD (q.length - 1) [] = [42, 42])
def bodyL (q : List (List UInt8)) : List (List UInt8) := if longerL q = true then q.take (q.length - 1) else q
def starB (p : List UInt8) : Bool := decide (p = [42]) || nameL p
def okPat (p : List UInt8) : Bool := (cutL p).isSome && (bodyL (partsL p)).all starB
def fitsL (b ps : List (List UInt8)) : Bool := (b.zip ps).all fun x => decide (x.1 = [42]) || decide (x.1 = x.2)
def matchL (p s : List UInt8) : Bool := okPat p && decide ((parseL s).1 = 0) && decide ((bodyL (partsL p)).length ≤ (parseL s).2.length) && (decide ((parseL s).2.length ≤ (bodyL (partsL p)).length) || longerL (partsL p)) && fitsL (bodyL (partsL p)) (parseL s).2
theorem bodyL_le (q : List (List UInt8)) : (bodyL q).length ≤ q.length := by unfold bodyL; split <;> simp <;> omega
end Go.Cn
end

section
/- path.Depth, the document's Path and Node: each by what it computes. -/
set_option linter.unusedVariables false
set_option linter.unusedSimpArgs false
set_option maxRecDepth 100000
namespace Go.Proofs.YtpjeohellehgjaaGreatDoor
open Go.RowKit Go.Cn
theorem len_small (l : List UInt8) : (parseL l).2.length ≤ 4 := by
  by_cases h : (parseL l).1 = 0
  · exact (parseL_ok h).2.2
  · rw [(parseL_bad h).1]; simp
theorem code_small (l : List UInt8) : (parseL l).1 = 0 ∨ (parseL l).1 = 2 ∨ (parseL l).1 = 4 := by
  by_cases h : (parseL l).1 = 0
  · exact .inl h
  · exact .inr (parseL_bad h).2
theorem isR_any {l : List UInt8} {w : World} {K : Value → World → Prop} (hl : l.length ≤ 2000000)
    (hK : ∀ w', Qt w w' → K (.bool (decide ((parseL l).1 = 0))) w') : CallK Tryz.prog 113 #[.string (txt l)] K w := by
  refine F113_calls _ _ _ ?_; unfold F113
  refine ck122 (parseR_any (by omega) ?_)
  intro A c F w' o q f
  have e : ((parseL l).1 == 0) = decide ((parseL l).1 = 0) := rfl
  generalize (parseL l).1 = x at *
  simp (maxSteps := 1000000) (disch := omega) only [genAll, decAll, tk_nil, st113, e]
  exact hK w' q
def nodeL (l : List UInt8) : Bool := decide ((parseL l).1 = 0) && decide (l ≠ [47])
theorem node_depth (l : List UInt8) : nodeL l = true ↔ 1 ≤ depthL l := by
  unfold nodeL depthL
  by_cases h : (parseL l).1 = 0
  · rw [if_pos h]
    have hp := path_of (parseL_ok h).1
    have e : l = [47] ↔ (parseL l).2 = [] := by
      constructor
      · intro e; rw [e]; rfl
      · intro e; rw [e] at hp; exact hp.symm
    have e2 : (parseL l).2 ≠ [] ↔ 1 ≤ ((parseL l).2.length : Int) := by
      rw [← List.length_pos_iff]; omega
    rw [← e2]
    simp [h, e]
  · rw [if_neg h]
    simp [h]
theorem nodeR_any {l : List UInt8} {w : World} {K : Value → World → Prop} (hl : l.length ≤ 2000000)
    (hK : ∀ w', Qt w w' → K (.bool (nodeL l)) w') : CallK Tryz.prog 102 #[.string (txt l)] K w := by
  refine F102_calls _ _ _ ?_; unfold F102
  refine ck113 (isR_any hl ?_)
  intro w' q
  have fin := hK w' q
  unfold nodeL at fin
  by_cases h : (parseL l).1 = 0
  · have hd : decide ((parseL l).1 = 0) = true := decide_eq_true h
    rw [hd, Bool.true_and] at fin
    by_cases h2 : l = [47]
    · have hd2 : decide (l = [47]) = true := decide_eq_true h2
      have hd3 : decide (l ≠ [47]) = false := decide_eq_false (fun e => e h2)
      rw [hd3] at fin
      simp (maxSteps := 1000000) (disch := omega) only [genAll, decAll, tk_nil, st102, hd, c47, eq_txt, hd2, Bool.not_true]
      exact fin
    · have hd2 : decide (l = [47]) = false := decide_eq_false h2
      have hd3 : decide (l ≠ [47]) = true := decide_eq_true h2
      rw [hd3] at fin
      simp (maxSteps := 1000000) (disch := omega) only [genAll, decAll, tk_nil, st102, hd, c47, eq_txt, hd2, Bool.not_false]
      exact fin
  · have hd : decide ((parseL l).1 = 0) = false := decide_eq_false h
    rw [hd, Bool.false_and] at fin
    simp (maxSteps := 1000000) (disch := omega) only [genAll, decAll, tk_nil, st102, hd, guardK_u]
    exact fin
theorem node_len {l : List UInt8} (h : nodeL l = true) : 2 ≤ l.length ∧ l.length ≤ 40 := by
  unfold nodeL at h
  rw [Bool.and_eq_true, decide_eq_true_eq, decide_eq_true_eq] at h
  have hk := parseL_ok h.1
  have hp := path_of hk.1
  have key : ∀ r : List (List UInt8), (∀ p ∈ r, p.length ≤ 8) → (r.flatMap (fun q => (47 : UInt8) :: q)).length ≤ r.length * 9 := by
    intro r hr
    induction r with
    | nil => simp
    | cons a r ih =>
      have h1 := ih (fun p hp => hr p (by simp [hp]))
      have h2 := hr a (by simp)
      rw [List.flatMap_cons, List.length_append, List.length_cons, List.length_cons, Nat.succ_mul]; omega
  have hn := fun p hp => (parts_len hk.2.1 p hp)
  generalize (parseL l).2 = ps at *
  cases ps with
  | nil => exact absurd hp.symm h.2
  | cons p r =>
    have h1 := key r (fun q hq => (hn q (by simp [hq])).2)
    have h2 := hn p (by simp)
    have h3 := hk.2.2
    rw [List.length_cons] at h3
    have h4 : r.length * 9 ≤ 3 * 9 := by omega
    rw [← hp]
    unfold pathL
    rw [List.length_cons, joinL, List.length_append]
    omega
end Go.Proofs.YtpjeohellehgjaaGreatDoor
end

section
/- Numerals in decimal: as Go's library reads and writes them, and as the document does. No program in sight. -/
set_option linter.unusedVariables false
set_option linter.unusedSimpArgs false
namespace Go.Cn
open Go.Lib
def digB (c : UInt8) : Bool := decide (48 ≤ c.toNat) && decide (c.toNat ≤ 57)
def stepN (a : Nat) (c : UInt8) : Nat := 10 * a + (c.toNat - 48)
def valN (d : List UInt8) : Nat := d.foldl stepN 0
theorem digB_iff (c : UInt8) : digB c = true ↔ 48 ≤ c.toNat ∧ c.toNat ≤ 57 := by simp [digB]
theorem valN_snoc (d : List UInt8) (c : UInt8) : valN (d ++ [c]) = 10 * valN d + (c.toNat - 48) := by
  unfold valN; rw [List.foldl_append]; rfl
theorem byte_dig {c : UInt8} (h : 48 ≤ c.toNat) : UInt8.ofNat (48 + (c.toNat - 48)) = c := by
  rw [show 48 + (c.toNat - 48) = c.toNat by omega]; simp
theorem dig_toNat {n : Nat} (h : n < 10) : (UInt8.ofNat (48 + n)).toNat = 48 + n := by simp; omega
theorem dec_one {u : Nat} (h : u < 10) : decDigits u = [UInt8.ofNat (48 + u)] := decDigits_one h
theorem dec_more {u : Nat} (h : ¬ u < 10) : decDigits u = decDigits (u / 10) ++ [UInt8.ofNat (48 + u % 10)] := by rw [decDigits, dif_neg h]
theorem dec_all : ∀ (u : Nat), (decDigits u).all digB = true ∧ valN (decDigits u) = u ∧ decDigits u ≠ [] ∧ (u ≠ 0 → (decDigits u).headD 0 ≠ 48) := by
  intro u
  induction u using Nat.strongRecOn with
  | _ u ih =>
    by_cases h : u < 10
    · have e := dig_toNat h
      rw [dec_one h]
      refine ⟨?_, ?_, by simp, fun h0 => ?_⟩
      · rw [List.all_cons, List.all_nil, Bool.and_true, digB_iff, e]; omega
      · show 10 * 0 + _ = _
        rw [e]; omega
      · show UInt8.ofNat (48 + u) ≠ 48
        intro he
        have := congrArg UInt8.toNat he
        rw [e] at this
        have h48 : (48 : UInt8).toNat = 48 := rfl
        omega
    · obtain ⟨h1, h2, h3, h4⟩ := ih (u / 10) (by omega)
      have e := dig_toNat (n := u % 10) (by omega)
      rw [dec_more h]
      refine ⟨?_, ?_, by simp, fun _ => ?_⟩
      · rw [List.all_append, h1, List.all_cons, List.all_nil, Bool.and_true, Bool.true_and, digB_iff, e]; omega
      · rw [valN_snoc, h2, e]; omega
      · have := h4 (by omega)
        cases hd : decDigits (u / 10) with
        | nil => exact absurd hd h3
        | cons a r => rw [hd] at this; exact this
/-- A numeral that does not begin with nought. -/
theorem dec_back : ∀ (n : Nat) (d : List UInt8), d.length = n + 1 → d.all digB = true → d.headD 0 ≠ 48 → 1 ≤ valN d ∧ decDigits (valN d) = d ∧ valN d < 10 ^ (n + 1)
  | 0, d, hl, ha, hh => by
    match d, hl with
    | [c], _ =>
      rw [List.all_cons, List.all_nil, Bool.and_true, digB_iff] at ha
      have hc : c.toNat ≠ 48 := fun e => hh (by show c = 48; exact UInt8.toNat_inj.1 e)
      have hv : valN [c] = c.toNat - 48 := by show 10 * 0 + _ = _; omega
      rw [hv]
      exact ⟨by omega, by rw [dec_one (by omega), byte_dig ha.1], by omega⟩
  | n + 1, d, hl, ha, hh => by
    obtain ⟨e, c, rfl⟩ : ∃ e c, d = e ++ [c] := by
      have hne : d ≠ [] := fun h => by rw [h] at hl; cases hl
      exact ⟨d.dropLast, d.getLast hne, (List.dropLast_concat_getLast hne).symm⟩
    have hel : e.length = n + 1 := by simpa using hl
    rw [List.all_append, Bool.and_eq_true] at ha
    obtain ⟨ha1, ha2⟩ := ha
    rw [List.all_cons, List.all_nil, Bool.and_true, digB_iff] at ha2
    have heh : e.headD 0 ≠ 48 := by
      cases e with
      | nil => cases hel
      | cons a r => exact hh
    obtain ⟨h1, h2, h3⟩ := dec_back n e hel ha1 heh
    rw [valN_snoc]
    have hd : (10 * valN e + (c.toNat - 48)) / 10 = valN e := by omega
    have hm : (10 * valN e + (c.toNat - 48)) % 10 = c.toNat - 48 := by omega
    refine ⟨by omega, ?_, ?_⟩
    · rw [dec_more (by omega), hd, hm, h2, byte_dig ha2.1]
    · rw [Nat.pow_succ]; omega
theorem dec_len {u k : Nat} (h : u < 10 ^ (k + 1)) : (decDigits u).length ≤ k + 1 := by
  induction k generalizing u with
  | zero => rw [dec_one (by simpa using h)]; simp
  | succ k ih =>
    by_cases h1 : u < 10
    · rw [dec_one h1]; simp
    · rw [dec_more h1, List.length_append]
      have := ih (u := u / 10) (by rw [Nat.pow_succ] at h; omega)
      simp; omega
/-- The document's numerals. -/
def numR (l : List UInt8) : Option Int :=
  let neg := decide (l.headD 0 = 45)
  let d := if neg = true then l.tail else l
  if d = [] ∨ 19 < d.length ∨ (d.headD 0 = 48 ∧ (1 < d.length ∨ neg = true)) then none
  else if d.all digB = false then none
  else if neg = true ∧ valN d = 9223372036854775808 then some (-9223372036854775808)
  else if 9223372036854775808 ≤ valN d then none
  else if neg = true then some (-(valN d : Int)) else some (valN d : Int)
def in64 (v : Int) : Prop := -9223372036854775808 ≤ v ∧ v ≤ 9223372036854775807
theorem head_dig {d : List UInt8} (h : d.all digB = true) (hn : d ≠ []) : d.headD 0 ≠ 45 := by
  cases d with
  | nil => exact absurd rfl hn
  | cons c r =>
    rw [List.all_cons, Bool.and_eq_true, digB_iff] at h
    intro e
    have : c = 45 := e
    subst this
    exact absurd h.1.1 (by decide)
theorem numR_itoa {v : Int} (h : in64 v) : numR (itoa v) = some v := by
  obtain ⟨h1, h2⟩ := h
  unfold itoa
  by_cases hv : v < 0
  · rw [if_pos hv]
    obtain ⟨a1, a2, a3, a4⟩ := dec_all v.natAbs
    have hl := dec_len (u := v.natAbs) (k := 18) (by omega)
    have a4' := a4 (by omega)
    unfold numR
    simp only [List.headD_cons, List.tail_cons, decide_true, if_true, true_and]
    rw [if_neg (by rintro (e | e | ⟨e, _⟩); exact a3 e; omega; exact a4' e), if_neg (by rw [a1]; decide), a2]
    by_cases hm : v.natAbs = 9223372036854775808
    · rw [if_pos hm]; congr 1; omega
    · rw [if_neg hm, if_neg (by omega)]; congr 1; omega
  · rw [if_neg hv]
    obtain ⟨a1, a2, a3, a4⟩ := dec_all v.toNat
    have hl := dec_len (u := v.toNat) (k := 18) (by omega)
    have hn : decide ((decDigits v.toNat).headD 0 = 45) = false := decide_eq_false (head_dig a1 a3)
    unfold numR
    simp only [hn, Bool.false_eq_true, if_false, or_false, false_and]
    rw [if_neg, if_neg (by rw [a1]; decide), a2, if_neg (by omega)]
    · congr 1; omega
    · rintro (e | e | ⟨e, e2⟩)
      · exact a3 e
      · omega
      · by_cases h0 : v.toNat = 0
        · rw [h0, dec_one (by omega)] at e2; simp at e2
        · exact a4 h0 e
theorem numR_some {l : List UInt8} {v : Int} (h : numR l = some v) : in64 v ∧ l = itoa v := by
  unfold numR at h
  simp only at h
  by_cases hn : l.headD 0 = 45
  · rw [decide_eq_true hn] at h
    simp only [if_true, true_and, or_true, and_true] at h
    have hl : l = 45 :: l.tail := by
      cases l with
      | nil => exact absurd hn (by decide)
      | cons a r => rw [show a = 45 from hn]; rfl
    generalize l.tail = d at *
    split at h
    · cases h
    · rename_i h1
      split at h
      · cases h
      · rename_i h2
        have h2' : d.all digB = true := by simpa using h2
        have hd0 : d ≠ [] := fun e => h1 (.inl e)
        have hdl : 0 < d.length := List.length_pos_iff.2 hd0
        obtain ⟨b1, b2, b3⟩ := dec_back (d.length - 1) d (by omega) h2' (fun e => h1 (.inr (.inr e)))
        split at h
        · rename_i h3
          cases h
          refine ⟨⟨by omega, by omega⟩, ?_⟩
          rw [hl]
          show _ = 45 :: decDigits 9223372036854775808
          rw [← h3, b2]
        · split at h
          · cases h
          · rename_i h3 h4
            cases h
            refine ⟨⟨by omega, by omega⟩, ?_⟩
            unfold itoa
            rw [if_pos (by omega), hl]
            have : (-(valN d : Int)).natAbs = valN d := by omega
            rw [this, b2]
  · rw [decide_eq_false hn] at h
    simp only [Bool.false_eq_true, if_false, or_false, false_and] at h
    split at h
    · cases h
    · rename_i h1
      split at h
      · cases h
      · rename_i h2
        have h2' : l.all digB = true := by simpa using h2
        split at h
        · cases h
        · rename_i h3
          cases h
          refine ⟨⟨by omega, by omega⟩, ?_⟩
          unfold itoa
          rw [if_neg (by omega)]
          have e : ((valN l : Int)).toNat = valN l := by omega
          rw [e]
          have hd0 : l ≠ [] := fun e => h1 (.inl e)
          have hdl : 0 < l.length := List.length_pos_iff.2 hd0
          by_cases h48 : l.headD 0 = 48
          · have hl1 : l.length = 1 := by
              have : ¬ 1 < l.length := fun e => h1 (.inr (.inr ⟨h48, e⟩))
              omega
            match l, hl1 with
            | [c], _ =>
              rw [show c = 48 from h48]
              show [48] = decDigits 0
              rw [dec_one (by omega)]; rfl
          · exact ((dec_back (l.length - 1) l (by omega) h2' h48).2.1).symm
/-- The library's. -/
theorem parse_snoc (M : Nat) : ∀ (a : List UInt8) (acc : Nat) (c : UInt8), parseUintM M acc (a ++ [c]) = match parseUintM M acc a with | .ok v => parseUintM M v [c] | e => e
  | [], acc, c => by simp [parseUintM]
  | x :: a, acc, c => by
    rw [List.cons_append, parseUintM, parseUintM]
    split
    · split
      · rfl
      · split
        · rfl
        · exact parse_snoc M a _ c
    · rfl
theorem parse_dec {u : Nat} (h : u ≤ 18446744073709551615) : parseUintM 18446744073709551615 0 (decDigits u) = .ok u := by
  induction u using Nat.strongRecOn with
  | _ u ih =>
    by_cases h1 : u < 10
    · rw [dec_one h1]
      have e := dig_toNat h1
      simp only [parseUintM, e]
      rw [if_pos (by omega), if_neg (by omega), if_neg (by omega)]
      congr 1; omega
    · rw [dec_more h1, parse_snoc, ih (u / 10) (by omega) (by omega)]
      have e := dig_toNat (n := u % 10) (by omega)
      simp only [parseUintM, e]
      rw [if_pos (by omega), if_neg (by omega), if_neg (by omega)]
      congr 1; omega
theorem parse_itoa {v : Int} (h : in64 v) : parseIntB 64 (itoa v) = .ok v := by
  obtain ⟨h1, h2⟩ := h
  have hM : 2 ^ 64 - 1 = 18446744073709551615 := by decide
  unfold itoa
  by_cases hv : v < 0
  · rw [if_pos hv]
    obtain ⟨a1, a2, a3, a4⟩ := dec_all v.natAbs
    have hp := parse_dec (u := v.natAbs) (by omega)
    unfold parseIntB
    have h45 : (45 : UInt8).toNat = 45 := rfl
    simp only [h45, parseUintB, or_true, if_true, if_neg a3, hM, hp, not_true, false_and, if_false, true_and]
    rw [if_neg (by omega)]
    congr 1; omega
  · rw [if_neg hv]
    obtain ⟨a1, a2, a3, a4⟩ := dec_all v.toNat
    have hp := parse_dec (u := v.toNat) (by omega)
    cases hd : decDigits v.toNat with
    | nil => exact absurd hd a3
    | cons c r =>
      rw [hd] at a1 hp
      rw [List.all_cons, Bool.and_eq_true, digB_iff] at a1
      have e1 : ¬ c.toNat = 45 := by omega
      have e2 : ¬ (c.toNat = 43 ∨ c.toNat = 45) := by omega
      unfold parseIntB
      simp only [if_neg e2, parseUintB, hM]
      rw [if_neg (by simp), hp]
      simp only [e1, not_false_eq_true, true_and, false_and, if_false]
      rw [if_neg (by omega)]
      congr 1; omega
theorem parse_in64 {l : List UInt8} {v : Int} (h : parseIntB 64 l = .ok v) : in64 v := by
  unfold parseIntB at h
  split at h
  · cases h
  · simp only at h
    split at h
    · cases h
    · cases h
    · rename_i u hu
      split at h
      · cases h
      · rename_i h1
        split at h
        · cases h
        · rename_i h2
          injection h with h
          subst h
          unfold in64
          split
          · rename_i hn
            have : ¬ 9223372036854775808 < u := fun e => h2 ⟨hn, e⟩
            omega
          · rename_i hn
            have : ¬ 9223372036854775808 ≤ u := fun e => h1 ⟨hn, e⟩
            omega
def numP (l : List UInt8) : Option Int := match parseIntB 64 l with
  | .ok v => if itoa v = l then some v else none
  | _ => none
theorem numP_eq (l : List UInt8) : numP l = numR l := by
  have hs : ∀ v, numP l = some v → numR l = some v := fun v h => by
    unfold numP at h
    split at h
    · rename_i x hx
      split at h
      · rename_i he
        cases h
        rw [← he]; exact numR_itoa (parse_in64 hx)
      · cases h
    · cases h
  cases hp : numP l with
  | some v => rw [hs v hp]
  | none =>
    cases hr : numR l with
    | none => rfl
    | some v =>
      obtain ⟨h1, h2⟩ := numR_some hr
      unfold numP at hp
      rw [h2, parse_itoa h1] at hp
      simp at hp
end Go.Cn
end

section
/- Texts cut at blanks, and joined by them; values: their order, their check, their words, and back. No program in sight. -/
set_option linter.unusedVariables false
set_option linter.unusedSimpArgs false
namespace Go.Cn
open Go.Lib
/-- A text cut at every stroke. -/
def splitS : List UInt8 → List (List UInt8)
  | [] => [[]]
  | c :: l => if c = 32 then [] :: splitS l else (c :: (splitS l).headD []) :: (splitS l).tail
theorem splitS_pos (l : List UInt8) : 0 < (splitS l).length := by
  cases l with
  | nil => simp [splitS]
  | cons c l => rw [splitS]; split <;> simp
theorem splitS_ne (l : List UInt8) : splitS l ≠ [] := fun h => by have := splitS_pos l; rw [h] at this; simp at this
theorem splitS_none : ∀ (l : List UInt8), (32 : UInt8) ∉ l → splitS l = [l]
  | [], _ => rfl
  | c :: l, h => by
    have hc : c ≠ 32 := fun e => h (by simp [e])
    rw [splitS, if_neg hc, splitS_none l (fun h2 => h (by simp [h2]))]; rfl
theorem splitS_hit : ∀ (a b : List UInt8), (32 : UInt8) ∉ a → splitS (a ++ 32 :: b) = a :: splitS b
  | [], b, _ => by rw [List.nil_append, splitS, if_pos rfl]
  | c :: a, b, h => by
    have hc : c ≠ 32 := fun e => h (by simp [e])
    rw [List.cons_append, splitS, if_neg hc, splitS_hit a b (fun h2 => h (by simp [h2]))]; rfl
theorem index32S : ∀ (l : List UInt8), (Go.Lib.index l [32] = -1 ∧ (32 : UInt8) ∉ l) ∨ ∃ a b, l = a ++ 32 :: b ∧ (32 : UInt8) ∉ a ∧ Go.Lib.index l [32] = a.length
  | [] => .inl ⟨rfl, by simp⟩
  | c :: l => by
    by_cases hc : c = 32
    · subst hc
      right
      refine ⟨[], l, rfl, by simp, ?_⟩
      rw [Go.Lib.index, if_pos (by simp [List.isPrefixOf])]; rfl
    · have hp : ¬ ([32] : List UInt8).isPrefixOf (c :: l) = true := by
        simp [List.isPrefixOf]; exact fun h => hc h.symm
      rw [Go.Lib.index, if_neg hp]
      rcases index32S l with ⟨h1, h2⟩ | ⟨a, b, h1, h2, h3⟩
      · left
        rw [if_pos (by rw [h1]; rfl)]
        exact ⟨rfl, by simp [h2]; intro h; exact hc h.symm⟩
      · right
        refine ⟨c :: a, b, by rw [h1]; rfl, by simp [h2]; exact fun h => hc h.symm, ?_⟩
        have hn : ¬ (Go.Lib.index l [32] == -1) = true := by rw [h3]; simp
        rw [if_neg hn, h3]; simp
theorem splitK_eqS : ∀ (n : Nat) (l : List UInt8), l.length ≤ n → Go.Lib.splitK [32] 0 (Go.Lib.count l [32]) l = splitS l
  | n, l, hn => by
    rcases index32S l with ⟨h1, h2⟩ | ⟨a, b, h1, h2, h3⟩
    · rw [Go.Lib.count_miss h1, Go.Lib.splitK, splitS_none l h2]
    · have hd : l.drop (a.length + 1) = b := by rw [h1]; simp
      have hl : b.length < l.length := by rw [h1]; simp; omega
      rw [Go.Lib.count_hit (by simp) h3, Nat.add_comm, Go.Lib.splitK, if_neg (by rw [h3]; simp), h3]
      simp only [Int.toNat_natCast, List.length_cons, List.length_nil, Nat.add_zero, Nat.zero_add]
      cases n with
      | zero => omega
      | succ n =>
        rw [hd, splitK_eqS n b (by omega), h1, splitS_hit a b h2]
        simp
theorem split_txtS (l : List UInt8) : Go.Lib.splitB (txt [32]) 0 (Go.Lib.countB (txt l) (txt [32])) (txt l) = (splitS l).map txt := by
  have h := Go.Lib.splitB_data (txt [32]) 0 (Go.Lib.countB (txt l) (txt [32])) (txt l)
  rw [txt_data, txt_data] at h
  have e : Go.Lib.splitK [32] 0 (Go.Lib.countB (txt l) (txt [32])) l = splitS l := splitK_eqS l.length l (Nat.le_refl _)
  rw [e] at h
  rw [← h, List.map_map]
  have : (txt ∘ fun x : ByteArray => x.data.toList) = id := by funext x; exact txt_list x
  rw [this, List.map_id]
theorem split_countS (l : List UInt8) : Go.Lib.countB (txt l) (txt [32]) + 1 = (splitS l).length := by
  have h := Go.Lib.splitB_all (txt [32]) (by rw [txt_size]; simp) 0 _ (txt l) rfl
  rw [← h, split_txtS, List.length_map]
theorem splitS_len : ∀ l : List UInt8, (splitS l).length ≤ l.length + 1
  | [] => by simp [splitS]
  | c :: l => by
    have ih := splitS_len l
    have hp := splitS_pos l
    rw [splitS]
    split
    · simp; omega
    · rw [List.length_cons, List.length_tail, List.length_cons]; omega
def joinS : List (List UInt8) → List UInt8
  | [] => []
  | p :: r => p ++ r.flatMap (fun q => 32 :: q)
theorem join_split : ∀ l : List UInt8, joinS (splitS l) = l
  | [] => rfl
  | c :: l => by
    have ih := join_split l
    rw [splitS]
    cases hs : splitS l with
    | nil => exact absurd hs (splitS_ne l)
    | cons p r =>
      rw [hs] at ih
      by_cases hc : c = 32
      · rw [if_pos hc]
        show [] ++ (p :: r).flatMap _ = _
        rw [List.nil_append, List.flatMap_cons, hc]
        show 32 :: (p ++ r.flatMap _) = 32 :: l
        congr 1
      · rw [if_neg hc]
        show (c :: p) ++ r.flatMap _ = c :: l
        rw [List.cons_append]
        congr 1
theorem splitS_join : ∀ (p : List UInt8) (r : List (List UInt8)), (32 : UInt8) ∉ p → (∀ q ∈ r, (32 : UInt8) ∉ q) → splitS (joinS (p :: r)) = p :: r
  | p, [], hp, _ => by
    show splitS (p ++ []) = _
    rw [List.append_nil]; exact splitS_none p hp
  | p, q :: r, hp, hr => by
    have e : joinS (p :: q :: r) = p ++ 32 :: joinS (q :: r) := by
      show p ++ (q :: r).flatMap _ = _
      rw [List.flatMap_cons]; rfl
    rw [e, splitS_hit p _ hp, splitS_join q r (hr q (by simp)) (fun x hx => hr x (by simp [hx]))]
/- The order. -/
def cmpL : List Int → List Int → Int
  | [], [] => 0
  | [], _ :: _ => -1
  | _ :: _, [] => 1
  | a :: r, b :: s => if a < b then -1 else if b < a then 1 else cmpL r s
theorem cmpL_self : ∀ a : List Int, cmpL a a = 0
  | [] => rfl
  | a :: r => by rw [cmpL, if_neg (by omega), if_neg (by omega)]; exact cmpL_self r
theorem cmpL_anti : ∀ a b : List Int, cmpL b a = -(cmpL a b)
  | [], [] => rfl
  | [], _ :: _ => rfl
  | _ :: _, [] => rfl
  | a :: r, b :: s => by
    rw [cmpL, cmpL]
    by_cases h1 : a < b
    · rw [if_neg (by omega), if_pos h1, if_pos h1]; rfl
    · by_cases h2 : b < a
      · rw [if_pos h2, if_neg h1, if_pos h2]
      · rw [if_neg h2, if_neg h1, if_neg h1, if_neg h2]; exact cmpL_anti r s
theorem cmpL_three : ∀ a b : List Int, cmpL a b = -1 ∨ cmpL a b = 0 ∨ cmpL a b = 1
  | [], [] => by simp [cmpL]
  | [], _ :: _ => by simp [cmpL]
  | _ :: _, [] => by simp [cmpL]
  | a :: r, b :: s => by
    rw [cmpL]
    split
    · simp
    · split
      · simp
      · exact cmpL_three r s
theorem cmpL_zero : ∀ a b : List Int, cmpL a b = 0 → a = b
  | [], [], _ => rfl
  | [], _ :: _, h => by simp [cmpL] at h
  | _ :: _, [], h => by simp [cmpL] at h
  | a :: r, b :: s, h => by
    rw [cmpL] at h
    split at h
    · cases h
    · split at h
      · cases h
      · rw [cmpL_zero r s h]; congr 1; omega
theorem cmpL_trans : ∀ a b c : List Int, cmpL a b ≤ 0 → cmpL b c ≤ 0 → cmpL a c ≤ 0 ∧ (cmpL a c < 0 ↔ cmpL a b < 0 ∨ cmpL b c < 0)
  | [], [], c, _, h => by
    rw [cmpL_self]
    exact ⟨h, by simp⟩
  | [], b :: s, [], _, h => by simp [cmpL] at h
  | [], b :: s, c :: t, _, _ => by simp [cmpL]
  | a :: r, [], c, h, _ => by simp [cmpL] at h
  | a :: r, b :: s, [], _, h => by simp [cmpL] at h
  | a :: r, b :: s, c :: t, h1, h2 => by
    rw [cmpL] at h1 h2
    rw [cmpL, cmpL, cmpL]
    by_cases x1 : a < b
    · by_cases y1 : b < c
      · rw [if_pos x1, if_pos y1, if_pos (by omega)]; simp
      · by_cases y2 : c < b
        · rw [if_neg y1, if_pos y2] at h2; omega
        · rw [if_pos x1, if_pos (by omega : a < c)]; simp
    · by_cases x2 : b < a
      · rw [if_neg x1, if_pos x2] at h1; omega
      · rw [if_neg x1, if_neg x2] at h1
        rw [if_neg x1, if_neg x2]
        have : a = b := by omega
        subst this
        by_cases y1 : a < c
        · simp [y1]
        · by_cases y2 : c < a
          · rw [if_neg y1, if_pos y2] at h2; omega
          · simp only [if_neg y1, if_neg y2] at h2 ⊢
            exact cmpL_trans r s t h1 h2
def bts (l : List UInt8) : List Int := l.map fun c => (c.toNat : Int)
theorem less_cmp : ∀ a b : List UInt8, (Op.bytesLess a b = true ↔ cmpL (bts a) (bts b) = -1)
  | [], [] => by simp [Op.bytesLess, cmpL, bts]
  | [], b :: s => by simp [Op.bytesLess, cmpL, bts]
  | a :: r, [] => by simp [Op.bytesLess, cmpL, bts]
  | a :: r, b :: s => by
    have ih := less_cmp r s
    show (decide (a < b) || (a == b && Op.bytesLess r s)) = true ↔ (if (a.toNat : Int) < b.toNat then (-1 : Int) else if (b.toNat : Int) < a.toNat then 1 else cmpL (bts r) (bts s)) = -1
    have e1 : a < b ↔ (a.toNat : Int) < b.toNat := by rw [UInt8.lt_iff_toNat_lt]; omega
    by_cases h1 : a < b
    · rw [if_pos (e1.1 h1), decide_eq_true h1]; simp
    · rw [if_neg (fun h => h1 (e1.2 h)), decide_eq_false h1, Bool.false_or]
      by_cases h2 : (b.toNat : Int) < a.toNat
      · rw [if_pos h2]
        have hne : a ≠ b := fun e => by rw [e] at h2; omega
        simp [hne]
      · rw [if_neg h2]
        have : a = b := by
          have h3 : ¬ (a.toNat : Int) < b.toNat := fun h => h1 (e1.2 h)
          exact UInt8.toNat_inj.1 (by omega)
        rw [this]
        simp [ih]
theorem bts_inj {a b : List UInt8} (h : bts a = bts b) : a = b := by
  unfold bts at h
  exact (List.map_inj_right (fun x y h => UInt8.toNat_inj.1 (by omega))).1 h
def cmpI (a b : Int) : Int := if a < b then -1 else if b < a then 1 else 0
def cmpS (a b : ByteArray) : Int := cmpL (bts a.data.toList) (bts b.data.toList)
/-- A value: its kind, its number, its text, its numbers. -/
abbrev Val := Int × Int × ByteArray × List Int
def keyV (v : Val) : List Int := v.1 :: (if v.1 = 1 then [v.2.1] else if v.1 = 2 then bts v.2.2.1.data.toList else if v.1 = 3 then v.2.2.2 else [])
def cmpV (a b : Val) : Int := cmpL (keyV a) (keyV b)
theorem cmpL_one (a b : Int) : cmpL [a] [b] = cmpI a b := by
  unfold cmpI
  rw [cmpL]
  rfl
theorem cmpV_eq (a b : Val) : cmpV a b = if a.1 ≠ b.1 then cmpI a.1 b.1 else if a.1 = 1 then cmpI a.2.1 b.2.1 else if a.1 = 2 then cmpS a.2.2.1 b.2.2.1 else if a.1 = 3 then cmpL a.2.2.2 b.2.2.2 else 0 := by
  unfold cmpV keyV
  rw [cmpL]
  by_cases h : a.1 = b.1
  · rw [if_neg (by omega), if_neg (by omega), if_neg (show ¬ (a.1 ≠ b.1) from fun e => e h), ← h]
    by_cases h1 : a.1 = 1
    · simp only [if_pos h1]; exact cmpL_one _ _
    · by_cases h2 : a.1 = 2
      · simp only [if_neg h1, if_pos h2]; rfl
      · by_cases h3 : a.1 = 3
        · simp only [if_neg h1, if_neg h2, if_pos h3]
        · simp only [if_neg h1, if_neg h2, if_neg h3]; rfl
  · rw [if_pos h]
    unfold cmpI
    by_cases h1 : a.1 < b.1
    · rw [if_pos h1, if_pos h1]
    · rw [if_neg h1, if_neg h1, if_pos (by omega), if_pos (by omega)]
/- What may be. -/
def prB (c : UInt8) : Bool := decide (32 ≤ c.toNat) && decide (c.toNat ≤ 126) && decide (c.toNat ≠ 34)
def upL (l : List Int) : Bool := (List.range (l.length - 1)).all fun i => decide (l.getD i 0 < l.getD (i + 1) 0)
def textE (s : List UInt8) : Int := if 64 < s.length then 4 else if s.all prB = true then 0 else 2
def listE (l : List Int) : Int := if 16 < l.length then 4 else if upL l = true then 0 else 2
def checkV (v : Val) : Int := if v.1 = 1 then 0 else if v.1 = 2 then textE v.2.2.1.data.toList else if v.1 = 3 then listE v.2.2.2 else 7
/- In words. -/
def textV (v : Val) : List UInt8 := if v.1 = 1 then itoa v.2.1 else if v.1 = 2 then 34 :: v.2.2.1.data.toList ++ [34] else if v.1 = 3 then 91 :: joinS (v.2.2.2.map itoa) ++ [93] else []
def v0 : Val := (0, 0, ByteArray.empty, [])
def insideL (a b : UInt8) (s : List UInt8) : Option (List UInt8) := if 2 ≤ s.length ∧ s.headD 0 = a ∧ s.getLastD 0 = b then some (s.tail.dropLast) else none
/-- The numbers of words; none: one is no number. -/
def numsL : List (List UInt8) → Option (List Int)
  | [] => some []
  | w :: r => match numR w, numsL r with
    | some v, some l => some (v :: l)
    | _, _ => none
def readV (s : List UInt8) : Option Val := match insideL 34 34 s with
  | some t => some (2, 0, txt t, [])
  | none => match insideL 91 93 s with
    | some t => if t = [] then some (3, 0, ByteArray.empty, []) else match numsL (splitS t) with
      | some l => some (3, 0, ByteArray.empty, l)
      | none => none
    | none => match numR s with
      | some n => some (1, n, ByteArray.empty, [])
      | none => none
def parseV (s : List UInt8) : Val × Int := match readV s with
  | none => (v0, 2)
  | some v => if checkV v ≠ 0 then (v0, checkV v) else (v, 0)
end Go.Cn
end
