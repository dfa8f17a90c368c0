/- The decoder (codec.Dec): what its methods answer and leave. Conditions: at most 100000 bytes. -/
import Derived.Test.YtpdhmbbmhomlnaaDoorV4
import Derived.Test.YtpdhmbbmhomlnaaDoorEnc2
set_option maxRecDepth 100000
set_option linter.unusedVariables false
set_option linter.unusedSimpArgs false
namespace Go.Proofs.YtpdhmbbmhomlnaaDoor
open Go.RowKit Go.Cn Go.Cn.Num
/-- The decoder at g: why it stands (0: it does not), what is left; D: the block of its bytes. -/
def DecAt (w : World) (g : Nat) (e : Int) (r : List UInt8) (D : Option Nat) : Prop :=
  ∃ A c, w.heap[g]? = some (.cells #[.slice A r.length c, .int .i64 e] 99 (0, 0)) ∧ Reads w A (r.map vb) ∧ r.length ≤ c ∧ c ≤ 9223372036854775807 ∧ (∀ ad, A = some ad → D = some ad.block ∧ ad.spot = none) ∧ (A = none → r = [] ∧ c = 0) ∧ D ≠ some g
theorem DecAt.chg {w w' : World} {g : Nat} {e : Int} {r : List UInt8} {D : Option Nat} {S : Nat → Prop} (h : DecAt w g e r D) (c : Chg S w w') (hg : ¬ S g) (hD : ∀ k, D = some k → ¬ S k) : DecAt w' g e r D := by
  obtain ⟨A, cp, h1, h2, h3, h4, h5, h7, h6⟩ := h
  exact ⟨A, cp, c.heap h1 hg, h2.chg c (fun ad e => hD _ (h5 ad e).1), h3, h4, h5, h7, h6⟩
theorem reads_drop {w : World} {g o c n : Nat} {l : List UInt8} (hr : Reads w (some ⟨g, o, none⟩) (l.map vb)) (hc : l.length ≤ c) (k : Nat) (hk : k ≤ l.length) : Reads w (if c = k then some ⟨g, o, none⟩ else some ⟨g, o + k, none⟩) ((l.drop k).map vb) := by
  by_cases hkl : k = l.length
  · rw [List.drop_eq_nil_of_le (by omega)]; exact .inl rfl
  · rw [if_neg (by omega)]
    rcases hr with h | ⟨g', o', e, h⟩
    · rw [List.map_eq_nil_iff] at h; subst h; simp at hkl hk; omega
    · cases e
      refine .inr ⟨g, o + k, rfl, fun j hj => ?_⟩
      simp at hj
      rw [Nat.add_assoc, h (k + j) (by simp; omega), List.getElem?_map, List.getElem?_map, List.getElem?_drop]
theorem numD_lt : ∀ (l : List UInt8) (i v : Nat), i ≤ 9 → v < 2 ^ (7 * i) → (numD i v l).2.1 < 2 ^ 64
  | [], i, v, _, _ => by simp [numD]
  | c :: r, i, v, hi, hv => by
    rw [numD]
    split
    · simp
    · rename_i hn
      have hc := Nat.mod_lt c.toNat (show 0 < 128 by omega)
      by_cases h9 : i = 9
      · subst h9
        have hc1 : c.toNat ≤ 1 := by omega
        rw [if_pos (by omega)]
        have : c.toNat % 128 ≤ 1 := by omega
        have h2 : c.toNat % 128 * 2 ^ (7 * 9) ≤ 1 * 2 ^ (7 * 9) := Nat.mul_le_mul_right _ this
        simp at hv h2 ⊢
        omega
      · have h2 : c.toNat % 128 * 2 ^ (7 * i) ≤ 127 * 2 ^ (7 * i) := Nat.mul_le_mul_right _ (by omega)
        have h3 : 2 ^ (7 * (i + 1)) = 128 * 2 ^ (7 * i) := by rw [show 7 * (i + 1) = 7 + 7 * i by omega, Nat.pow_add]
        have h4 : v + c.toNat % 128 * 2 ^ (7 * i) < 2 ^ (7 * (i + 1)) := by rw [h3]; omega
        have h5 : 2 ^ (7 * (i + 1)) ≤ 2 ^ 64 := Nat.pow_le_pow_right (by omega) (by omega)
        split
        · simp only; omega
        · exact numD_lt r (i + 1) _ (by omega) h4
set_option maxRecDepth 100000 in
theorem andNot_more (c : UInt8) : bits .andNot .u8 (c.toNat : Int) 128 = ((c.toNat % 128 : Nat) : Int) := by
  have h := andNot_u8 c.toBitVec 128#8
  rw [show (((128#8).toNat : Nat) : Int) = 128 from rfl] at h
  have e0 : c.toBitVec.toNat = c.toNat := rfl
  rw [e0] at h
  rw [h]
  have key : ∀ x : Fin 256, ((BitVec.ofNat 8 x.val) &&& ~~~ 128#8).toNat = x.val % 128 := by decide
  have k2 := key ⟨c.toNat, UInt8.toNat_lt c⟩
  have e2 : BitVec.ofNat 8 c.toNat = c.toBitVec := by apply BitVec.eq_of_toNat_eq; simp
  simp only [e2] at k2
  rw [k2]
theorem u64_nat (x : Nat) (h : x < 2 ^ 64) : IntKind.u64.wrap (x : Int) = (x : Int) := by
  simp [IntKind.wrap, IntKind.bits, IntKind.signed]; omega
theorem shl_or (v c i : Nat) (hi : i ≤ 9) (hv : v < 2 ^ (7 * i)) (hc : c < 128) (h9 : i = 9 → c ≤ 1) :
    bits .or .u64 (v : Int) (IntKind.u64.wrap ((c : Int) * (2 : Int) ^ min (7 * (i : Int)).toNat 64)) = ((v + c * 2 ^ (7 * i) : Nat) : Int) := by
  have e : min (7 * (i : Int)).toNat 64 = 7 * i := by omega
  rw [e]
  have hlt : c * 2 ^ (7 * i) < 2 ^ 64 := by
    by_cases h : i = 9
    · subst h
      have := Nat.mul_le_mul_right (2 ^ (7 * 9)) (h9 rfl)
      simp at this ⊢
      omega
    · have h2 : c * 2 ^ (7 * i) ≤ 127 * 2 ^ (7 * i) := Nat.mul_le_mul_right _ (by omega)
      have h3 : 2 ^ (7 * (i + 1)) = 128 * 2 ^ (7 * i) := by rw [show 7 * (i + 1) = 7 + 7 * i by omega, Nat.pow_add]
      have h5 : 2 ^ (7 * (i + 1)) ≤ 2 ^ 64 := Nat.pow_le_pow_right (by omega) (by omega)
      have : 0 < 2 ^ (7 * i) := Nat.pow_pos (by omega)
      omega
  have hv64 : v < 2 ^ 64 := Nat.lt_of_lt_of_le hv (Nat.pow_le_pow_right (by omega) (by omega))
  have e2 : (c : Int) * (2 : Int) ^ (7 * i) = ((c * 2 ^ (7 * i) : Nat) : Int) := by simp
  rw [e2, u64_nat _ hlt, bits_or_u64_nat v _ (by omega) (by omega)]
  have := Nat.two_pow_add_eq_or_of_lt hv c
  rw [Nat.or_comm, Nat.mul_comm c, ← this, Nat.add_comm]
theorem uz_code (v : Nat) (h : v < 2 ^ 64) : bits .xor .i64 (IntKind.i64.wrap ((v : Int) / (2 : Int) ^ min (Int.toNat 1) 64)) (IntKind.i64.wrap (-(IntKind.i64.wrap (bits .and .u64 (v : Int) 1)))) = uz v := by
  rw [show min (Int.toNat 1) 64 = 1 from rfl]
  have ha := bits_and_u64_nat v 1 (by omega) (by omega)
  rw [show ((1 : Nat) : Int) = 1 from rfl, Nat.and_one_is_mod] at ha
  rw [ha]
  have e1 : IntKind.i64.wrap ((v : Int) / (2 : Int) ^ 1) = ((v / 2 : Nat) : Int) := by
    rw [IntKind.wrap_i64]; omega
  rw [e1]
  have hx : v / 2 < 2 ^ 63 := by omega
  unfold uz
  generalize v / 2 = x at *
  have hbx : (BitVec.ofInt 64 (x : Int)).toNat = x := by simp [BitVec.toNat_ofInt]; omega
  by_cases h0 : v % 2 = 0
  · rw [if_pos h0, h0]
    show IntKind.i64.wrap (((BitVec.ofInt 64 (x : Int)) ^^^ (BitVec.ofInt 64 (IntKind.i64.wrap (-(IntKind.i64.wrap ((0 : Nat) : Int)))))).toNat : Int) = _
    have e2 : BitVec.ofInt 64 (IntKind.i64.wrap (-(IntKind.i64.wrap ((0 : Nat) : Int)))) = 0#64 := by decide
    rw [e2]
    have e5 : ((BitVec.ofInt 64 (x : Int)) ^^^ (0#64)).toNat = x := by rw [BitVec.xor_zero]; exact hbx
    have e6 : IntKind.i64.wrap (x : Int) = x := by rw [IntKind.wrap_i64]; omega
    exact (congrArg (fun t : Nat => IntKind.i64.wrap (t : Int)) e5).trans e6
  · have h1 : v % 2 = 1 := by omega
    rw [if_neg h0, h1]
    show IntKind.i64.wrap (((BitVec.ofInt 64 (x : Int)) ^^^ (BitVec.ofInt 64 (IntKind.i64.wrap (-(IntKind.i64.wrap ((1 : Nat) : Int)))))).toNat : Int) = _
    have e2 : BitVec.ofInt 64 (IntKind.i64.wrap (-(IntKind.i64.wrap ((1 : Nat) : Int)))) = BitVec.allOnes 64 := by decide
    have e3 : (BitVec.ofInt 64 (x : Int)) ^^^ BitVec.allOnes 64 = ~~~ (BitVec.ofInt 64 (x : Int)) := by
      apply BitVec.eq_of_getLsbD_eq; intro i hi
      rw [BitVec.getLsbD_xor, BitVec.getLsbD_not, BitVec.getLsbD_allOnes]
      cases (BitVec.ofInt 64 (x : Int)).getLsbD i <;> simp [hi]
    rw [e2]
    have e5 : ((BitVec.ofInt 64 (x : Int)) ^^^ BitVec.allOnes 64).toNat = 2 ^ 64 - 1 - x := by rw [e3, BitVec.toNat_not, hbx]
    have e6 : IntKind.i64.wrap ((2 ^ 64 - 1 - x : Nat) : Int) = -(x : Int) - 1 := by rw [IntKind.wrap_i64]; omega
    exact (congrArg (fun t : Nat => IntKind.i64.wrap (t : Int)) e5).trans e6
theorem dec_set0 {w : World} {g : Nat} {a b x : Value} {t : TypeId} (h : w.heap[g]? = some (.cells #[a, b] t (0, 0))) : (w.setCell ⟨g, 0, none⟩ x).heap[g]? = some (.cells #[x, b] t (0, 0)) := by
  rw [blk_set h]; rfl
theorem dec_set1 {w : World} {g : Nat} {a b x : Value} {t : TypeId} (h : w.heap[g]? = some (.cells #[a, b] t (0, 0))) : (w.setCell ⟨g, 1, none⟩ x).heap[g]? = some (.cells #[a, x] t (0, 0)) := by
  rw [blk_set h]; rfl
theorem num_any {g : Nat} {e : Int} {r : List UInt8} {D : Option Nat} {w : World} {K : Value → World → Prop} (h : DecAt w g e r D) (hr : r.length ≤ 100000)
    (hK : ∀ w', DecAt w' g e (if (numD 0 0 r).1 = 0 then (numD 0 0 r).2.2 else r) D → Chg (fun k => k = g) w w' → K (.tuple #[.int .u64 (numD 0 0 r).2.1, .int .i64 (numD 0 0 r).1]) w') : CallK Tryd.prog 60 #[.pointer (some ⟨g, 0, none⟩)] K w := by
  refine F60_calls _ _ _ ?_; unfold F60
  obtain ⟨A, c, h1, h2, h3, h4, h5, h7, h6⟩ := id h
  have c0 : w.cell? ⟨g, 0, none⟩ = some (.slice A r.length c) := by rw [blk_cell h1]; rfl
  simp (maxSteps := 1000000) (disch := omega) only [hid1', hid2', guardK_u, takeG_u, wrap_in64, optK_some', fzK_false', nilK_ptr, brK_true', brK_false', guardK_tt', guardK_ff', guardK_tf', guardK_ft', takeG_tt', takeG_ff', takeG_tf', takeG_ft', pickK_t', pickK_f', pickT_t', pickT_f', notK, extract2_0', extract2_1', extract3_0', extract3_1', extract3_2', here_load, here_fieldAt, here_indexAt, here_extract, here_un, here_conv, here_slice, here_bin, here_nil, and_here, true_and, Nat.zero_add, Nat.add_assoc, Nat.add_zero, Int.toNat_natCast, size_alloc, World.cell?_drew, World.frozen?_drew, Bool.not_true, Bool.not_false, Int.toNat_zero, dec_t, dec_f, int_eq_t, int_eq_f, int_ne_t, int_ne_f, wrap_in, kfa99_0, kld32, klen32, hlen32, kblss3, kia32, kld5, kbeql3, kbgtr5, kbgtr3, kbeql5, kbandNot5, kcv5_93, kbmul3, kbshl93_i32, kbshl93_i64, kbshl93_u32, kbshl93_u64, kbshl93_u8, kbor93, kblss5, kbadd3, ksl32_100z, ksl32_100, kst32, c0]
  refine loopK2 (fun v i w' => w' = w ∧ ∃ (j u : Nat), i = .int .i64 j ∧ v = .int .u64 u ∧ j ≤ r.length ∧ (j < r.length → j ≤ 9) ∧ u < 2 ^ (7 * j) ∧ numD j u (r.drop j) = numD 0 0 r) (fun _ i _ => r.length - (intOf i).toNat) ⟨rfl, 0, 0, rfl, rfl, by omega, by omega, by simp, rfl⟩ ?_
  rintro _ _ _ w' ⟨hw, j, u, rfl, rfl, hj, hj9, hu, hnum⟩
  obtain rfl : w' = w := hw
  by_cases hlt : j < r.length
  · obtain ⟨b, o, rfl, hcell⟩ := h2.get hlt
    have hdr : r.drop j = r.getD j default :: r.drop (j + 1) := by
      rw [List.drop_eq_getElem_cons hlt]; simp [hlt]
    rw [hdr] at hnum
    generalize r.getD j default = x at *
    have hx := UInt8.toNat_lt x
    simp only [vb] at hcell
    rw [numD] at hnum
    have hj9' := hj9 hlt
    have hm : x.toNat % 128 < 128 := Nat.mod_lt _ (by omega)
    by_cases hbad : (j = 9 ∧ 1 < x.toNat) ∨ (0 < j ∧ x.toNat = 0)
    · rw [if_pos hbad] at hnum
      rw [← hnum] at hK
      have hK' := hK w' h (Chg.refl _ _)
      rcases hbad with ⟨h9, hx1⟩ | ⟨hj0, hx0⟩
      · simp (maxSteps := 1000000) (disch := omega) only [hid1', hid2', guardK_u, takeG_u, wrap_in64, optK_some', fzK_false', nilK_ptr, brK_true', brK_false', guardK_tt', guardK_ff', guardK_tf', guardK_ft', takeG_tt', takeG_ff', takeG_tf', takeG_ft', pickK_t', pickK_f', pickT_t', pickT_f', notK, extract2_0', extract2_1', extract3_0', extract3_1', extract3_2', here_load, here_fieldAt, here_indexAt, here_extract, here_un, here_conv, here_slice, here_bin, here_nil, and_here, true_and, Nat.zero_add, Nat.add_assoc, Nat.add_zero, Int.toNat_natCast, size_alloc, World.cell?_drew, World.frozen?_drew, Bool.not_true, Bool.not_false, Int.toNat_zero, dec_t, dec_f, int_eq_t, int_eq_f, int_ne_t, int_ne_f, wrap_in, kfa99_0, kld32, klen32, hlen32, kblss3, kia32, kld5, kbeql3, kbgtr5, kbgtr3, kbeql5, kbandNot5, kcv5_93, kbmul3, kbshl93_i32, kbshl93_i64, kbshl93_u32, kbshl93_u64, kbshl93_u8, kbor93, kblss5, kbadd3, ksl32_100z, ksl32_100, kst32, hcell]
        exact hK'
      · by_cases h9 : j = 9
        · simp (maxSteps := 1000000) (disch := omega) only [hid1', hid2', guardK_u, takeG_u, wrap_in64, optK_some', fzK_false', nilK_ptr, brK_true', brK_false', guardK_tt', guardK_ff', guardK_tf', guardK_ft', takeG_tt', takeG_ff', takeG_tf', takeG_ft', pickK_t', pickK_f', pickT_t', pickT_f', notK, extract2_0', extract2_1', extract3_0', extract3_1', extract3_2', here_load, here_fieldAt, here_indexAt, here_extract, here_un, here_conv, here_slice, here_bin, here_nil, and_here, true_and, Nat.zero_add, Nat.add_assoc, Nat.add_zero, Int.toNat_natCast, size_alloc, World.cell?_drew, World.frozen?_drew, Bool.not_true, Bool.not_false, Int.toNat_zero, dec_t, dec_f, int_eq_t, int_eq_f, int_ne_t, int_ne_f, wrap_in, kfa99_0, kld32, klen32, hlen32, kblss3, kia32, kld5, kbeql3, kbgtr5, kbgtr3, kbeql5, kbandNot5, kcv5_93, kbmul3, kbshl93_i32, kbshl93_i64, kbshl93_u32, kbshl93_u64, kbshl93_u8, kbor93, kblss5, kbadd3, ksl32_100z, ksl32_100, kst32, hcell]
          exact hK'
        · simp (maxSteps := 1000000) (disch := omega) only [hid1', hid2', guardK_u, takeG_u, wrap_in64, optK_some', fzK_false', nilK_ptr, brK_true', brK_false', guardK_tt', guardK_ff', guardK_tf', guardK_ft', takeG_tt', takeG_ff', takeG_tf', takeG_ft', pickK_t', pickK_f', pickT_t', pickT_f', notK, extract2_0', extract2_1', extract3_0', extract3_1', extract3_2', here_load, here_fieldAt, here_indexAt, here_extract, here_un, here_conv, here_slice, here_bin, here_nil, and_here, true_and, Nat.zero_add, Nat.add_assoc, Nat.add_zero, Int.toNat_natCast, size_alloc, World.cell?_drew, World.frozen?_drew, Bool.not_true, Bool.not_false, Int.toNat_zero, dec_t, dec_f, int_eq_t, int_eq_f, int_ne_t, int_ne_f, wrap_in, kfa99_0, kld32, klen32, hlen32, kblss3, kia32, kld5, kbeql3, kbgtr5, kbgtr3, kbeql5, kbandNot5, kcv5_93, kbmul3, kbshl93_i32, kbshl93_i64, kbshl93_u32, kbshl93_u64, kbshl93_u8, kbor93, kblss5, kbadd3, ksl32_100z, ksl32_100, kst32, hcell]
          exact hK'
    · rw [if_neg hbad] at hnum
      have hso := shl_or u (x.toNat % 128) j hj9' hu hm (fun h => by omega)
      have h64 : IntKind.u64.wrap (((x.toNat % 128 : Nat) : Int)) = ((x.toNat % 128 : Nat) : Int) := u64_nat _ (by omega)
      generalize hu2 : u + x.toNat % 128 * 2 ^ (7 * j) = u2 at *
      by_cases hlast : x.toNat < 128
      · rw [if_pos hlast] at hnum
        rw [← hnum] at hK
        have hT : ((j : Int) + 1).toNat = j + 1 := by omega
        have hfz : w'.frozen? ⟨g, 0, none⟩ = false := blk_frozen h1 0
        have hch : Chg (fun k => k = g) w' (w'.setCell ⟨g, 0, none⟩ (.slice (if c = j + 1 then some ⟨b, o, none⟩ else some ⟨b, o + (j + 1), none⟩) (r.length - (j + 1)) (c - (j + 1)))) := (Chg.refl (fun k => k = g) w').setCell (p := ⟨g, 0, none⟩) (.inl rfl) _
        have hbg : b ≠ g := fun h => h6 (by rw [(h5 _ rfl).1, h])
        have hrd := reads_drop (n := 0) h2 h3 (j + 1) (by omega)
        have hfin := hK _ (by
          rw [if_pos rfl]
          refine ⟨_, c - (j + 1), by rw [List.length_drop]; exact dec_set0 h1, hrd.chg hch (fun ad e => ?_), by rw [List.length_drop]; omega, by omega, fun ad e => ?_, fun e => ?_, h6⟩
          · intro h; split at e <;> (cases e; exact hbg h)
          · have hD := h5 _ rfl
            split at e <;> (cases e; exact hD)
          · split at e <;> cases e) hch
        by_cases h9 : j = 9
        · simp (maxSteps := 1000000) (disch := omega) only [hid1', hid2', guardK_u, takeG_u, wrap_in64, optK_some', fzK_false', nilK_ptr, brK_true', brK_false', guardK_tt', guardK_ff', guardK_tf', guardK_ft', takeG_tt', takeG_ff', takeG_tf', takeG_ft', pickK_t', pickK_f', pickT_t', pickT_f', notK, extract2_0', extract2_1', extract3_0', extract3_1', extract3_2', here_load, here_fieldAt, here_indexAt, here_extract, here_un, here_conv, here_slice, here_bin, here_nil, and_here, true_and, Nat.zero_add, Nat.add_assoc, Nat.add_zero, Int.toNat_natCast, size_alloc, World.cell?_drew, World.frozen?_drew, Bool.not_true, Bool.not_false, Int.toNat_zero, dec_t, dec_f, int_eq_t, int_eq_f, int_ne_t, int_ne_f, wrap_in, kfa99_0, kld32, klen32, hlen32, kblss3, kia32, kld5, kbeql3, kbgtr5, kbgtr3, kbeql5, kbandNot5, kcv5_93, kbmul3, kbshl93_i32, kbshl93_i64, kbshl93_u32, kbshl93_u64, kbshl93_u8, kbor93, kblss5, kbadd3, ksl32_100z, ksl32_100, kst32, hcell, andNot_more, h64, hso, c0, hT, hfz]
          exact hfin
        · by_cases j0 : j = 0
          · simp (maxSteps := 1000000) (disch := omega) only [hid1', hid2', guardK_u, takeG_u, wrap_in64, optK_some', fzK_false', nilK_ptr, brK_true', brK_false', guardK_tt', guardK_ff', guardK_tf', guardK_ft', takeG_tt', takeG_ff', takeG_tf', takeG_ft', pickK_t', pickK_f', pickT_t', pickT_f', notK, extract2_0', extract2_1', extract3_0', extract3_1', extract3_2', here_load, here_fieldAt, here_indexAt, here_extract, here_un, here_conv, here_slice, here_bin, here_nil, and_here, true_and, Nat.zero_add, Nat.add_assoc, Nat.add_zero, Int.toNat_natCast, size_alloc, World.cell?_drew, World.frozen?_drew, Bool.not_true, Bool.not_false, Int.toNat_zero, dec_t, dec_f, int_eq_t, int_eq_f, int_ne_t, int_ne_f, wrap_in, kfa99_0, kld32, klen32, hlen32, kblss3, kia32, kld5, kbeql3, kbgtr5, kbgtr3, kbeql5, kbandNot5, kcv5_93, kbmul3, kbshl93_i32, kbshl93_i64, kbshl93_u32, kbshl93_u64, kbshl93_u8, kbor93, kblss5, kbadd3, ksl32_100z, ksl32_100, kst32, hcell, andNot_more, h64, hso, c0, hT, hfz]
            exact hfin
          · have hx0 : ¬ x.toNat = 0 := fun h => hbad (.inr ⟨by omega, h⟩)
            simp (maxSteps := 1000000) (disch := omega) only [hid1', hid2', guardK_u, takeG_u, wrap_in64, optK_some', fzK_false', nilK_ptr, brK_true', brK_false', guardK_tt', guardK_ff', guardK_tf', guardK_ft', takeG_tt', takeG_ff', takeG_tf', takeG_ft', pickK_t', pickK_f', pickT_t', pickT_f', notK, extract2_0', extract2_1', extract3_0', extract3_1', extract3_2', here_load, here_fieldAt, here_indexAt, here_extract, here_un, here_conv, here_slice, here_bin, here_nil, and_here, true_and, Nat.zero_add, Nat.add_assoc, Nat.add_zero, Int.toNat_natCast, size_alloc, World.cell?_drew, World.frozen?_drew, Bool.not_true, Bool.not_false, Int.toNat_zero, dec_t, dec_f, int_eq_t, int_eq_f, int_ne_t, int_ne_f, wrap_in, kfa99_0, kld32, klen32, hlen32, kblss3, kia32, kld5, kbeql3, kbgtr5, kbgtr3, kbeql5, kbandNot5, kcv5_93, kbmul3, kbshl93_i32, kbshl93_i64, kbshl93_u32, kbshl93_u64, kbshl93_u8, kbor93, kblss5, kbadd3, ksl32_100z, ksl32_100, kst32, hcell, andNot_more, h64, hso, c0, hT, hfz]
            exact hfin
      · rw [if_neg hlast] at hnum
        have hj8 : j ≤ 8 := by omega
        have hu2 : u2 < 2 ^ (7 * (j + 1)) := by
          have h2 : x.toNat % 128 * 2 ^ (7 * j) ≤ 127 * 2 ^ (7 * j) := Nat.mul_le_mul_right _ (by omega)
          have h3 : 2 ^ (7 * (j + 1)) = 128 * 2 ^ (7 * j) := by rw [show 7 * (j + 1) = 7 + 7 * j by omega, Nat.pow_add]
          rw [h3]; omega
        by_cases j0 : j = 0
        · simp (maxSteps := 1000000) (disch := omega) only [hid1', hid2', guardK_u, takeG_u, wrap_in64, optK_some', fzK_false', nilK_ptr, brK_true', brK_false', guardK_tt', guardK_ff', guardK_tf', guardK_ft', takeG_tt', takeG_ff', takeG_tf', takeG_ft', pickK_t', pickK_f', pickT_t', pickT_f', notK, extract2_0', extract2_1', extract3_0', extract3_1', extract3_2', here_load, here_fieldAt, here_indexAt, here_extract, here_un, here_conv, here_slice, here_bin, here_nil, and_here, true_and, Nat.zero_add, Nat.add_assoc, Nat.add_zero, Int.toNat_natCast, size_alloc, World.cell?_drew, World.frozen?_drew, Bool.not_true, Bool.not_false, Int.toNat_zero, dec_t, dec_f, int_eq_t, int_eq_f, int_ne_t, int_ne_f, wrap_in, kfa99_0, kld32, klen32, hlen32, kblss3, kia32, kld5, kbeql3, kbgtr5, kbgtr3, kbeql5, kbandNot5, kcv5_93, kbmul3, kbshl93_i32, kbshl93_i64, kbshl93_u32, kbshl93_u64, kbshl93_u8, kbor93, kblss5, kbadd3, ksl32_100z, ksl32_100, kst32, hcell, andNot_more, h64, hso]
          exact ⟨⟨rfl, j + 1, u2, by go_num, rfl, by omega, by omega, hu2, hnum⟩, by simp [rel, intOf]; omega⟩
        · have hx0 : ¬ x.toNat = 0 := fun h => hbad (.inr ⟨by omega, h⟩)
          simp (maxSteps := 1000000) (disch := omega) only [hid1', hid2', guardK_u, takeG_u, wrap_in64, optK_some', fzK_false', nilK_ptr, brK_true', brK_false', guardK_tt', guardK_ff', guardK_tf', guardK_ft', takeG_tt', takeG_ff', takeG_tf', takeG_ft', pickK_t', pickK_f', pickT_t', pickT_f', notK, extract2_0', extract2_1', extract3_0', extract3_1', extract3_2', here_load, here_fieldAt, here_indexAt, here_extract, here_un, here_conv, here_slice, here_bin, here_nil, and_here, true_and, Nat.zero_add, Nat.add_assoc, Nat.add_zero, Int.toNat_natCast, size_alloc, World.cell?_drew, World.frozen?_drew, Bool.not_true, Bool.not_false, Int.toNat_zero, dec_t, dec_f, int_eq_t, int_eq_f, int_ne_t, int_ne_f, wrap_in, kfa99_0, kld32, klen32, hlen32, kblss3, kia32, kld5, kbeql3, kbgtr5, kbgtr3, kbeql5, kbandNot5, kcv5_93, kbmul3, kbshl93_i32, kbshl93_i64, kbshl93_u32, kbshl93_u64, kbshl93_u8, kbor93, kblss5, kbadd3, ksl32_100z, ksl32_100, kst32, hcell, andNot_more, h64, hso]
          exact ⟨⟨rfl, j + 1, u2, by go_num, rfl, by omega, by omega, hu2, hnum⟩, by simp [rel, intOf]; omega⟩
  · rw [List.drop_eq_nil_of_le (by omega), numD] at hnum
    rw [← hnum] at hK
    simp (maxSteps := 1000000) (disch := omega) only [hid1', hid2', guardK_u, takeG_u, wrap_in64, optK_some', fzK_false', nilK_ptr, brK_true', brK_false', guardK_tt', guardK_ff', guardK_tf', guardK_ft', takeG_tt', takeG_ff', takeG_tf', takeG_ft', pickK_t', pickK_f', pickT_t', pickT_f', notK, extract2_0', extract2_1', extract3_0', extract3_1', extract3_2', here_load, here_fieldAt, here_indexAt, here_extract, here_un, here_conv, here_slice, here_bin, here_nil, and_here, true_and, Nat.zero_add, Nat.add_assoc, Nat.add_zero, Int.toNat_natCast, size_alloc, World.cell?_drew, World.frozen?_drew, Bool.not_true, Bool.not_false, Int.toNat_zero, dec_t, dec_f, int_eq_t, int_eq_f, int_ne_t, int_ne_f, wrap_in, kfa99_0, kld32, klen32, hlen32, kblss3, kia32, kld5, kbeql3, kbgtr5, kbgtr3, kbeql5, kbandNot5, kcv5_93, kbmul3, kbshl93_i32, kbshl93_i64, kbshl93_u32, kbshl93_u64, kbshl93_u8, kbor93, kblss5, kbadd3, ksl32_100z, ksl32_100, kst32]
    exact hK w' h (Chg.refl _ _)
/-- Int of a decoder: the number, why not, what is left. -/
def intD (e : Int) (r : List UInt8) : Int × Int × List UInt8 := if e = 0 then (if (numD 0 0 r).1 = 0 then (uz (numD 0 0 r).2.1, 0, (numD 0 0 r).2.2) else (0, (numD 0 0 r).1, r)) else (0, e, r)
theorem numD_len : ∀ (l : List UInt8) (i v : Nat), (numD i v l).2.2.length ≤ l.length
  | [], i, v => by simp [numD]
  | c :: r, i, v => by
    rw [numD]
    split
    · simp
    · split
      · simp
      · exact Nat.le_trans (numD_len r _ _) (by simp)
theorem intD_len (e : Int) (r : List UInt8) : (intD e r).2.2.length ≤ r.length := by
  unfold intD
  split
  · split
    · exact numD_len r 0 0
    · exact Nat.le_refl _
  · exact Nat.le_refl _
theorem uz_bounds (v : Nat) (h : v < 2 ^ 64) : -9223372036854775808 ≤ uz v ∧ uz v ≤ 9223372036854775807 := by unfold uz; split <;> omega
theorem intD_bounds (e : Int) (r : List UInt8) : -9223372036854775808 ≤ (intD e r).1 ∧ (intD e r).1 ≤ 9223372036854775807 := by
  unfold intD
  split
  · split
    · exact uz_bounds _ (numD_lt r 0 0 (by omega) (by simp))
    · simp
  · simp
theorem dec_store {w : World} {g : Nat} {e e' : Int} {r : List UInt8} {D : Option Nat} (h : DecAt w g e r D) : DecAt (w.setCell ⟨g, 1, none⟩ (.int .i64 e')) g e' r D := by
  obtain ⟨A, c, h1, h2, h3, h4, h5, h7, h6⟩ := h
  exact ⟨A, c, dec_set1 h1, h2.chg ((Chg.refl (fun k => k = g) w).setCell (p := ⟨g, 1, none⟩) (.inl rfl) _) (fun ad e h => h6 (by rw [(h5 ad e).1, h])), h3, h4, h5, h7, h6⟩
theorem dec_cells {w : World} {g : Nat} {e : Int} {r : List UInt8} {D : Option Nat} (h : DecAt w g e r D) : w.cell? ⟨g, 1, none⟩ = some (.int .i64 e) ∧ w.frozen? ⟨g, 1, none⟩ = false ∧ w.frozen? ⟨g, 0, none⟩ = false ∧ ∃ A c, w.cell? ⟨g, 0, none⟩ = some (.slice A r.length c) := by
  obtain ⟨A, c, h1, h2, h3, h4, h5, h7, h6⟩ := h
  exact ⟨by rw [blk_cell h1]; rfl, blk_frozen h1 1, blk_frozen h1 0, A, c, by rw [blk_cell h1]; rfl⟩
theorem int_any {g : Nat} {e : Int} {r : List UInt8} {D : Option Nat} {w : World} {K : Value → World → Prop} (h : DecAt w g e r D) (hr : r.length ≤ 100000)
    (hK : ∀ w', DecAt w' g (intD e r).2.1 (intD e r).2.2 D → Chg (fun k => k = g) w w' → K (.int .i64 (intD e r).1) w') : CallK Tryd.prog 46 #[.pointer (some ⟨g, 0, none⟩)] K w := by
  refine F46_calls _ _ _ ?_; unfold F46
  obtain ⟨c1, f1, _⟩ := dec_cells h
  by_cases he : e = 0
  · have hid : intD e r = if (numD 0 0 r).1 = 0 then (uz (numD 0 0 r).2.1, 0, (numD 0 0 r).2.2) else (0, (numD 0 0 r).1, r) := if_pos he
    rw [hid] at hK
    simp (maxSteps := 1000000) (disch := omega) only [hid1', hid2', guardK_u, takeG_u, wrap_in64, optK_some', fzK_false', nilK_ptr, brK_true', brK_false', guardK_tt', guardK_ff', guardK_tf', guardK_ft', takeG_tt', takeG_ff', takeG_tf', takeG_ft', pickK_t', pickK_f', pickT_t', pickT_f', notK, extract2_0', extract2_1', extract3_0', extract3_1', extract3_2', here_load, here_fieldAt, here_indexAt, here_extract, here_un, here_conv, here_slice, here_bin, here_nil, and_here, true_and, Nat.zero_add, Nat.add_assoc, Nat.add_zero, Int.toNat_natCast, size_alloc, World.cell?_drew, World.frozen?_drew, Bool.not_true, Bool.not_false, Int.toNat_zero, dec_t, dec_f, int_eq_t, int_eq_f, int_ne_t, int_ne_f, wrap_in, kfa99_1, kld29, kbneq29, kst29, kbshr93_i32, kbshr93_i64, kbshr93_u32, kbshr93_u64, kbshr93_u8, kcv93_2, kband93, kuneg2, kbxor2, c1]
    refine ck60 (num_any h hr ?_)
    intro w2 h2 hc2
    have hlt := numD_lt r 0 0 (by omega) (by simp)
    generalize hnd : numD 0 0 r = nd at *
    obtain ⟨er, v, r'⟩ := nd
    simp only at h2 hK hlt ⊢
    by_cases h0 : er = 0
    · rw [if_pos h0] at h2
      rw [if_pos h0] at hK
      subst he
      simp (maxSteps := 1000000) (disch := omega) only [hid1', hid2', guardK_u, takeG_u, wrap_in64, optK_some', fzK_false', nilK_ptr, brK_true', brK_false', guardK_tt', guardK_ff', guardK_tf', guardK_ft', takeG_tt', takeG_ff', takeG_tf', takeG_ft', pickK_t', pickK_f', pickT_t', pickT_f', notK, extract2_0', extract2_1', extract3_0', extract3_1', extract3_2', here_load, here_fieldAt, here_indexAt, here_extract, here_un, here_conv, here_slice, here_bin, here_nil, and_here, true_and, Nat.zero_add, Nat.add_assoc, Nat.add_zero, Int.toNat_natCast, size_alloc, World.cell?_drew, World.frozen?_drew, Bool.not_true, Bool.not_false, Int.toNat_zero, dec_t, dec_f, int_eq_t, int_eq_f, int_ne_t, int_ne_f, wrap_in, kfa99_1, kld29, kbneq29, kst29, kbshr93_i32, kbshr93_i64, kbshr93_u32, kbshr93_u64, kbshr93_u8, kcv93_2, kband93, kuneg2, kbxor2, uz_code v hlt]
      exact hK w2 h2 hc2
    · rw [if_neg h0] at h2
      rw [if_neg h0] at hK
      obtain ⟨c1', f1', _⟩ := dec_cells h2
      simp (maxSteps := 1000000) (disch := omega) only [hid1', hid2', guardK_u, takeG_u, wrap_in64, optK_some', fzK_false', nilK_ptr, brK_true', brK_false', guardK_tt', guardK_ff', guardK_tf', guardK_ft', takeG_tt', takeG_ff', takeG_tf', takeG_ft', pickK_t', pickK_f', pickT_t', pickT_f', notK, extract2_0', extract2_1', extract3_0', extract3_1', extract3_2', here_load, here_fieldAt, here_indexAt, here_extract, here_un, here_conv, here_slice, here_bin, here_nil, and_here, true_and, Nat.zero_add, Nat.add_assoc, Nat.add_zero, Int.toNat_natCast, size_alloc, World.cell?_drew, World.frozen?_drew, Bool.not_true, Bool.not_false, Int.toNat_zero, dec_t, dec_f, int_eq_t, int_eq_f, int_ne_t, int_ne_f, wrap_in, kfa99_1, kld29, kbneq29, kst29, kbshr93_i32, kbshr93_i64, kbshr93_u32, kbshr93_u64, kbshr93_u8, kcv93_2, kband93, kuneg2, kbxor2, c1', f1']
      exact hK _ (dec_store h2) (hc2.setCell (p := ⟨g, 1, none⟩) (.inl rfl) _)
  · have hid : intD e r = (0, e, r) := if_neg he
    rw [hid] at hK
    simp (maxSteps := 1000000) (disch := omega) only [hid1', hid2', guardK_u, takeG_u, wrap_in64, optK_some', fzK_false', nilK_ptr, brK_true', brK_false', guardK_tt', guardK_ff', guardK_tf', guardK_ft', takeG_tt', takeG_ff', takeG_tf', takeG_ft', pickK_t', pickK_f', pickT_t', pickT_f', notK, extract2_0', extract2_1', extract3_0', extract3_1', extract3_2', here_load, here_fieldAt, here_indexAt, here_extract, here_un, here_conv, here_slice, here_bin, here_nil, and_here, true_and, Nat.zero_add, Nat.add_assoc, Nat.add_zero, Int.toNat_natCast, size_alloc, World.cell?_drew, World.frozen?_drew, Bool.not_true, Bool.not_false, Int.toNat_zero, dec_t, dec_f, int_eq_t, int_eq_f, int_ne_t, int_ne_f, wrap_in, kfa99_1, kld29, kbneq29, kst29, kbshr93_i32, kbshr93_i64, kbshr93_u32, kbshr93_u64, kbshr93_u8, kcv93_2, kband93, kuneg2, kbxor2, c1]
    exact hK w h (Chg.refl _ _)
theorem convK_len {P : Program} {w : World} {src dst e : TypeId} {n : Nat} {A : Option Addr} {l : List UInt8} {c : Nat} (hn : n = l.length) (hs : P.underlying src = some (.slice e)) (he : P.underlying e = some (.int .u8)) (hd : P.underlying dst = some .string) (hr : Reads w A (l.map vb)) {K : Value → World → Prop} (h : K (.string (txt l)) w) :
    ConvK P src dst (.slice A n c) K w := by
  subst hn
  exact convK hs he hd hr h
/-- Text of a decoder. -/
def textD (e : Int) (r : List UInt8) : List UInt8 × Int × List UInt8 :=
  if (intD e r).2.1 ≠ 0 then ([], (intD e r).2.1, (intD e r).2.2) else if (intD e r).1 < 0 then ([], 2, (intD e r).2.2) else if ((intD e r).2.2.length : Int) < (intD e r).1 then ([], 3, (intD e r).2.2)
  else ((intD e r).2.2.take (intD e r).1.toNat, 0, (intD e r).2.2.drop (intD e r).1.toNat)
def manyD (e : Int) (r : List UInt8) (most : Int) : Int × Int × List UInt8 :=
  if (intD e r).2.1 ≠ 0 then (0, (intD e r).2.1, (intD e r).2.2) else if (intD e r).1 < 0 ∨ most < (intD e r).1 then (0, 2, (intD e r).2.2) else ((intD e r).1, 0, (intD e r).2.2)
def leftD (e : Int) (r : List UInt8) : Int := if e = 0 then r.length else 0
theorem left_any {g : Nat} {e : Int} {r : List UInt8} {D : Option Nat} {w : World} {K : Value → World → Prop} (h : DecAt w g e r D) (hK : K (.int .i64 (leftD e r)) w) : CallK Tryd.prog 49 #[.pointer (some ⟨g, 0, none⟩)] K w := by
  refine F49_calls _ _ _ ?_; unfold F49
  obtain ⟨c1, f1, f0, A, c, c0⟩ := dec_cells h
  by_cases he : e = 0
  · unfold leftD at hK; rw [if_pos he] at hK
    simp (maxSteps := 1000000) (disch := omega) only [hid1', hid2', guardK_u, takeG_u, wrap_in64, optK_some', fzK_false', nilK_ptr, brK_true', brK_false', guardK_tt', guardK_ff', guardK_tf', guardK_ft', takeG_tt', takeG_ff', takeG_tf', takeG_ft', pickK_t', pickK_f', pickT_t', pickT_f', notK, extract2_0', extract2_1', extract3_0', extract3_1', extract3_2', here_load, here_fieldAt, here_indexAt, here_extract, here_un, here_conv, here_slice, here_bin, here_nil, and_here, true_and, Nat.zero_add, Nat.add_assoc, Nat.add_zero, Int.toNat_natCast, size_alloc, World.cell?_drew, World.frozen?_drew, Bool.not_true, Bool.not_false, Int.toNat_zero, dec_t, dec_f, int_eq_t, int_eq_f, int_ne_t, int_ne_f, wrap_in, kfa99_1, kld29, kbneq29, kfa99_0, kld32, klen32, hlen32, c1, c0]
    exact hK
  · unfold leftD at hK; rw [if_neg he] at hK
    simp (maxSteps := 1000000) (disch := omega) only [hid1', hid2', guardK_u, takeG_u, wrap_in64, optK_some', fzK_false', nilK_ptr, brK_true', brK_false', guardK_tt', guardK_ff', guardK_tf', guardK_ft', takeG_tt', takeG_ff', takeG_tf', takeG_ft', pickK_t', pickK_f', pickT_t', pickT_f', notK, extract2_0', extract2_1', extract3_0', extract3_1', extract3_2', here_load, here_fieldAt, here_indexAt, here_extract, here_un, here_conv, here_slice, here_bin, here_nil, and_here, true_and, Nat.zero_add, Nat.add_assoc, Nat.add_zero, Int.toNat_natCast, size_alloc, World.cell?_drew, World.frozen?_drew, Bool.not_true, Bool.not_false, Int.toNat_zero, dec_t, dec_f, int_eq_t, int_eq_f, int_ne_t, int_ne_f, wrap_in, kfa99_1, kld29, kbneq29, kfa99_0, kld32, klen32, hlen32, c1, c0]
    exact hK
theorem err_any {g : Nat} {e : Int} {r : List UInt8} {D : Option Nat} {w : World} {K : Value → World → Prop} (h : DecAt w g e r D) (hK : K (.int .i64 e) w) : CallK Tryd.prog 47 #[.pointer (some ⟨g, 0, none⟩)] K w := by
  refine F47_calls _ _ _ ?_; unfold F47
  obtain ⟨c1, f1, f0, A, c, c0⟩ := dec_cells h
  simp (maxSteps := 1000000) (disch := omega) only [hid1', hid2', guardK_u, takeG_u, wrap_in64, optK_some', fzK_false', nilK_ptr, brK_true', brK_false', guardK_tt', guardK_ff', guardK_tf', guardK_ft', takeG_tt', takeG_ff', takeG_tf', takeG_ft', pickK_t', pickK_f', pickT_t', pickT_f', notK, extract2_0', extract2_1', extract3_0', extract3_1', extract3_2', here_load, here_fieldAt, here_indexAt, here_extract, here_un, here_conv, here_slice, here_bin, here_nil, and_here, true_and, Nat.zero_add, Nat.add_assoc, Nat.add_zero, Int.toNat_natCast, size_alloc, World.cell?_drew, World.frozen?_drew, Bool.not_true, Bool.not_false, Int.toNat_zero, dec_t, dec_f, int_eq_t, int_eq_f, int_ne_t, int_ne_f, wrap_in, kfa99_1, kld29, c1]
  exact hK
theorem of_any {l : List UInt8} {A : Option Addr} {c : Nat} {w : World} {K : Value → World → Prop} (hr : Reads w A (l.map vb)) (hl : l.length ≤ 100000)
    (hK : ∀ g D w', DecAt w' g 0 l D → Qt w w' → w.heap.size ≤ g → (∀ k, D = some k → w.heap.size ≤ k) → K (.pointer (some ⟨g, 0, none⟩)) w') : CallK Tryd.prog 33 #[.slice A l.length c] K w := by
  refine F33_calls _ _ _ ?_; unfold F33
  refine ck43 (clone_any hr hl ?_)
  intro A1 c1 F1 w1 o1 q1 f1
  simp (maxSteps := 1000000) (disch := omega) only [hid1', hid2', guardK_u, takeG_u, wrap_in64, optK_some', fzK_false', nilK_ptr, brK_true', brK_false', guardK_tt', guardK_ff', guardK_tf', guardK_ft', takeG_tt', takeG_ff', takeG_tf', takeG_ft', pickK_t', pickK_f', pickT_t', pickT_f', notK, extract2_0', extract2_1', extract3_0', extract3_1', extract3_2', here_load, here_fieldAt, here_indexAt, here_extract, here_un, here_conv, here_slice, here_bin, here_nil, and_here, true_and, Nat.zero_add, Nat.add_assoc, Nat.add_zero, Int.toNat_natCast, size_alloc, World.cell?_drew, World.frozen?_drew, Bool.not_true, Bool.not_false, Int.toNat_zero, dec_t, dec_f, int_eq_t, int_eq_f, int_ne_t, int_ne_f, wrap_in, kbd99_0, kbx99]
  obtain ⟨A', c', hv, hc1, hc2⟩ := o1.shape
  cases hv
  have hc := (Chg.refl (fun _ => False) w1).alloc (.cells #[.slice A1 l.length c1, .int .i64 0] 99)
  refine hK _ F1 _ ⟨A1, c1, blk_new _ _, Reads.of_own (o1.chg hc (fun _ _ h => h)), hc1, hc2, fun ad e => ?_, fun e => ?_, fun e => ?_⟩ (q1.trans hc) q1.size f1
  · subst e
    rcases o1 with ⟨hv, _⟩ | ⟨g, cap, hv, hF, _⟩
    · cases hv
    · injection hv with e1 e2 e3
      injection e1 with e1
      subst e1
      exact ⟨hF, rfl⟩
  · obtain ⟨h1, h2⟩ := (own_clip o1).1 e
    exact ⟨List.eq_nil_of_length_eq_zero h1, h2⟩
  · have := o1.lt e
    omega
theorem text_any {g : Nat} {e : Int} {r : List UInt8} {D : Option Nat} {w : World} {K : Value → World → Prop} (h : DecAt w g e r D) (hr : r.length ≤ 100000)
    (hK : ∀ w', DecAt w' g (textD e r).2.1 (textD e r).2.2 D → Chg (fun k => k = g) w w' → K (.string (txt (textD e r).1)) w') : CallK Tryd.prog 48 #[.pointer (some ⟨g, 0, none⟩)] K w := by
  refine F48_calls _ _ _ ?_; unfold F48
  refine ck46 (int_any h hr ?_)
  intro w2 h2 hc2
  have hlen := intD_len e r
  unfold textD at hK
  generalize intD e r = q at *
  obtain ⟨n, e1, r1⟩ := q
  simp only at h2 hK hlen ⊢
  obtain ⟨c1, f1, f0, A, c, c0⟩ := dec_cells h2
  by_cases he : e1 = 0
  · rw [if_neg (by simpa using he)] at hK
    by_cases hn : n < 0
    · rw [if_pos hn] at hK
      simp (maxSteps := 1000000) (disch := omega) only [hid1', hid2', guardK_u, takeG_u, wrap_in64, optK_some', fzK_false', nilK_ptr, brK_true', brK_false', guardK_tt', guardK_ff', guardK_tf', guardK_ft', takeG_tt', takeG_ff', takeG_tf', takeG_ft', pickK_t', pickK_f', pickT_t', pickT_f', notK, extract2_0', extract2_1', extract3_0', extract3_1', extract3_2', here_load, here_fieldAt, here_indexAt, here_extract, here_un, here_conv, here_slice, here_bin, here_nil, and_here, true_and, Nat.zero_add, Nat.add_assoc, Nat.add_zero, Int.toNat_natCast, size_alloc, World.cell?_drew, World.frozen?_drew, Bool.not_true, Bool.not_false, Int.toNat_zero, dec_t, dec_f, int_eq_t, int_eq_f, int_ne_t, int_ne_f, wrap_in, kfa99_1, kld29, kbneq29, kblss2, kst29, kfa99_0, kld32, klen32, hlen32, kbgtr2, ksl32_010z, ksl32_010, ksl32_100z, ksl32_100, kst32, c1, f1]
      exact hK _ (dec_store h2) (hc2.setCell (p := ⟨g, 1, none⟩) (.inl rfl) _)
    · rw [if_neg hn] at hK
      by_cases hbig : (r1.length : Int) < n
      · rw [if_pos hbig] at hK
        simp (maxSteps := 1000000) (disch := omega) only [hid1', hid2', guardK_u, takeG_u, wrap_in64, optK_some', fzK_false', nilK_ptr, brK_true', brK_false', guardK_tt', guardK_ff', guardK_tf', guardK_ft', takeG_tt', takeG_ff', takeG_tf', takeG_ft', pickK_t', pickK_f', pickT_t', pickT_f', notK, extract2_0', extract2_1', extract3_0', extract3_1', extract3_2', here_load, here_fieldAt, here_indexAt, here_extract, here_un, here_conv, here_slice, here_bin, here_nil, and_here, true_and, Nat.zero_add, Nat.add_assoc, Nat.add_zero, Int.toNat_natCast, size_alloc, World.cell?_drew, World.frozen?_drew, Bool.not_true, Bool.not_false, Int.toNat_zero, dec_t, dec_f, int_eq_t, int_eq_f, int_ne_t, int_ne_f, wrap_in, kfa99_1, kld29, kbneq29, kblss2, kst29, kfa99_0, kld32, klen32, hlen32, kbgtr2, ksl32_010z, ksl32_010, ksl32_100z, ksl32_100, kst32, c1, f1, c0]
        exact hK _ (dec_store h2) (hc2.setCell (p := ⟨g, 1, none⟩) (.inl rfl) _)
      · rw [if_neg hbig] at hK
        obtain ⟨k, rfl⟩ := Int.eq_ofNat_of_zero_le (show 0 ≤ n by omega)
        obtain ⟨A, c, g1, g2, g3, g4, g5, g7, g6⟩ := id h2
        have c0 : w2.cell? ⟨g, 0, none⟩ = some (.slice A r1.length c) := by rw [blk_cell g1]; rfl
        rw [Int.toNat_natCast] at hK
        subst he
        match A, g1, g2, g5, g7, c0 with
        | none, g1, g2, g5, g7, c0 =>
          obtain ⟨rfl, rfl⟩ := g7 rfl
          obtain rfl : k = 0 := by simp at hbig; omega
          have hfin := hK _ ⟨none, 0, dec_set0 (x := .slice none 0 0) g1, .inl rfl, by simp, by omega, fun _ h => (by cases h), fun _ => ⟨rfl, rfl⟩, g6⟩ (hc2.setCell (p := ⟨g, 0, none⟩) (.inl rfl) _)
          rw [List.length_nil] at c0
          have e0 : ((0 : Nat) : Int) = 0 := rfl
          simp (maxSteps := 1000000) (disch := omega) only [hid1', hid2', guardK_u, takeG_u, wrap_in64, optK_some', fzK_false', nilK_ptr, brK_true', brK_false', guardK_tt', guardK_ff', guardK_tf', guardK_ft', takeG_tt', takeG_ff', takeG_tf', takeG_ft', pickK_t', pickK_f', pickT_t', pickT_f', notK, extract2_0', extract2_1', extract3_0', extract3_1', extract3_2', here_load, here_fieldAt, here_indexAt, here_extract, here_un, here_conv, here_slice, here_bin, here_nil, and_here, true_and, Nat.zero_add, Nat.add_assoc, Nat.add_zero, Int.toNat_natCast, size_alloc, World.cell?_drew, World.frozen?_drew, Bool.not_true, Bool.not_false, Int.toNat_zero, dec_t, dec_f, int_eq_t, int_eq_f, int_ne_t, int_ne_f, wrap_in, kfa99_1, kld29, kbneq29, kblss2, kst29, kfa99_0, kld32, klen32, hlen32, kbgtr2, ksl32_010z, ksl32_010, ksl32_100z, ksl32_100, kst32, c1, f0, c0, e0]
          refine convK (l := []) Tryd.underlying32 Tryd.underlying5 Tryd.underlying9 (.inl rfl) ?_
          simp (maxSteps := 1000000) (disch := omega) only [hid1', hid2', guardK_u, takeG_u, wrap_in64, optK_some', fzK_false', nilK_ptr, brK_true', brK_false', guardK_tt', guardK_ff', guardK_tf', guardK_ft', takeG_tt', takeG_ff', takeG_tf', takeG_ft', pickK_t', pickK_f', pickT_t', pickT_f', notK, extract2_0', extract2_1', extract3_0', extract3_1', extract3_2', here_load, here_fieldAt, here_indexAt, here_extract, here_un, here_conv, here_slice, here_bin, here_nil, and_here, true_and, Nat.zero_add, Nat.add_assoc, Nat.add_zero, Int.toNat_natCast, size_alloc, World.cell?_drew, World.frozen?_drew, Bool.not_true, Bool.not_false, Int.toNat_zero, dec_t, dec_f, int_eq_t, int_eq_f, int_ne_t, int_ne_f, wrap_in, kfa99_1, kld29, kbneq29, kblss2, kst29, kfa99_0, kld32, klen32, hlen32, kbgtr2, ksl32_010z, ksl32_010, ksl32_100z, ksl32_100, kst32, c1, f0, c0, e0]
          exact hfin
        | some ⟨b, o, sp⟩, g1, g2, g5, g7, c0 =>
          obtain ⟨hD, rfl⟩ : D = some b ∧ sp = none := g5 _ rfl
          have hbg : b ≠ g := fun h => g6 (by rw [hD, h])
          have hch : Chg (fun k => k = g) w2 (w2.setCell ⟨g, 0, none⟩ (.slice (if c = k then some ⟨b, o, none⟩ else some ⟨b, o + k, none⟩) (r1.length - k) (c - k))) := (Chg.refl (fun k => k = g) w2).setCell (p := ⟨g, 0, none⟩) (.inl rfl) _
          have hrd := reads_drop (n := 0) g2 g3 k (by omega)
          have hfin := hK _ ⟨_, c - k, by rw [List.length_drop]; exact dec_set0 g1, hrd.chg hch (fun ad e h => (by split at e <;> (cases e; exact hbg h))), (by rw [List.length_drop]; omega), (by omega), fun ad e => (by split at e <;> (cases e; exact ⟨hD, rfl⟩)), fun e => (by split at e <;> cases e), g6⟩ (hc2.trans hch)
          have htk := reads_take g2 k
          have htl : (r1.take k).length = k := by simp; omega
          simp (maxSteps := 1000000) (disch := omega) only [hid1', hid2', guardK_u, takeG_u, wrap_in64, optK_some', fzK_false', nilK_ptr, brK_true', brK_false', guardK_tt', guardK_ff', guardK_tf', guardK_ft', takeG_tt', takeG_ff', takeG_tf', takeG_ft', pickK_t', pickK_f', pickT_t', pickT_f', notK, extract2_0', extract2_1', extract3_0', extract3_1', extract3_2', here_load, here_fieldAt, here_indexAt, here_extract, here_un, here_conv, here_slice, here_bin, here_nil, and_here, true_and, Nat.zero_add, Nat.add_assoc, Nat.add_zero, Int.toNat_natCast, size_alloc, World.cell?_drew, World.frozen?_drew, Bool.not_true, Bool.not_false, Int.toNat_zero, dec_t, dec_f, int_eq_t, int_eq_f, int_ne_t, int_ne_f, wrap_in, kfa99_1, kld29, kbneq29, kblss2, kst29, kfa99_0, kld32, klen32, hlen32, kbgtr2, ksl32_010z, ksl32_010, ksl32_100z, ksl32_100, kst32, c1, f0, c0]
          refine convK_len htl.symm Tryd.underlying32 Tryd.underlying5 Tryd.underlying9 htk ?_
          simp (maxSteps := 1000000) (disch := omega) only [hid1', hid2', guardK_u, takeG_u, wrap_in64, optK_some', fzK_false', nilK_ptr, brK_true', brK_false', guardK_tt', guardK_ff', guardK_tf', guardK_ft', takeG_tt', takeG_ff', takeG_tf', takeG_ft', pickK_t', pickK_f', pickT_t', pickT_f', notK, extract2_0', extract2_1', extract3_0', extract3_1', extract3_2', here_load, here_fieldAt, here_indexAt, here_extract, here_un, here_conv, here_slice, here_bin, here_nil, and_here, true_and, Nat.zero_add, Nat.add_assoc, Nat.add_zero, Int.toNat_natCast, size_alloc, World.cell?_drew, World.frozen?_drew, Bool.not_true, Bool.not_false, Int.toNat_zero, dec_t, dec_f, int_eq_t, int_eq_f, int_ne_t, int_ne_f, wrap_in, kfa99_1, kld29, kbneq29, kblss2, kst29, kfa99_0, kld32, klen32, hlen32, kbgtr2, ksl32_010z, ksl32_010, ksl32_100z, ksl32_100, kst32, c1, f0, c0]
          exact hfin
  · rw [if_pos he] at hK
    simp (maxSteps := 1000000) (disch := omega) only [hid1', hid2', guardK_u, takeG_u, wrap_in64, optK_some', fzK_false', nilK_ptr, brK_true', brK_false', guardK_tt', guardK_ff', guardK_tf', guardK_ft', takeG_tt', takeG_ff', takeG_tf', takeG_ft', pickK_t', pickK_f', pickT_t', pickT_f', notK, extract2_0', extract2_1', extract3_0', extract3_1', extract3_2', here_load, here_fieldAt, here_indexAt, here_extract, here_un, here_conv, here_slice, here_bin, here_nil, and_here, true_and, Nat.zero_add, Nat.add_assoc, Nat.add_zero, Int.toNat_natCast, size_alloc, World.cell?_drew, World.frozen?_drew, Bool.not_true, Bool.not_false, Int.toNat_zero, dec_t, dec_f, int_eq_t, int_eq_f, int_ne_t, int_ne_f, wrap_in, kfa99_1, kld29, kbneq29, kblss2, kst29, kfa99_0, kld32, klen32, hlen32, kbgtr2, ksl32_010z, ksl32_010, ksl32_100z, ksl32_100, kst32, c1]
    exact hK w2 h2 hc2
end Go.Proofs.YtpdhmbbmhomlnaaDoor
