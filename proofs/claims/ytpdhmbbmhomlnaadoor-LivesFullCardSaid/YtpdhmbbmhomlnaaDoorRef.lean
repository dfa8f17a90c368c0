/- The reference's decoder (cantonref7.Dec): the same answers as the program's. Conditions: at most 100000 bytes. -/
import Derived.Test.YtpdhmbbmhomlnaaDoorV4
import Derived.Test.YtpdhmbbmhomlnaaDoorDec
import Derived.Test.YtpdhmbbmhomlnaaDoorV3
set_option maxRecDepth 100000
set_option linter.unusedVariables false
set_option linter.unusedSimpArgs false
namespace Go.Proofs.YtpdhmbbmhomlnaaDoor
open Go.RowKit Go.Cn Go.Cn.Num
def RefAt (w : World) (g : Nat) (e : Int) (r : List UInt8) (D : Option Nat) : Prop :=
  ∃ (A : Option Addr) (c : Nat) (b : List UInt8) (a : Nat), w.heap[g]? = some (.cells #[.slice A b.length c, .int .i64 a, .int .i64 e] 79 (0, 0)) ∧ Reads w A (b.map vb) ∧ b.length ≤ 100000 ∧ b.length ≤ c ∧ a ≤ b.length ∧ r = b.drop a ∧ (∀ ad, A = some ad → b ≠ [] → D = some ad.block) ∧ D ≠ some g
theorem reads_chg7 {w w' : World} {A : Option Addr} {b : List UInt8} {D : Option Nat} {S : Nat → Prop} (h2 : Reads w A (b.map vb)) (h7 : ∀ ad, A = some ad → b ≠ [] → D = some ad.block) (c : Chg S w w') (hD : ∀ k, D = some k → ¬ S k) : Reads w' A (b.map vb) := by
  by_cases hb : b = []
  · subst hb; exact .inl rfl
  · exact h2.chg c (fun ad e => hD _ (h7 ad e hb))
theorem RefAt.chg {w w' : World} {g : Nat} {e : Int} {r : List UInt8} {D : Option Nat} {S : Nat → Prop} (h : RefAt w g e r D) (c : Chg S w w') (hg : ¬ S g) (hD : ∀ k, D = some k → ¬ S k) : RefAt w' g e r D := by
  obtain ⟨A, cp, b, a, h1, h2, h3, h4, h5, h6, h7, h8⟩ := h
  exact ⟨A, cp, b, a, c.heap h1 hg, reads_chg7 h2 h7 c hD, h3, h4, h5, h6, h7, h8⟩
theorem ref_set1 {w : World} {g : Nat} {a b c x : Value} {t : TypeId} (h : w.heap[g]? = some (.cells #[a, b, c] t (0, 0))) : (w.setCell ⟨g, 1, none⟩ x).heap[g]? = some (.cells #[a, x, c] t (0, 0)) := by
  rw [blk_set h]; rfl
theorem ref_set2 {w : World} {g : Nat} {a b c x : Value} {t : TypeId} (h : w.heap[g]? = some (.cells #[a, b, c] t (0, 0))) : (w.setCell ⟨g, 2, none⟩ x).heap[g]? = some (.cells #[a, b, x] t (0, 0)) := by
  rw [blk_set h]; rfl
theorem ref_bad {w : World} {g : Nat} {e e' : Int} {r : List UInt8} {D : Option Nat} (h : RefAt w g e r D) : RefAt (w.setCell ⟨g, 2, none⟩ (.int .i64 e')) g e' r D := by
  obtain ⟨A, cp, b, a, h1, h2, h3, h4, h5, h6, h7, h8⟩ := h
  exact ⟨A, cp, b, a, ref_set2 h1, reads_chg7 h2 h7 ((Chg.refl (fun k => k = g) w).setCell (p := ⟨g, 2, none⟩) (.inl rfl) _) (fun k hk h => h8 (by rw [hk, h])), h3, h4, h5, h6, h7, h8⟩
theorem ref_err {w : World} {g : Nat} {e : Int} {r : List UInt8} {D : Option Nat} (h : RefAt w g e r D) : w.cell? ⟨g, 2, none⟩ = some (.int .i64 e) ∧ w.frozen? ⟨g, 2, none⟩ = false := by
  obtain ⟨A, cp, b, a, h1, _⟩ := h
  exact ⟨by rw [blk_cell h1]; rfl, blk_frozen h1 2⟩
theorem ref_chg {w : World} {g : Nat} {i : Nat} {v : Value} : Chg (fun k => k = g) w (w.setCell ⟨g, i, none⟩ v) := (Chg.refl (fun k => k = g) w).setCell (p := ⟨g, i, none⟩) (.inl rfl) _
theorem and127 (x : Nat) (h : x < 256) : bits .and .u64 (x : Int) 127 = ((x % 128 : Nat) : Int) := by
  have h2 := bits_and_u64_nat x 127 (by omega) (by omega)
  rw [show ((127 : Nat) : Int) = 127 from rfl] at h2
  rw [h2, Nat.and_two_pow_sub_one_eq_mod x 7]
theorem and1 (x : Nat) (h : x < 2 ^ 64) : bits .and .u64 (x : Int) 1 = ((x % 2 : Nat) : Int) := by
  have ha := bits_and_u64_nat x 1 (by omega) (by omega)
  rw [show ((1 : Nat) : Int) = 1 from rfl, Nat.and_one_is_mod] at ha
  exact ha
theorem half64 (v : Nat) (h : v < 2 ^ 64) : IntKind.i64.wrap ((v : Int) / (2 : Int) ^ min (Int.toNat 1) 64) = ((v / 2 : Nat) : Int) := by
  rw [show min (Int.toNat 1) 64 = 1 from rfl, IntKind.wrap_i64]; omega
theorem u64_byte (x : Nat) (h : x < 256) : IntKind.u64.wrap (x : Int) = (x : Int) := u64_nat x (by omega)
theorem u64_7 (j : Nat) (h : j ≤ 10) : IntKind.u64.wrap (7 * (j : Int)) = 7 * (j : Int) := by
  have := u64_nat (7 * j) (by omega)
  simpa using this
set_option maxHeartbeats 1000000 in
theorem int_ref {g : Nat} {e : Int} {r : List UInt8} {D : Option Nat} {w : World} {K : Value → World → Prop} (h : RefAt w g e r D)
    (hK : ∀ w', RefAt w' g (intD e r).2.1 (intD e r).2.2 D → Chg (fun k => k = g) w w' → K (.int .i64 (intD e r).1) w') : CallK Tryd.prog 36 #[.pointer (some ⟨g, 0, none⟩)] K w := by
  refine F36_calls _ _ _ ?_; unfold F36
  obtain ⟨c2, f2⟩ := ref_err h
  by_cases hne : ¬ e = 0
  · have he := hne
    have hdd : intD e r = (0, e, r) := if_neg he
    rw [hdd] at hK
    simp (maxSteps := 1000000) (disch := omega) only [hid1', hid2', guardK_u, takeG_u, wrap_in64, optK_some', fzK_false', nilK_ptr, brK_true', brK_false', guardK_tt', guardK_ff', guardK_tf', guardK_ft', takeG_tt', takeG_ff', takeG_tf', takeG_ft', pickK_t', pickK_f', pickT_t', pickT_f', notK, extract2_0', extract2_1', extract3_0', extract3_1', extract3_2', here_load, here_fieldAt, here_indexAt, here_extract, here_un, here_conv, here_slice, here_bin, here_nil, and_here, true_and, Nat.zero_add, Nat.add_assoc, Nat.add_zero, Int.toNat_natCast, size_alloc, World.cell?_drew, World.frozen?_drew, Bool.not_true, Bool.not_false, Int.toNat_zero, dec_t, dec_f, int_eq_t, int_eq_f, int_ne_t, int_ne_f, wrap_in, kfa79_2, kld3, kbneq3, kblss3, kfa79_1, kbadd3, kfa79_0, kld32, klen32, hlen32, kbeql3, kst3, kia32, kld5, kcv5_93, kbgtr93, kbgtr3, kbeql93, kband93, kbmul3, kcv3_74, kbshl93_i32, kbshl93_i64, kbshl93_u32, kbshl93_u64, kbshl93_u8, kbor93, kblss93, kbshr93_i32, kbshr93_i64, kbshr93_u32, kbshr93_u64, kbshr93_u8, kcv93_2, kbsub2, c2]
    exact hK w h (Chg.refl _ _)
  have he : e = 0 := Decidable.not_not.1 hne
  clear hne
  have hdd : intD e r = if (numD 0 0 r).1 = 0 then (uz (numD 0 0 r).2.1, 0, (numD 0 0 r).2.2) else (0, (numD 0 0 r).1, r) := if_pos he
  rw [hdd] at hK
  subst he
  obtain ⟨A, cp, b, a, h1, h2, h3, h4, h5, h6, h7, h8⟩ := id h
  have c0 : w.cell? ⟨g, 0, none⟩ = some (.slice A b.length cp) := by rw [blk_cell h1]; rfl
  have c1 : w.cell? ⟨g, 1, none⟩ = some (.int .i64 a) := by rw [blk_cell h1]; rfl
  have f1 : w.frozen? ⟨g, 1, none⟩ = false := blk_frozen h1 1
  have hrl : r.length = b.length - a := by rw [h6, List.length_drop]
  simp (maxSteps := 1000000) (disch := omega) only [hid1', hid2', guardK_u, takeG_u, wrap_in64, optK_some', fzK_false', nilK_ptr, brK_true', brK_false', guardK_tt', guardK_ff', guardK_tf', guardK_ft', takeG_tt', takeG_ff', takeG_tf', takeG_ft', pickK_t', pickK_f', pickT_t', pickT_f', notK, extract2_0', extract2_1', extract3_0', extract3_1', extract3_2', here_load, here_fieldAt, here_indexAt, here_extract, here_un, here_conv, here_slice, here_bin, here_nil, and_here, true_and, Nat.zero_add, Nat.add_assoc, Nat.add_zero, Int.toNat_natCast, size_alloc, World.cell?_drew, World.frozen?_drew, Bool.not_true, Bool.not_false, Int.toNat_zero, dec_t, dec_f, int_eq_t, int_eq_f, int_ne_t, int_ne_f, wrap_in, kfa79_2, kld3, kbneq3, kblss3, kfa79_1, kbadd3, kfa79_0, kld32, klen32, hlen32, kbeql3, kst3, kia32, kld5, kcv5_93, kbgtr93, kbgtr3, kbeql93, kband93, kbmul3, kcv3_74, kbshl93_i32, kbshl93_i64, kbshl93_u32, kbshl93_u64, kbshl93_u8, kbor93, kblss93, kbshr93_i32, kbshr93_i64, kbshr93_u32, kbshr93_u64, kbshr93_u8, kcv93_2, kbsub2, c2]
  refine loopK2 (fun v i w' => Qt w w' ∧ ∃ (j u : Nat), i = .int .i64 j ∧ v = .int .u64 u ∧ j ≤ r.length ∧ j ≤ 9 ∧ u < 2 ^ (7 * j) ∧ numD j u (r.drop j) = numD 0 0 r) (fun _ i _ => 10 - (intOf i).toNat) ⟨Qt.refl, 0, 0, rfl, rfl, by omega, by omega, by simp, rfl⟩ ?_
  rintro _ _ _ w' ⟨hqw, j, u, rfl, rfl, hj, hj9, hu, hnum⟩
  replace hK := fun wx a (b : Chg (fun k => k = g) w' wx) => hK wx a ((hqw.mono (fun _ _ h => h.elim)).trans b)
  replace h := h.chg hqw (fun h => h) (fun _ _ h => h)
  replace c0 := hqw.cell c0 (fun h => h)
  replace c1 := hqw.cell c1 (fun h => h)
  replace c2 := hqw.cell c2 (fun h => h)
  replace h1 := hqw.heap h1 (fun h => h)
  replace h2 := h2.quiet hqw
  replace f1 : w'.frozen? ⟨g, 1, none⟩ = false := blk_frozen h1 1
  replace f2 : w'.frozen? ⟨g, 2, none⟩ = false := blk_frozen h1 2
  simp (maxSteps := 1000000) (disch := omega) only [hid1', hid2', guardK_u, takeG_u, wrap_in64, optK_some', fzK_false', nilK_ptr, brK_true', brK_false', guardK_tt', guardK_ff', guardK_tf', guardK_ft', takeG_tt', takeG_ff', takeG_tf', takeG_ft', pickK_t', pickK_f', pickT_t', pickT_f', notK, extract2_0', extract2_1', extract3_0', extract3_1', extract3_2', here_load, here_fieldAt, here_indexAt, here_extract, here_un, here_conv, here_slice, here_bin, here_nil, and_here, true_and, Nat.zero_add, Nat.add_assoc, Nat.add_zero, Int.toNat_natCast, size_alloc, World.cell?_drew, World.frozen?_drew, Bool.not_true, Bool.not_false, Int.toNat_zero, dec_t, dec_f, int_eq_t, int_eq_f, int_ne_t, int_ne_f, wrap_in, kfa79_2, kld3, kbneq3, kblss3, kfa79_1, kbadd3, kfa79_0, kld32, klen32, hlen32, kbeql3, kst3, kia32, kld5, kcv5_93, kbgtr93, kbgtr3, kbeql93, kband93, kbmul3, kcv3_74, kbshl93_i32, kbshl93_i64, kbshl93_u32, kbshl93_u64, kbshl93_u8, kbor93, kblss93, kbshr93_i32, kbshr93_i64, kbshr93_u32, kbshr93_u64, kbshr93_u8, kcv93_2, kbsub2]
  refine drawK_here ?_
  simp (maxSteps := 1000000) (disch := omega) only [hid1', hid2', guardK_u, takeG_u, wrap_in64, optK_some', fzK_false', nilK_ptr, brK_true', brK_false', guardK_tt', guardK_ff', guardK_tf', guardK_ft', takeG_tt', takeG_ff', takeG_tf', takeG_ft', pickK_t', pickK_f', pickT_t', pickT_f', notK, extract2_0', extract2_1', extract3_0', extract3_1', extract3_2', here_load, here_fieldAt, here_indexAt, here_extract, here_un, here_conv, here_slice, here_bin, here_nil, and_here, true_and, Nat.zero_add, Nat.add_assoc, Nat.add_zero, Int.toNat_natCast, size_alloc, World.cell?_drew, World.frozen?_drew, Bool.not_true, Bool.not_false, Int.toNat_zero, dec_t, dec_f, int_eq_t, int_eq_f, int_ne_t, int_ne_f, wrap_in, kfa79_2, kld3, kbneq3, kblss3, kfa79_1, kbadd3, kfa79_0, kld32, klen32, hlen32, kbeql3, kst3, kia32, kld5, kcv5_93, kbgtr93, kbgtr3, kbeql93, kband93, kbmul3, kcv3_74, kbshl93_i32, kbshl93_i64, kbshl93_u32, kbshl93_u64, kbshl93_u8, kbor93, kblss93, kbshr93_i32, kbshr93_i64, kbshr93_u32, kbshr93_u64, kbshr93_u8, kcv93_2, kbsub2, c0, c1]
  have fin : ∀ (e' : Int) (wx : World), Qt w' wx → numD 0 0 r = (e', 0, []) → e' ≠ 0 → K (.int .i64 0) (wx.setCell ⟨g, 2, none⟩ (.int .i64 e')) := by
    intro e' wx hq hn he'
    rw [hn] at hK
    simp only [if_neg he'] at hK
    exact hK _ (ref_bad (h.chg hq (fun h => h) (fun _ _ h => h))) ((hq.mono (fun _ _ h => h.elim)).trans ref_chg)
  by_cases hge : ¬ j < r.length
  · rw [List.drop_eq_nil_of_le (by omega), numD] at hnum
    have hje : ((a : Int) + j == (b.length : Int)) = true := beq_iff_eq.2 (by omega)
    simp (maxSteps := 1000000) (disch := omega) only [hid1', hid2', guardK_u, takeG_u, wrap_in64, optK_some', fzK_false', nilK_ptr, brK_true', brK_false', guardK_tt', guardK_ff', guardK_tf', guardK_ft', takeG_tt', takeG_ff', takeG_tf', takeG_ft', pickK_t', pickK_f', pickT_t', pickT_f', notK, extract2_0', extract2_1', extract3_0', extract3_1', extract3_2', here_load, here_fieldAt, here_indexAt, here_extract, here_un, here_conv, here_slice, here_bin, here_nil, and_here, true_and, Nat.zero_add, Nat.add_assoc, Nat.add_zero, Int.toNat_natCast, size_alloc, World.cell?_drew, World.frozen?_drew, Bool.not_true, Bool.not_false, Int.toNat_zero, dec_t, dec_f, int_eq_t, int_eq_f, int_ne_t, int_ne_f, wrap_in, kfa79_2, kld3, kbneq3, kblss3, kfa79_1, kbadd3, kfa79_0, kld32, klen32, hlen32, kbeql3, kst3, kia32, kld5, kcv5_93, kbgtr93, kbgtr3, kbeql93, kband93, kbmul3, kcv3_74, kbshl93_i32, kbshl93_i64, kbshl93_u32, kbshl93_u64, kbshl93_u8, kbor93, kblss93, kbshr93_i32, kbshr93_i64, kbshr93_u32, kbshr93_u64, kbshr93_u8, kcv93_2, kbsub2, guardK_u, c2, f2]
    exact fin 3 _ Qt.refl.drew hnum.symm (by omega)
  have hlt : j < r.length := Decidable.not_not.1 hge
  clear hge
  have h7' := h7
  clear h7
  obtain ⟨bb, o, rfl, hcell⟩ := h2.get (show a + j < b.length by omega)
  have hx : b.getD (a + j) default = r.getD j default := by
    rw [h6]; simp [List.getD_eq_getElem?_getD, List.getElem?_drop]
  rw [hx] at hcell
  have hdr : r.drop j = r.getD j default :: r.drop (j + 1) := by
    rw [List.drop_eq_getElem_cons hlt]; simp [hlt]
  have hdb : b.drop (a + (j + 1)) = r.drop (j + 1) := by rw [h6, List.drop_drop]
  rw [hdr] at hnum
  clear hx hdr
  generalize r.getD j default = x at *
  have hx := UInt8.toNat_lt x
  simp only [vb] at hcell
  rw [numD] at hnum
  have hm : x.toNat % 128 < 128 := Nat.mod_lt _ (by omega)
  have haj : ((a : Int) + j).toNat = a + j := by omega
  have hje : ((a : Int) + j == (b.length : Int)) = false := beq_eq_false_iff_ne.2 (by omega)
  simp (maxSteps := 1000000) (disch := omega) only [hid1', hid2', guardK_u, takeG_u, wrap_in64, optK_some', fzK_false', nilK_ptr, brK_true', brK_false', guardK_tt', guardK_ff', guardK_tf', guardK_ft', takeG_tt', takeG_ff', takeG_tf', takeG_ft', pickK_t', pickK_f', pickT_t', pickT_f', notK, extract2_0', extract2_1', extract3_0', extract3_1', extract3_2', here_load, here_fieldAt, here_indexAt, here_extract, here_un, here_conv, here_slice, here_bin, here_nil, and_here, true_and, Nat.zero_add, Nat.add_assoc, Nat.add_zero, Int.toNat_natCast, size_alloc, World.cell?_drew, World.frozen?_drew, Bool.not_true, Bool.not_false, Int.toNat_zero, dec_t, dec_f, int_eq_t, int_eq_f, int_ne_t, int_ne_f, wrap_in, kfa79_2, kld3, kbneq3, kblss3, kfa79_1, kbadd3, kfa79_0, kld32, klen32, hlen32, kbeql3, kst3, kia32, kld5, kcv5_93, kbgtr93, kbgtr3, kbeql93, kband93, kbmul3, kcv3_74, kbshl93_i32, kbshl93_i64, kbshl93_u32, kbshl93_u64, kbshl93_u8, kbor93, kblss93, kbshr93_i32, kbshr93_i64, kbshr93_u32, kbshr93_u64, kbshr93_u8, kcv93_2, kbsub2, hje]
  refine drawK_here ?_
  have hu64 := u64_byte x.toNat hx
  simp (maxSteps := 1000000) (disch := omega) only [hid1', hid2', guardK_u, takeG_u, wrap_in64, optK_some', fzK_false', nilK_ptr, brK_true', brK_false', guardK_tt', guardK_ff', guardK_tf', guardK_ft', takeG_tt', takeG_ff', takeG_tf', takeG_ft', pickK_t', pickK_f', pickT_t', pickT_f', notK, extract2_0', extract2_1', extract3_0', extract3_1', extract3_2', here_load, here_fieldAt, here_indexAt, here_extract, here_un, here_conv, here_slice, here_bin, here_nil, and_here, true_and, Nat.zero_add, Nat.add_assoc, Nat.add_zero, Int.toNat_natCast, size_alloc, World.cell?_drew, World.frozen?_drew, Bool.not_true, Bool.not_false, Int.toNat_zero, dec_t, dec_f, int_eq_t, int_eq_f, int_ne_t, int_ne_f, wrap_in, kfa79_2, kld3, kbneq3, kblss3, kfa79_1, kbadd3, kfa79_0, kld32, klen32, hlen32, kbeql3, kst3, kia32, kld5, kcv5_93, kbgtr93, kbgtr3, kbeql93, kband93, kbmul3, kcv3_74, kbshl93_i32, kbshl93_i64, kbshl93_u32, kbshl93_u64, kbshl93_u8, kbor93, kblss93, kbshr93_i32, kbshr93_i64, kbshr93_u32, kbshr93_u64, kbshr93_u8, kcv93_2, kbsub2, c0, c1, haj, hcell, hu64]
  have q0 : Qt w' w'.drew.drew := Qt.refl.drew.drew
  by_cases hbad : (j = 9 ∧ 1 < x.toNat) ∨ (0 < j ∧ x.toNat = 0)
  · rw [if_pos hbad] at hnum
    have hfin := fin 2 _ q0 hnum.symm (by omega)
    rcases hbad with ⟨h9, hx1⟩ | ⟨hj0, hx0⟩
    · simp (maxSteps := 1000000) (disch := omega) only [hid1', hid2', guardK_u, takeG_u, wrap_in64, optK_some', fzK_false', nilK_ptr, brK_true', brK_false', guardK_tt', guardK_ff', guardK_tf', guardK_ft', takeG_tt', takeG_ff', takeG_tf', takeG_ft', pickK_t', pickK_f', pickT_t', pickT_f', notK, extract2_0', extract2_1', extract3_0', extract3_1', extract3_2', here_load, here_fieldAt, here_indexAt, here_extract, here_un, here_conv, here_slice, here_bin, here_nil, and_here, true_and, Nat.zero_add, Nat.add_assoc, Nat.add_zero, Int.toNat_natCast, size_alloc, World.cell?_drew, World.frozen?_drew, Bool.not_true, Bool.not_false, Int.toNat_zero, dec_t, dec_f, int_eq_t, int_eq_f, int_ne_t, int_ne_f, wrap_in, kfa79_2, kld3, kbneq3, kblss3, kfa79_1, kbadd3, kfa79_0, kld32, klen32, hlen32, kbeql3, kst3, kia32, kld5, kcv5_93, kbgtr93, kbgtr3, kbeql93, kband93, kbmul3, kcv3_74, kbshl93_i32, kbshl93_i64, kbshl93_u32, kbshl93_u64, kbshl93_u8, kbor93, kblss93, kbshr93_i32, kbshr93_i64, kbshr93_u32, kbshr93_u64, kbshr93_u8, kcv93_2, kbsub2, guardK_u, c2, f2]
      exact hfin
    · by_cases h9 : j = 9
      · simp (maxSteps := 1000000) (disch := omega) only [hid1', hid2', guardK_u, takeG_u, wrap_in64, optK_some', fzK_false', nilK_ptr, brK_true', brK_false', guardK_tt', guardK_ff', guardK_tf', guardK_ft', takeG_tt', takeG_ff', takeG_tf', takeG_ft', pickK_t', pickK_f', pickT_t', pickT_f', notK, extract2_0', extract2_1', extract3_0', extract3_1', extract3_2', here_load, here_fieldAt, here_indexAt, here_extract, here_un, here_conv, here_slice, here_bin, here_nil, and_here, true_and, Nat.zero_add, Nat.add_assoc, Nat.add_zero, Int.toNat_natCast, size_alloc, World.cell?_drew, World.frozen?_drew, Bool.not_true, Bool.not_false, Int.toNat_zero, dec_t, dec_f, int_eq_t, int_eq_f, int_ne_t, int_ne_f, wrap_in, kfa79_2, kld3, kbneq3, kblss3, kfa79_1, kbadd3, kfa79_0, kld32, klen32, hlen32, kbeql3, kst3, kia32, kld5, kcv5_93, kbgtr93, kbgtr3, kbeql93, kband93, kbmul3, kcv3_74, kbshl93_i32, kbshl93_i64, kbshl93_u32, kbshl93_u64, kbshl93_u8, kbor93, kblss93, kbshr93_i32, kbshr93_i64, kbshr93_u32, kbshr93_u64, kbshr93_u8, kcv93_2, kbsub2, guardK_u, c2, f2]
        exact hfin
      · simp (maxSteps := 1000000) (disch := omega) only [hid1', hid2', guardK_u, takeG_u, wrap_in64, optK_some', fzK_false', nilK_ptr, brK_true', brK_false', guardK_tt', guardK_ff', guardK_tf', guardK_ft', takeG_tt', takeG_ff', takeG_tf', takeG_ft', pickK_t', pickK_f', pickT_t', pickT_f', notK, extract2_0', extract2_1', extract3_0', extract3_1', extract3_2', here_load, here_fieldAt, here_indexAt, here_extract, here_un, here_conv, here_slice, here_bin, here_nil, and_here, true_and, Nat.zero_add, Nat.add_assoc, Nat.add_zero, Int.toNat_natCast, size_alloc, World.cell?_drew, World.frozen?_drew, Bool.not_true, Bool.not_false, Int.toNat_zero, dec_t, dec_f, int_eq_t, int_eq_f, int_ne_t, int_ne_f, wrap_in, kfa79_2, kld3, kbneq3, kblss3, kfa79_1, kbadd3, kfa79_0, kld32, klen32, hlen32, kbeql3, kst3, kia32, kld5, kcv5_93, kbgtr93, kbgtr3, kbeql93, kband93, kbmul3, kcv3_74, kbshl93_i32, kbshl93_i64, kbshl93_u32, kbshl93_u64, kbshl93_u8, kbor93, kblss93, kbshr93_i32, kbshr93_i64, kbshr93_u32, kbshr93_u64, kbshr93_u8, kcv93_2, kbsub2, guardK_u, c2, f2]
        exact hfin
  · rw [if_neg hbad] at hnum
    have hso := shl_or u (x.toNat % 128) j hj9 hu hm (fun h => by omega)
    have h127 := and127 x.toNat hx
    have h7 := u64_7 j (by omega)
    generalize hu2 : u + x.toNat % 128 * 2 ^ (7 * j) = u2 at *
    have q1 := q0
    by_cases hlast : x.toNat < 128
    · rw [if_pos hlast] at hnum
      have hu2b : u2 < 2 ^ 64 := by
        have := numD_lt r 0 0 (by omega) (by simp)
        rw [← hnum] at this
        exact this
      have hfin : ∀ wx, Qt w' wx → K (.int .i64 (uz u2)) (wx.setCell ⟨g, 1, none⟩ (.int .i64 ((a + (j + 1) : Nat) : Int))) := by
        intro wx hq
        rw [← hnum] at hK
        refine hK _ ?_ ((hq.mono (fun _ _ h => h.elim)).trans ref_chg)
        obtain ⟨A', cp', b', a', e1, e2, e3, e4, e5, e6, e7, e8⟩ := h.chg hq (fun h => h) (fun _ _ h => h)
        have e1' : wx.heap[g]? = _ := hq.heap h1 (fun h => h)
        rw [e1'] at e1
        simp only [Option.some.injEq, Obj.cells.injEq, Array.mk.injEq, List.cons.injEq, Value.slice.injEq, Value.int.injEq] at e1
        exact ⟨some ⟨bb, o, none⟩, cp, b, a + (j + 1), ref_set1 e1', reads_chg7 (h2.quiet hq) h7' (ref_chg (g := g)) (fun k hk h => h8 (by rw [hk, h])), h3, h4, by omega, by rw [hdb]; rfl, h7', h8⟩
      have hsh := half64 u2 hu2b
      have h11 := and1 u2 hu2b
      have hT : (a : Int) + ((j : Int) + 1) = ((a + (j + 1) : Nat) : Int) := by omega
      have huz : uz u2 = if u2 % 2 = 0 then ((u2 / 2 : Nat) : Int) else -((u2 / 2 : Nat) : Int) - 1 := rfl
      rw [huz] at hfin
      rcases Nat.mod_two_eq_zero_or_one u2 with hm2 | hm2
      · rw [if_pos hm2] at hfin
        rw [hm2] at h11
        by_cases j9 : j = 9
        · simp (maxSteps := 1000000) (disch := omega) only [hid1', hid2', guardK_u, takeG_u, wrap_in64, optK_some', fzK_false', nilK_ptr, brK_true', brK_false', guardK_tt', guardK_ff', guardK_tf', guardK_ft', takeG_tt', takeG_ff', takeG_tf', takeG_ft', pickK_t', pickK_f', pickT_t', pickT_f', notK, extract2_0', extract2_1', extract3_0', extract3_1', extract3_2', here_load, here_fieldAt, here_indexAt, here_extract, here_un, here_conv, here_slice, here_bin, here_nil, and_here, true_and, Nat.zero_add, Nat.add_assoc, Nat.add_zero, Int.toNat_natCast, size_alloc, World.cell?_drew, World.frozen?_drew, Bool.not_true, Bool.not_false, Int.toNat_zero, dec_t, dec_f, int_eq_t, int_eq_f, int_ne_t, int_ne_f, wrap_in, kfa79_2, kld3, kbneq3, kblss3, kfa79_1, kbadd3, kfa79_0, kld32, klen32, hlen32, kbeql3, kst3, kia32, kld5, kcv5_93, kbgtr93, kbgtr3, kbeql93, kband93, kbmul3, kcv3_74, kbshl93_i32, kbshl93_i64, kbshl93_u32, kbshl93_u64, kbshl93_u8, kbor93, kblss93, kbshr93_i32, kbshr93_i64, kbshr93_u32, kbshr93_u64, kbshr93_u8, kcv93_2, kbsub2, guardK_u, h127, h7, hso, c1, f1, hsh, h11, hT]
          exact hfin _ q0
        · by_cases j0 : j = 0
          · simp (maxSteps := 1000000) (disch := omega) only [hid1', hid2', guardK_u, takeG_u, wrap_in64, optK_some', fzK_false', nilK_ptr, brK_true', brK_false', guardK_tt', guardK_ff', guardK_tf', guardK_ft', takeG_tt', takeG_ff', takeG_tf', takeG_ft', pickK_t', pickK_f', pickT_t', pickT_f', notK, extract2_0', extract2_1', extract3_0', extract3_1', extract3_2', here_load, here_fieldAt, here_indexAt, here_extract, here_un, here_conv, here_slice, here_bin, here_nil, and_here, true_and, Nat.zero_add, Nat.add_assoc, Nat.add_zero, Int.toNat_natCast, size_alloc, World.cell?_drew, World.frozen?_drew, Bool.not_true, Bool.not_false, Int.toNat_zero, dec_t, dec_f, int_eq_t, int_eq_f, int_ne_t, int_ne_f, wrap_in, kfa79_2, kld3, kbneq3, kblss3, kfa79_1, kbadd3, kfa79_0, kld32, klen32, hlen32, kbeql3, kst3, kia32, kld5, kcv5_93, kbgtr93, kbgtr3, kbeql93, kband93, kbmul3, kcv3_74, kbshl93_i32, kbshl93_i64, kbshl93_u32, kbshl93_u64, kbshl93_u8, kbor93, kblss93, kbshr93_i32, kbshr93_i64, kbshr93_u32, kbshr93_u64, kbshr93_u8, kcv93_2, kbsub2, guardK_u, h127, h7, hso, c1, f1, hsh, h11, hT]
            exact hfin _ q0
          · have hx0 : ¬ x.toNat = 0 := fun h => hbad (.inr ⟨by omega, h⟩)
            simp (maxSteps := 1000000) (disch := omega) only [hid1', hid2', guardK_u, takeG_u, wrap_in64, optK_some', fzK_false', nilK_ptr, brK_true', brK_false', guardK_tt', guardK_ff', guardK_tf', guardK_ft', takeG_tt', takeG_ff', takeG_tf', takeG_ft', pickK_t', pickK_f', pickT_t', pickT_f', notK, extract2_0', extract2_1', extract3_0', extract3_1', extract3_2', here_load, here_fieldAt, here_indexAt, here_extract, here_un, here_conv, here_slice, here_bin, here_nil, and_here, true_and, Nat.zero_add, Nat.add_assoc, Nat.add_zero, Int.toNat_natCast, size_alloc, World.cell?_drew, World.frozen?_drew, Bool.not_true, Bool.not_false, Int.toNat_zero, dec_t, dec_f, int_eq_t, int_eq_f, int_ne_t, int_ne_f, wrap_in, kfa79_2, kld3, kbneq3, kblss3, kfa79_1, kbadd3, kfa79_0, kld32, klen32, hlen32, kbeql3, kst3, kia32, kld5, kcv5_93, kbgtr93, kbgtr3, kbeql93, kband93, kbmul3, kcv3_74, kbshl93_i32, kbshl93_i64, kbshl93_u32, kbshl93_u64, kbshl93_u8, kbor93, kblss93, kbshr93_i32, kbshr93_i64, kbshr93_u32, kbshr93_u64, kbshr93_u8, kcv93_2, kbsub2, guardK_u, h127, h7, hso, c1, f1, hsh, h11, hT]
            exact hfin _ q0
      · rw [if_neg (by omega)] at hfin
        rw [hm2] at h11
        have e1 : (0 : Int) - ((u2 / 2 : Nat) : Int) = -((u2 / 2 : Nat) : Int) := by omega
        by_cases j9 : j = 9
        · simp (maxSteps := 1000000) (disch := omega) only [hid1', hid2', guardK_u, takeG_u, wrap_in64, optK_some', fzK_false', nilK_ptr, brK_true', brK_false', guardK_tt', guardK_ff', guardK_tf', guardK_ft', takeG_tt', takeG_ff', takeG_tf', takeG_ft', pickK_t', pickK_f', pickT_t', pickT_f', notK, extract2_0', extract2_1', extract3_0', extract3_1', extract3_2', here_load, here_fieldAt, here_indexAt, here_extract, here_un, here_conv, here_slice, here_bin, here_nil, and_here, true_and, Nat.zero_add, Nat.add_assoc, Nat.add_zero, Int.toNat_natCast, size_alloc, World.cell?_drew, World.frozen?_drew, Bool.not_true, Bool.not_false, Int.toNat_zero, dec_t, dec_f, int_eq_t, int_eq_f, int_ne_t, int_ne_f, wrap_in, kfa79_2, kld3, kbneq3, kblss3, kfa79_1, kbadd3, kfa79_0, kld32, klen32, hlen32, kbeql3, kst3, kia32, kld5, kcv5_93, kbgtr93, kbgtr3, kbeql93, kband93, kbmul3, kcv3_74, kbshl93_i32, kbshl93_i64, kbshl93_u32, kbshl93_u64, kbshl93_u8, kbor93, kblss93, kbshr93_i32, kbshr93_i64, kbshr93_u32, kbshr93_u64, kbshr93_u8, kcv93_2, kbsub2, guardK_u, h127, h7, hso, c1, f1, hsh, h11, hT, e1]
          exact hfin _ q0
        · by_cases j0 : j = 0
          · simp (maxSteps := 1000000) (disch := omega) only [hid1', hid2', guardK_u, takeG_u, wrap_in64, optK_some', fzK_false', nilK_ptr, brK_true', brK_false', guardK_tt', guardK_ff', guardK_tf', guardK_ft', takeG_tt', takeG_ff', takeG_tf', takeG_ft', pickK_t', pickK_f', pickT_t', pickT_f', notK, extract2_0', extract2_1', extract3_0', extract3_1', extract3_2', here_load, here_fieldAt, here_indexAt, here_extract, here_un, here_conv, here_slice, here_bin, here_nil, and_here, true_and, Nat.zero_add, Nat.add_assoc, Nat.add_zero, Int.toNat_natCast, size_alloc, World.cell?_drew, World.frozen?_drew, Bool.not_true, Bool.not_false, Int.toNat_zero, dec_t, dec_f, int_eq_t, int_eq_f, int_ne_t, int_ne_f, wrap_in, kfa79_2, kld3, kbneq3, kblss3, kfa79_1, kbadd3, kfa79_0, kld32, klen32, hlen32, kbeql3, kst3, kia32, kld5, kcv5_93, kbgtr93, kbgtr3, kbeql93, kband93, kbmul3, kcv3_74, kbshl93_i32, kbshl93_i64, kbshl93_u32, kbshl93_u64, kbshl93_u8, kbor93, kblss93, kbshr93_i32, kbshr93_i64, kbshr93_u32, kbshr93_u64, kbshr93_u8, kcv93_2, kbsub2, guardK_u, h127, h7, hso, c1, f1, hsh, h11, hT, e1]
            exact hfin _ q0
          · have hx0 : ¬ x.toNat = 0 := fun h => hbad (.inr ⟨by omega, h⟩)
            simp (maxSteps := 1000000) (disch := omega) only [hid1', hid2', guardK_u, takeG_u, wrap_in64, optK_some', fzK_false', nilK_ptr, brK_true', brK_false', guardK_tt', guardK_ff', guardK_tf', guardK_ft', takeG_tt', takeG_ff', takeG_tf', takeG_ft', pickK_t', pickK_f', pickT_t', pickT_f', notK, extract2_0', extract2_1', extract3_0', extract3_1', extract3_2', here_load, here_fieldAt, here_indexAt, here_extract, here_un, here_conv, here_slice, here_bin, here_nil, and_here, true_and, Nat.zero_add, Nat.add_assoc, Nat.add_zero, Int.toNat_natCast, size_alloc, World.cell?_drew, World.frozen?_drew, Bool.not_true, Bool.not_false, Int.toNat_zero, dec_t, dec_f, int_eq_t, int_eq_f, int_ne_t, int_ne_f, wrap_in, kfa79_2, kld3, kbneq3, kblss3, kfa79_1, kbadd3, kfa79_0, kld32, klen32, hlen32, kbeql3, kst3, kia32, kld5, kcv5_93, kbgtr93, kbgtr3, kbeql93, kband93, kbmul3, kcv3_74, kbshl93_i32, kbshl93_i64, kbshl93_u32, kbshl93_u64, kbshl93_u8, kbor93, kblss93, kbshr93_i32, kbshr93_i64, kbshr93_u32, kbshr93_u64, kbshr93_u8, kcv93_2, kbsub2, guardK_u, h127, h7, hso, c1, f1, hsh, h11, hT, e1]
            exact hfin _ q0
    · rw [if_neg hlast] at hnum
      have hj8 : j ≤ 8 := by omega
      have hu2 : u2 < 2 ^ (7 * (j + 1)) := by
        have h2 : x.toNat % 128 * 2 ^ (7 * j) ≤ 127 * 2 ^ (7 * j) := Nat.mul_le_mul_right _ (by omega)
        have h3 : 2 ^ (7 * (j + 1)) = 128 * 2 ^ (7 * j) := by rw [show 7 * (j + 1) = 7 + 7 * j by omega, Nat.pow_add]
        rw [h3]; omega
      by_cases j0 : j = 0
      · simp (maxSteps := 1000000) (disch := omega) only [hid1', hid2', guardK_u, takeG_u, wrap_in64, optK_some', fzK_false', nilK_ptr, brK_true', brK_false', guardK_tt', guardK_ff', guardK_tf', guardK_ft', takeG_tt', takeG_ff', takeG_tf', takeG_ft', pickK_t', pickK_f', pickT_t', pickT_f', notK, extract2_0', extract2_1', extract3_0', extract3_1', extract3_2', here_load, here_fieldAt, here_indexAt, here_extract, here_un, here_conv, here_slice, here_bin, here_nil, and_here, true_and, Nat.zero_add, Nat.add_assoc, Nat.add_zero, Int.toNat_natCast, size_alloc, World.cell?_drew, World.frozen?_drew, Bool.not_true, Bool.not_false, Int.toNat_zero, dec_t, dec_f, int_eq_t, int_eq_f, int_ne_t, int_ne_f, wrap_in, kfa79_2, kld3, kbneq3, kblss3, kfa79_1, kbadd3, kfa79_0, kld32, klen32, hlen32, kbeql3, kst3, kia32, kld5, kcv5_93, kbgtr93, kbgtr3, kbeql93, kband93, kbmul3, kcv3_74, kbshl93_i32, kbshl93_i64, kbshl93_u32, kbshl93_u64, kbshl93_u8, kbor93, kblss93, kbshr93_i32, kbshr93_i64, kbshr93_u32, kbshr93_u64, kbshr93_u8, kcv93_2, kbsub2, guardK_u, h127, h7, hso]
        exact ⟨⟨hqw.trans q0, j + 1, u2, by go_num, rfl, by omega, by omega, hu2, hnum⟩, by simp [rel, intOf]; omega⟩
      · have hx0 : ¬ x.toNat = 0 := fun h => hbad (.inr ⟨by omega, h⟩)
        simp (maxSteps := 1000000) (disch := omega) only [hid1', hid2', guardK_u, takeG_u, wrap_in64, optK_some', fzK_false', nilK_ptr, brK_true', brK_false', guardK_tt', guardK_ff', guardK_tf', guardK_ft', takeG_tt', takeG_ff', takeG_tf', takeG_ft', pickK_t', pickK_f', pickT_t', pickT_f', notK, extract2_0', extract2_1', extract3_0', extract3_1', extract3_2', here_load, here_fieldAt, here_indexAt, here_extract, here_un, here_conv, here_slice, here_bin, here_nil, and_here, true_and, Nat.zero_add, Nat.add_assoc, Nat.add_zero, Int.toNat_natCast, size_alloc, World.cell?_drew, World.frozen?_drew, Bool.not_true, Bool.not_false, Int.toNat_zero, dec_t, dec_f, int_eq_t, int_eq_f, int_ne_t, int_ne_f, wrap_in, kfa79_2, kld3, kbneq3, kblss3, kfa79_1, kbadd3, kfa79_0, kld32, klen32, hlen32, kbeql3, kst3, kia32, kld5, kcv5_93, kbgtr93, kbgtr3, kbeql93, kband93, kbmul3, kcv3_74, kbshl93_i32, kbshl93_i64, kbshl93_u32, kbshl93_u64, kbshl93_u8, kbor93, kblss93, kbshr93_i32, kbshr93_i64, kbshr93_u32, kbshr93_u64, kbshr93_u8, kcv93_2, kbsub2, guardK_u, h127, h7, hso]
        exact ⟨⟨hqw.trans q0, j + 1, u2, by go_num, rfl, by omega, by omega, hu2, hnum⟩, by simp [rel, intOf]; omega⟩
end Go.Proofs.YtpdhmbbmhomlnaaDoor
