/- The reference's decoder: Text, Many, Left. Conditions: at most 100000 bytes. -/
import Derived.Test.YtpdhmbbmhomlnaaDoorV4
import Derived.Test.YtpdhmbbmhomlnaaDoorRef
set_option maxRecDepth 100000
set_option linter.unusedVariables false
set_option linter.unusedSimpArgs false
namespace Go.Proofs.YtpdhmbbmhomlnaaDoor
open Go.RowKit Go.Cn Go.Cn.Num
theorem sl_0 (A : Option Addr) (cp : Nat) (K : Value → World → Prop) (w : World) (h : K (.slice A 0 cp) w) : SliceK Tryd.prog 32 (.slice A 0 cp) (some (.int .i64 0)) (some (.int .i64 0)) none K w := by
  cases A with
  | none => unfold SliceK; go_simp; exact h
  | some ad => unfold SliceK; go_simp; exact h
theorem reads_takeA {w : World} {A : Option Addr} {l : List UInt8} (hr : Reads w A (l.map vb)) (k : Nat) : Reads w A ((l.take k).map vb) := by
  by_cases hl : 0 < l.length
  · obtain ⟨g, o, rfl, _⟩ := hr.all hl
    exact reads_take hr k
  · obtain rfl : l = [] := List.eq_nil_of_length_eq_zero (by omega)
    simp; exact .inl rfl
theorem left_ref {g : Nat} {e : Int} {r : List UInt8} {D : Option Nat} {w : World} {K : Value → World → Prop} (h : RefAt w g e r D)
    (hK : ∀ w', Qt w w' → K (.int .i64 (leftD e r)) w') : CallK Tryd.prog 38 #[.pointer (some ⟨g, 0, none⟩)] K w := by
  refine F38_calls _ _ _ ?_; unfold F38
  obtain ⟨c2, f2⟩ := ref_err h
  obtain ⟨A, cp, b, a, h1, h2, h3, h4, h5, h6, h7, h8⟩ := id h
  have c0 : w.cell? ⟨g, 0, none⟩ = some (.slice A b.length cp) := by rw [blk_cell h1]; rfl
  have c1 : w.cell? ⟨g, 1, none⟩ = some (.int .i64 a) := by rw [blk_cell h1]; rfl
  have hrl : r.length = b.length - a := by rw [h6, List.length_drop]
  unfold leftD at hK
  by_cases he : e = 0
  · rw [if_pos he] at hK
    simp (maxSteps := 1000000) (disch := omega) only [hid1', hid2', guardK_u, takeG_u, wrap_in64, optK_some', fzK_false', nilK_ptr, brK_true', brK_false', guardK_tt', guardK_ff', guardK_tf', guardK_ft', takeG_tt', takeG_ff', takeG_tf', takeG_ft', pickK_t', pickK_f', pickT_t', pickT_f', notK, extract2_0', extract2_1', extract3_0', extract3_1', extract3_2', here_load, here_fieldAt, here_indexAt, here_extract, here_un, here_conv, here_slice, here_bin, here_nil, and_here, true_and, Nat.zero_add, Nat.add_assoc, Nat.add_zero, Int.toNat_natCast, size_alloc, World.cell?_drew, World.frozen?_drew, Bool.not_true, Bool.not_false, Int.toNat_zero, dec_t, dec_f, int_eq_t, int_eq_f, int_ne_t, int_ne_f, wrap_in, kfa79_2, kld3, kbneq3, kfa79_0, kld32, klen32, hlen32, kfa79_1, kbsub3, c2]
    refine drawK_here ?_
    simp (maxSteps := 1000000) (disch := omega) only [hid1', hid2', guardK_u, takeG_u, wrap_in64, optK_some', fzK_false', nilK_ptr, brK_true', brK_false', guardK_tt', guardK_ff', guardK_tf', guardK_ft', takeG_tt', takeG_ff', takeG_tf', takeG_ft', pickK_t', pickK_f', pickT_t', pickT_f', notK, extract2_0', extract2_1', extract3_0', extract3_1', extract3_2', here_load, here_fieldAt, here_indexAt, here_extract, here_un, here_conv, here_slice, here_bin, here_nil, and_here, true_and, Nat.zero_add, Nat.add_assoc, Nat.add_zero, Int.toNat_natCast, size_alloc, World.cell?_drew, World.frozen?_drew, Bool.not_true, Bool.not_false, Int.toNat_zero, dec_t, dec_f, int_eq_t, int_eq_f, int_ne_t, int_ne_f, wrap_in, kfa79_2, kld3, kbneq3, kfa79_0, kld32, klen32, hlen32, kfa79_1, kbsub3, c0, c1]
    have e1 : ((b.length : Int) - a) = (r.length : Int) := by omega
    rw [e1]
    exact hK _ Qt.refl.drew
  · rw [if_neg he] at hK
    simp (maxSteps := 1000000) (disch := omega) only [hid1', hid2', guardK_u, takeG_u, wrap_in64, optK_some', fzK_false', nilK_ptr, brK_true', brK_false', guardK_tt', guardK_ff', guardK_tf', guardK_ft', takeG_tt', takeG_ff', takeG_tf', takeG_ft', pickK_t', pickK_f', pickT_t', pickT_f', notK, extract2_0', extract2_1', extract3_0', extract3_1', extract3_2', here_load, here_fieldAt, here_indexAt, here_extract, here_un, here_conv, here_slice, here_bin, here_nil, and_here, true_and, Nat.zero_add, Nat.add_assoc, Nat.add_zero, Int.toNat_natCast, size_alloc, World.cell?_drew, World.frozen?_drew, Bool.not_true, Bool.not_false, Int.toNat_zero, dec_t, dec_f, int_eq_t, int_eq_f, int_ne_t, int_ne_f, wrap_in, kfa79_2, kld3, kbneq3, kfa79_0, kld32, klen32, hlen32, kfa79_1, kbsub3, c2]
    exact hK _ Qt.refl
theorem text_ref {g : Nat} {e : Int} {r : List UInt8} {D : Option Nat} {w : World} {K : Value → World → Prop} (h : RefAt w g e r D)
    (hK : ∀ w', RefAt w' g (textD e r).2.1 (textD e r).2.2 D → Chg (fun k => k = g) w w' → K (.string (txt (textD e r).1)) w') : CallK Tryd.prog 37 #[.pointer (some ⟨g, 0, none⟩)] K w := by
  refine F37_calls _ _ _ ?_; unfold F37
  refine ck36 (int_ref h ?_)
  intro w2 h2 hc2
  unfold textD at hK
  generalize intD e r = q at *
  obtain ⟨n, e1, r1⟩ := q
  simp only at h2 hK ⊢
  obtain ⟨c2, f2⟩ := ref_err h2
  by_cases he : ¬ e1 = 0
  · rw [if_pos he] at hK
    simp (maxSteps := 1000000) (disch := omega) only [hid1', hid2', guardK_u, takeG_u, wrap_in64, optK_some', fzK_false', nilK_ptr, brK_true', brK_false', guardK_tt', guardK_ff', guardK_tf', guardK_ft', takeG_tt', takeG_ff', takeG_tf', takeG_ft', pickK_t', pickK_f', pickT_t', pickT_f', notK, extract2_0', extract2_1', extract3_0', extract3_1', extract3_2', here_load, here_fieldAt, here_indexAt, here_extract, here_un, here_conv, here_slice, here_bin, here_nil, and_here, true_and, Nat.zero_add, Nat.add_assoc, Nat.add_zero, Int.toNat_natCast, size_alloc, World.cell?_drew, World.frozen?_drew, Bool.not_true, Bool.not_false, Int.toNat_zero, dec_t, dec_f, int_eq_t, int_eq_f, int_ne_t, int_ne_f, wrap_in, kfa79_2, kld3, kbneq3, kblss2, kst3, kfa79_0, kld32, klen32, hlen32, kfa79_1, kbsub3, kbgtr2, kbadd3, ksl32_110, c2]
    exact hK w2 h2 hc2
  rw [if_neg he] at hK
  replace he : e1 = 0 := Decidable.not_not.1 he
  subst he
  by_cases hn : n < 0
  · rw [if_pos hn] at hK
    simp (maxSteps := 1000000) (disch := omega) only [hid1', hid2', guardK_u, takeG_u, wrap_in64, optK_some', fzK_false', nilK_ptr, brK_true', brK_false', guardK_tt', guardK_ff', guardK_tf', guardK_ft', takeG_tt', takeG_ff', takeG_tf', takeG_ft', pickK_t', pickK_f', pickT_t', pickT_f', notK, extract2_0', extract2_1', extract3_0', extract3_1', extract3_2', here_load, here_fieldAt, here_indexAt, here_extract, here_un, here_conv, here_slice, here_bin, here_nil, and_here, true_and, Nat.zero_add, Nat.add_assoc, Nat.add_zero, Int.toNat_natCast, size_alloc, World.cell?_drew, World.frozen?_drew, Bool.not_true, Bool.not_false, Int.toNat_zero, dec_t, dec_f, int_eq_t, int_eq_f, int_ne_t, int_ne_f, wrap_in, kfa79_2, kld3, kbneq3, kblss2, kst3, kfa79_0, kld32, klen32, hlen32, kfa79_1, kbsub3, kbgtr2, kbadd3, ksl32_110, c2, f2]
    exact hK _ (ref_bad h2) (hc2.trans ref_chg)
  rw [if_neg hn] at hK
  obtain ⟨A, cp, b, a, h1, hr, h3, h4, h5, h6, h7, h8⟩ := id h2
  have c0 : w2.cell? ⟨g, 0, none⟩ = some (.slice A b.length cp) := by rw [blk_cell h1]; rfl
  have c1 : w2.cell? ⟨g, 1, none⟩ = some (.int .i64 a) := by rw [blk_cell h1]; rfl
  have f1 : w2.frozen? ⟨g, 1, none⟩ = false := blk_frozen h1 1
  have hrl : r1.length = b.length - a := by rw [h6, List.length_drop]
  simp (maxSteps := 1000000) (disch := omega) only [hid1', hid2', guardK_u, takeG_u, wrap_in64, optK_some', fzK_false', nilK_ptr, brK_true', brK_false', guardK_tt', guardK_ff', guardK_tf', guardK_ft', takeG_tt', takeG_ff', takeG_tf', takeG_ft', pickK_t', pickK_f', pickT_t', pickT_f', notK, extract2_0', extract2_1', extract3_0', extract3_1', extract3_2', here_load, here_fieldAt, here_indexAt, here_extract, here_un, here_conv, here_slice, here_bin, here_nil, and_here, true_and, Nat.zero_add, Nat.add_assoc, Nat.add_zero, Int.toNat_natCast, size_alloc, World.cell?_drew, World.frozen?_drew, Bool.not_true, Bool.not_false, Int.toNat_zero, dec_t, dec_f, int_eq_t, int_eq_f, int_ne_t, int_ne_f, wrap_in, kfa79_2, kld3, kbneq3, kblss2, kst3, kfa79_0, kld32, klen32, hlen32, kfa79_1, kbsub3, kbgtr2, kbadd3, ksl32_110, c2]
  refine drawK_here ?_
  simp (maxSteps := 1000000) (disch := omega) only [hid1', hid2', guardK_u, takeG_u, wrap_in64, optK_some', fzK_false', nilK_ptr, brK_true', brK_false', guardK_tt', guardK_ff', guardK_tf', guardK_ft', takeG_tt', takeG_ff', takeG_tf', takeG_ft', pickK_t', pickK_f', pickT_t', pickT_f', notK, extract2_0', extract2_1', extract3_0', extract3_1', extract3_2', here_load, here_fieldAt, here_indexAt, here_extract, here_un, here_conv, here_slice, here_bin, here_nil, and_here, true_and, Nat.zero_add, Nat.add_assoc, Nat.add_zero, Int.toNat_natCast, size_alloc, World.cell?_drew, World.frozen?_drew, Bool.not_true, Bool.not_false, Int.toNat_zero, dec_t, dec_f, int_eq_t, int_eq_f, int_ne_t, int_ne_f, wrap_in, kfa79_2, kld3, kbneq3, kblss2, kst3, kfa79_0, kld32, klen32, hlen32, kfa79_1, kbsub3, kbgtr2, kbadd3, ksl32_110, c0, c1]
  by_cases hbig : (r1.length : Int) < n
  · rw [if_pos hbig] at hK
    simp (maxSteps := 1000000) (disch := omega) only [hid1', hid2', guardK_u, takeG_u, wrap_in64, optK_some', fzK_false', nilK_ptr, brK_true', brK_false', guardK_tt', guardK_ff', guardK_tf', guardK_ft', takeG_tt', takeG_ff', takeG_tf', takeG_ft', pickK_t', pickK_f', pickT_t', pickT_f', notK, extract2_0', extract2_1', extract3_0', extract3_1', extract3_2', here_load, here_fieldAt, here_indexAt, here_extract, here_un, here_conv, here_slice, here_bin, here_nil, and_here, true_and, Nat.zero_add, Nat.add_assoc, Nat.add_zero, Int.toNat_natCast, size_alloc, World.cell?_drew, World.frozen?_drew, Bool.not_true, Bool.not_false, Int.toNat_zero, dec_t, dec_f, int_eq_t, int_eq_f, int_ne_t, int_ne_f, wrap_in, kfa79_2, kld3, kbneq3, kblss2, kst3, kfa79_0, kld32, klen32, hlen32, kfa79_1, kbsub3, kbgtr2, kbadd3, ksl32_110, c2, f2]
    refine hK _ (ref_bad (h2.chg Qt.refl.drew (fun h => h) (fun _ _ h => h))) (hc2.trans ?_)
    exact (Qt.refl.drew.mono (fun _ _ h => h.elim)).trans ref_chg
  rw [if_neg hbig] at hK
  simp (maxSteps := 1000000) (disch := omega) only [hid1', hid2', guardK_u, takeG_u, wrap_in64, optK_some', fzK_false', nilK_ptr, brK_true', brK_false', guardK_tt', guardK_ff', guardK_tf', guardK_ft', takeG_tt', takeG_ff', takeG_tf', takeG_ft', pickK_t', pickK_f', pickT_t', pickT_f', notK, extract2_0', extract2_1', extract3_0', extract3_1', extract3_2', here_load, here_fieldAt, here_indexAt, here_extract, here_un, here_conv, here_slice, here_bin, here_nil, and_here, true_and, Nat.zero_add, Nat.add_assoc, Nat.add_zero, Int.toNat_natCast, size_alloc, World.cell?_drew, World.frozen?_drew, Bool.not_true, Bool.not_false, Int.toNat_zero, dec_t, dec_f, int_eq_t, int_eq_f, int_ne_t, int_ne_f, wrap_in, kfa79_2, kld3, kbneq3, kblss2, kst3, kfa79_0, kld32, klen32, hlen32, kfa79_1, kbsub3, kbgtr2, kbadd3, ksl32_110]
  refine drawK_here ?_
  simp (maxSteps := 1000000) (disch := omega) only [hid1', hid2', guardK_u, takeG_u, wrap_in64, optK_some', fzK_false', nilK_ptr, brK_true', brK_false', guardK_tt', guardK_ff', guardK_tf', guardK_ft', takeG_tt', takeG_ff', takeG_tf', takeG_ft', pickK_t', pickK_f', pickT_t', pickT_f', notK, extract2_0', extract2_1', extract3_0', extract3_1', extract3_2', here_load, here_fieldAt, here_indexAt, here_extract, here_un, here_conv, here_slice, here_bin, here_nil, and_here, true_and, Nat.zero_add, Nat.add_assoc, Nat.add_zero, Int.toNat_natCast, size_alloc, World.cell?_drew, World.frozen?_drew, Bool.not_true, Bool.not_false, Int.toNat_zero, dec_t, dec_f, int_eq_t, int_eq_f, int_ne_t, int_ne_f, wrap_in, kfa79_2, kld3, kbneq3, kblss2, kst3, kfa79_0, kld32, klen32, hlen32, kfa79_1, kbsub3, kbgtr2, kbadd3, ksl32_110, c0, c1]
  obtain ⟨k, rfl⟩ := Int.eq_ofNat_of_zero_le (show 0 ≤ n by omega)
  rw [Int.toNat_natCast] at hK
  have hT : (a : Int) + (k : Int) = ((a + k : Nat) : Int) := by omega
  have q0 : Qt w2 w2.drew.drew := Qt.refl.drew.drew
  have hk : k ≤ r1.length := by omega
  have hfin : ∀ wx, Qt w2 wx → K (.string (txt (r1.take k))) (wx.setCell ⟨g, 1, none⟩ (.int .i64 ((a + k : Nat) : Int))) := by
    intro wx hq
    refine hK _ ?_ (hc2.trans ((hq.mono (fun _ _ h => h.elim)).trans ref_chg))
    have e1' : wx.heap[g]? = _ := hq.heap h1 (fun h => h)
    exact ⟨A, cp, b, a + k, ref_set1 e1', reads_chg7 (hr.quiet hq) h7 (ref_chg (g := g)) (fun k hk h => h8 (by rw [hk, h])), h3, h4, by omega, by rw [h6, List.drop_drop], h7, h8⟩
  rw [hT]
  by_cases hb : b.length = 0
  · obtain rfl : b = [] := List.eq_nil_of_length_eq_zero hb
    obtain rfl : a = 0 := by omega
    obtain rfl : k = 0 := by omega
    have hsl := sl_0 A cp
    simp only [List.length_nil, Nat.add_zero, Int.ofNat_zero, Nat.zero_add] at hfin ⊢
    rw [show ((0 : Nat) : Int) = 0 from rfl] at c1
    have ht0 : r1.take 0 = [] := rfl
    rw [ht0] at hfin
    have e00 : (0 : Int) + 0 = 0 := rfl
    refine hsl _ _ ?_
    simp (maxSteps := 1000000) (disch := omega) only [hid1', hid2', guardK_u, takeG_u, wrap_in64, optK_some', fzK_false', nilK_ptr, brK_true', brK_false', guardK_tt', guardK_ff', guardK_tf', guardK_ft', takeG_tt', takeG_ff', takeG_tf', takeG_ft', pickK_t', pickK_f', pickT_t', pickT_f', notK, extract2_0', extract2_1', extract3_0', extract3_1', extract3_2', here_load, here_fieldAt, here_indexAt, here_extract, here_un, here_conv, here_slice, here_bin, here_nil, and_here, true_and, Nat.zero_add, Nat.add_assoc, Nat.add_zero, Int.toNat_natCast, size_alloc, World.cell?_drew, World.frozen?_drew, Bool.not_true, Bool.not_false, Int.toNat_zero, dec_t, dec_f, int_eq_t, int_eq_f, int_ne_t, int_ne_f, wrap_in, kfa79_2, kld3, kbneq3, kblss2, kst3, kfa79_0, kld32, klen32, hlen32, kfa79_1, kbsub3, kbgtr2, kbadd3, ksl32_110]
    refine convK (l := []) Tryd.underlying32 Tryd.underlying5 Tryd.underlying9 (.inl rfl) ?_
    simp (maxSteps := 1000000) (disch := omega) only [hid1', hid2', guardK_u, takeG_u, wrap_in64, optK_some', fzK_false', nilK_ptr, brK_true', brK_false', guardK_tt', guardK_ff', guardK_tf', guardK_ft', takeG_tt', takeG_ff', takeG_tf', takeG_ft', pickK_t', pickK_f', pickT_t', pickT_f', notK, extract2_0', extract2_1', extract3_0', extract3_1', extract3_2', here_load, here_fieldAt, here_indexAt, here_extract, here_un, here_conv, here_slice, here_bin, here_nil, and_here, true_and, Nat.zero_add, Nat.add_assoc, Nat.add_zero, Int.toNat_natCast, size_alloc, World.cell?_drew, World.frozen?_drew, Bool.not_true, Bool.not_false, Int.toNat_zero, dec_t, dec_f, int_eq_t, int_eq_f, int_ne_t, int_ne_f, wrap_in, kfa79_2, kld3, kbneq3, kblss2, kst3, kfa79_0, kld32, klen32, hlen32, kfa79_1, kbsub3, kbgtr2, kbadd3, ksl32_110, c1, f1, e00]
    exact hfin _ q0
  · obtain ⟨bb, o, rfl, _⟩ := hr.all (by omega)
    have hrd := reads_takeA (reads_drop (n := 0) (hr.quiet q0) h4 a h5) k
    rw [← h6] at hrd
    have hlen : (r1.take k).length = k := by simp; omega
    have hsub : a + k - a = k := by omega
    simp (maxSteps := 1000000) (disch := omega) only [hid1', hid2', guardK_u, takeG_u, wrap_in64, optK_some', fzK_false', nilK_ptr, brK_true', brK_false', guardK_tt', guardK_ff', guardK_tf', guardK_ft', takeG_tt', takeG_ff', takeG_tf', takeG_ft', pickK_t', pickK_f', pickT_t', pickT_f', notK, extract2_0', extract2_1', extract3_0', extract3_1', extract3_2', here_load, here_fieldAt, here_indexAt, here_extract, here_un, here_conv, here_slice, here_bin, here_nil, and_here, true_and, Nat.zero_add, Nat.add_assoc, Nat.add_zero, Int.toNat_natCast, size_alloc, World.cell?_drew, World.frozen?_drew, Bool.not_true, Bool.not_false, Int.toNat_zero, dec_t, dec_f, int_eq_t, int_eq_f, int_ne_t, int_ne_f, wrap_in, kfa79_2, kld3, kbneq3, kblss2, kst3, kfa79_0, kld32, klen32, hlen32, kfa79_1, kbsub3, kbgtr2, kbadd3, ksl32_110, hsub]
    refine convK_len hlen.symm Tryd.underlying32 Tryd.underlying5 Tryd.underlying9 hrd ?_
    simp (maxSteps := 1000000) (disch := omega) only [hid1', hid2', guardK_u, takeG_u, wrap_in64, optK_some', fzK_false', nilK_ptr, brK_true', brK_false', guardK_tt', guardK_ff', guardK_tf', guardK_ft', takeG_tt', takeG_ff', takeG_tf', takeG_ft', pickK_t', pickK_f', pickT_t', pickT_f', notK, extract2_0', extract2_1', extract3_0', extract3_1', extract3_2', here_load, here_fieldAt, here_indexAt, here_extract, here_un, here_conv, here_slice, here_bin, here_nil, and_here, true_and, Nat.zero_add, Nat.add_assoc, Nat.add_zero, Int.toNat_natCast, size_alloc, World.cell?_drew, World.frozen?_drew, Bool.not_true, Bool.not_false, Int.toNat_zero, dec_t, dec_f, int_eq_t, int_eq_f, int_ne_t, int_ne_f, wrap_in, kfa79_2, kld3, kbneq3, kblss2, kst3, kfa79_0, kld32, klen32, hlen32, kfa79_1, kbsub3, kbgtr2, kbadd3, ksl32_110, c1, f1, hT]
    exact hfin _ q0
end Go.Proofs.YtpdhmbbmhomlnaaDoor
