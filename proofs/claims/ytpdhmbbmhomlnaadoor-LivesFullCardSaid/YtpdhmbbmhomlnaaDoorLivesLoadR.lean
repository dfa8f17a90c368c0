/- The document's LoadLives. Conditions: at most 20000 bytes. -/
import Derived.Test.YtpdhmbbmhomlnaaDoorLivesLoad
import Derived.Test.YtpdhmbbmhomlnaaDoorRef2
import Derived.Test.YtpdhmbbmhomlnaaDoorOpen2
set_option linter.unusedVariables false
set_option linter.unusedSimpArgs false
set_option maxRecDepth 100000
namespace Go.Proofs.YtpdhmbbmhomlnaaDoor
open Go.RowKit Go.Cn Go.Cn.Num
theorem intD_bad (e : Int) (r : List UInt8) (h : (intD e r).2.1 ≠ 0) : (intD e r).1 = 0 := by
  unfold intD at *
  by_cases h1 : e = 0
  · rw [if_pos h1] at h ⊢
    by_cases h2 : (numD 0 0 r).1 = 0
    · rw [if_pos h2] at h; exact absurd rfl h
    · rw [if_neg h2]
  · rw [if_neg h1]
theorem ref_new {w : World} {A : Option Addr} {c : Nat} {b : List UInt8} (hr : Reads w A (b.map vb)) (hl : b.length ≤ 100000) (hc : b.length ≤ c) :
    ∃ D, (∀ k, D = some k → k < w.heap.size) ∧ RefAt (w.alloc (.cells #[.slice A b.length c, .int .i64 0, .int .i64 0] 79)) w.heap.size 0 b D := by
  have q2 : Qt w (w.alloc (.cells #[.slice A b.length c, .int .i64 0, .int .i64 0] 79)) := Chg.alloc Qt.refl _
  by_cases hb : 0 < b.length
  · obtain ⟨g, o, rfl, hcell⟩ := hr.all hb
    have hlt := World.block_lt_of_cell? w _ (hcell 0 hb)
    refine ⟨some g, fun k hk => (by cases hk; exact hlt), _, _, b, 0, blk_new _ _, hr.quiet q2, by omega, hc, by omega, rfl, fun ad e _ => (by cases e; rfl), fun e => ?_⟩
    injection e with e
    have hlt' : g < w.heap.size := hlt
    omega
  · obtain rfl : b = [] := List.eq_nil_of_length_eq_zero (by omega)
    exact ⟨none, fun k hk => (by cases hk), _, _, [], 0, blk_new _ _, .inl rfl, by simp, by simp, by simp, rfl, fun _ _ h => absurd rfl h, fun h => (by cases h)⟩
theorem ref_lt {w : World} {g : Nat} {e : Int} {r : List UInt8} {D : Option Nat} (h : RefAt w g e r D) : g < w.heap.size := by
  obtain ⟨A, cp, b, a, h1, _⟩ := h
  exact blk_lt h1
set_option maxHeartbeats 2000000 in
theorem loadR_any {w : World} {A : Option Addr} {c : Nat} {b : List UInt8} {K : Value → World → Prop} (hr : Reads w A (b.map vb)) (hl : b.length ≤ 20000) (hc : b.length ≤ c)
    (h0 : (loadM b).1 ≠ 0 → ∀ w', Qt w w' → K (.tuple #[.slice none 0 0, .int .i64 (loadM b).1]) w')
    (hK : (loadM b).1 = 0 → ∀ A' c' w', Reads w' A' ((loadM b).2.flatMap SI.cell2) → Qt w w' → K (.tuple #[.slice A' (loadM b).2.length c', .int .i64 0]) w') :
    CallK Tryd.prog 17 #[.slice A b.length c] K w := by
  refine F17_calls _ _ _ ?_; unfold F17
  refine ck35 (openR2_any hr (by omega) hc ?_)
  intro A1 n1 c1 w1 hn1 hc1 r1 q1
  subst hn1
  unfold loadM at h0 hK
  have hol : (openL b).2.length ≤ b.length := by
    unfold openL
    split
    · simp
    · split
      · simp
      · simp
  generalize openL b = o at *
  obtain ⟨oe, ob⟩ := o
  simp only at r1 h0 hK hol hc1 ⊢
  by_cases he : oe ≠ 0
  · rw [if_pos he] at h0
    simp (maxSteps := 1000000) (disch := omega) only [hid1', hid2', guardK_u, takeG_u, wrap_in64, optK_some', fzK_false', nilK_ptr, brK_true', brK_false', guardK_tt', guardK_ff', guardK_tf', guardK_ft', takeG_tt', takeG_ff', takeG_tf', takeG_ft', pickK_t', pickK_f', pickT_t', pickT_f', notK, extract2_0', extract2_1', extract3_0', extract3_1', extract3_2', here_load, here_fieldAt, here_indexAt, here_extract, here_un, here_conv, here_slice, here_bin, here_nil, and_here, true_and, Nat.zero_add, Nat.add_assoc, Nat.add_zero, Int.toNat_natCast, size_alloc, World.cell?_drew, World.frozen?_drew, Bool.not_true, Bool.not_false, Int.toNat_zero, dec_t, dec_f, int_eq_t, int_eq_f, int_ne_t, int_ne_f, wrap_in, kbgtr3, kblss3, kld9, kbneq3, kbeql3, kbadd3, klen26, hlen26, kia26, kfa39_0, kfa39_1, kld2, kal39, kst39f, kbadd2, kst2, kld39, kbs26_1_0, kbd79_0, kbx79, kfa79_2, kld3, kblss2, kbgtr2, kbd39_0, kbsub3, kbgeq9]
    exact h0 he w1 q1
  obtain rfl : oe = 0 := by omega
  rw [if_neg (by simp)] at h0 hK
  simp (maxSteps := 1000000) (disch := omega) only [hid1', hid2', guardK_u, takeG_u, wrap_in64, optK_some', fzK_false', nilK_ptr, brK_true', brK_false', guardK_tt', guardK_ff', guardK_tf', guardK_ft', takeG_tt', takeG_ff', takeG_tf', takeG_ft', pickK_t', pickK_f', pickT_t', pickT_f', notK, extract2_0', extract2_1', extract3_0', extract3_1', extract3_2', here_load, here_fieldAt, here_indexAt, here_extract, here_un, here_conv, here_slice, here_bin, here_nil, and_here, true_and, Nat.zero_add, Nat.add_assoc, Nat.add_zero, Int.toNat_natCast, size_alloc, World.cell?_drew, World.frozen?_drew, Bool.not_true, Bool.not_false, Int.toNat_zero, dec_t, dec_f, int_eq_t, int_eq_f, int_ne_t, int_ne_f, wrap_in, kbgtr3, kblss3, kld9, kbneq3, kbeql3, kbadd3, klen26, hlen26, kia26, kfa39_0, kfa39_1, kld2, kal39, kst39f, kbadd2, kst2, kld39, kbs26_1_0, kbd79_0, kbx79, kfa79_2, kld3, kblss2, kbgtr2, kbd39_0, kbsub3, kbgeq9]
  obtain ⟨D, hD, f2⟩ := ref_new r1 (by omega) hc1
  have q2 : Qt w (w1.alloc (.cells #[.slice A1 ob.length c1, .int .i64 0, .int .i64 0] 79)) := q1.trans (Chg.alloc Qt.refl _)
  have hs1 := q1.size
  generalize (w1.alloc (.cells #[.slice A1 ob.length c1, .int .i64 0, .int .i64 0] 79)) = w2 at *
  have hgd := ref_lt f2
  generalize w1.heap.size = gd at *
  refine ck36 (int_ref f2 ?_)
  intro w3 f3 k3
  have q3 : Qt w w3 := q2.then k3 (fun k hk => by omega)
  obtain ⟨cc3, ff3⟩ := ref_err f3
  have hle := intD_len 0 ob
  have hnb := intD_bounds 0 ob
  have hbad := intD_bad 0 ob
  unfold readM at h0 hK
  generalize intD 0 ob = q at *
  obtain ⟨n, e1, rr⟩ := q
  simp only at f3 hle hnb h0 hK hbad cc3
  have hs3 := k3.size
  have hDn : ∀ k, D = some k → ¬ w2.heap.size ≤ k := fun k hk => by have := hD k hk; omega
  by_cases he : e1 ≠ 0
  · obtain rfl := hbad he
    rw [if_pos he] at h0
    clear hK
    simp (maxSteps := 1000000) (disch := omega) only [hid1', hid2', guardK_u, takeG_u, wrap_in64, optK_some', fzK_false', nilK_ptr, brK_true', brK_false', guardK_tt', guardK_ff', guardK_tf', guardK_ft', takeG_tt', takeG_ff', takeG_tf', takeG_ft', pickK_t', pickK_f', pickT_t', pickT_f', notK, extract2_0', extract2_1', extract3_0', extract3_1', extract3_2', here_load, here_fieldAt, here_indexAt, here_extract, here_un, here_conv, here_slice, here_bin, here_nil, and_here, true_and, Nat.zero_add, Nat.add_assoc, Nat.add_zero, Int.toNat_natCast, size_alloc, World.cell?_drew, World.frozen?_drew, Bool.not_true, Bool.not_false, Int.toNat_zero, dec_t, dec_f, int_eq_t, int_eq_f, int_ne_t, int_ne_f, wrap_in, kbgtr3, kblss3, kld9, kbneq3, kbeql3, kbadd3, klen26, hlen26, kia26, kfa39_0, kfa39_1, kld2, kal39, kst39f, kbadd2, kst2, kld39, kbs26_1_0, kbd79_0, kbx79, kfa79_2, kld3, kblss2, kbgtr2, kbd39_0, kbsub3, kbgeq9, cc3, guardK_u]
    refine loopK2 (fun v i w' => v = .slice none 0 0 ∧ i = .int .i64 0 ∧ w' = w3) (fun _ _ _ => 0) ⟨rfl, rfl, rfl⟩ ?_
    rintro _ _ _ w4 ⟨rfl, rfl, hw⟩
    obtain rfl : w4 = w3 := hw
    simp (maxSteps := 1000000) (disch := omega) only [hid1', hid2', guardK_u, takeG_u, wrap_in64, optK_some', fzK_false', nilK_ptr, brK_true', brK_false', guardK_tt', guardK_ff', guardK_tf', guardK_ft', takeG_tt', takeG_ff', takeG_tf', takeG_ft', pickK_t', pickK_f', pickT_t', pickT_f', notK, extract2_0', extract2_1', extract3_0', extract3_1', extract3_2', here_load, here_fieldAt, here_indexAt, here_extract, here_un, here_conv, here_slice, here_bin, here_nil, and_here, true_and, Nat.zero_add, Nat.add_assoc, Nat.add_zero, Int.toNat_natCast, size_alloc, World.cell?_drew, World.frozen?_drew, Bool.not_true, Bool.not_false, Int.toNat_zero, dec_t, dec_f, int_eq_t, int_eq_f, int_ne_t, int_ne_f, wrap_in, kbgtr3, kblss3, kld9, kbneq3, kbeql3, kbadd3, klen26, hlen26, kia26, kfa39_0, kfa39_1, kld2, kal39, kst39f, kbadd2, kst2, kld39, kbs26_1_0, kbd79_0, kbx79, kfa79_2, kld3, kblss2, kbgtr2, kbd39_0, kbsub3, kbgeq9, cc3]
    refine drawK_here ?_
    simp (maxSteps := 1000000) (disch := omega) only [hid1', hid2', guardK_u, takeG_u, wrap_in64, optK_some', fzK_false', nilK_ptr, brK_true', brK_false', guardK_tt', guardK_ff', guardK_tf', guardK_ft', takeG_tt', takeG_ff', takeG_tf', takeG_ft', pickK_t', pickK_f', pickT_t', pickT_f', notK, extract2_0', extract2_1', extract3_0', extract3_1', extract3_2', here_load, here_fieldAt, here_indexAt, here_extract, here_un, here_conv, here_slice, here_bin, here_nil, and_here, true_and, Nat.zero_add, Nat.add_assoc, Nat.add_zero, Int.toNat_natCast, size_alloc, World.cell?_drew, World.frozen?_drew, Bool.not_true, Bool.not_false, Int.toNat_zero, dec_t, dec_f, int_eq_t, int_eq_f, int_ne_t, int_ne_f, wrap_in, kbgtr3, kblss3, kld9, kbneq3, kbeql3, kbadd3, klen26, hlen26, kia26, kfa39_0, kfa39_1, kld2, kal39, kst39f, kbadd2, kst2, kld39, kbs26_1_0, kbd79_0, kbx79, kfa79_2, kld3, kblss2, kbgtr2, kbd39_0, kbsub3, kbgeq9, cc3]
    exact h0 he _ (q3.drew)
  obtain rfl : e1 = 0 := by omega
  rw [if_neg (by simp)] at h0 hK
  by_cases h256 : 256 < n
  · rw [if_pos h256] at h0
    simp (maxSteps := 1000000) (disch := omega) only [hid1', hid2', guardK_u, takeG_u, wrap_in64, optK_some', fzK_false', nilK_ptr, brK_true', brK_false', guardK_tt', guardK_ff', guardK_tf', guardK_ft', takeG_tt', takeG_ff', takeG_tf', takeG_ft', pickK_t', pickK_f', pickT_t', pickT_f', notK, extract2_0', extract2_1', extract3_0', extract3_1', extract3_2', here_load, here_fieldAt, here_indexAt, here_extract, here_un, here_conv, here_slice, here_bin, here_nil, and_here, true_and, Nat.zero_add, Nat.add_assoc, Nat.add_zero, Int.toNat_natCast, size_alloc, World.cell?_drew, World.frozen?_drew, Bool.not_true, Bool.not_false, Int.toNat_zero, dec_t, dec_f, int_eq_t, int_eq_f, int_ne_t, int_ne_f, wrap_in, kbgtr3, kblss3, kld9, kbneq3, kbeql3, kbadd3, klen26, hlen26, kia26, kfa39_0, kfa39_1, kld2, kal39, kst39f, kbadd2, kst2, kld39, kbs26_1_0, kbd79_0, kbx79, kfa79_2, kld3, kblss2, kbgtr2, kbd39_0, kbsub3, kbgeq9, cc3, guardK_u]
    exact h0 (by simp) w3 q3
  rw [if_neg h256] at h0 hK
  by_cases hneg : n < 0
  · rw [if_pos hneg] at h0
    simp (maxSteps := 1000000) (disch := omega) only [hid1', hid2', guardK_u, takeG_u, wrap_in64, optK_some', fzK_false', nilK_ptr, brK_true', brK_false', guardK_tt', guardK_ff', guardK_tf', guardK_ft', takeG_tt', takeG_ff', takeG_tf', takeG_ft', pickK_t', pickK_f', pickT_t', pickT_f', notK, extract2_0', extract2_1', extract3_0', extract3_1', extract3_2', here_load, here_fieldAt, here_indexAt, here_extract, here_un, here_conv, here_slice, here_bin, here_nil, and_here, true_and, Nat.zero_add, Nat.add_assoc, Nat.add_zero, Int.toNat_natCast, size_alloc, World.cell?_drew, World.frozen?_drew, Bool.not_true, Bool.not_false, Int.toNat_zero, dec_t, dec_f, int_eq_t, int_eq_f, int_ne_t, int_ne_f, wrap_in, kbgtr3, kblss3, kld9, kbneq3, kbeql3, kbadd3, klen26, hlen26, kia26, kfa39_0, kfa39_1, kld2, kal39, kst39f, kbadd2, kst2, kld39, kbs26_1_0, kbd79_0, kbx79, kfa79_2, kld3, kblss2, kbgtr2, kbd39_0, kbsub3, kbgeq9, cc3, guardK_u]
    exact h0 (by simp) w3 q3
  rw [if_neg hneg] at h0 hK
  obtain ⟨N, rfl⟩ : ∃ N : Nat, n = (N : Int) := ⟨n.toNat, by omega⟩
  rw [Int.toNat_natCast] at h0 hK
  simp (maxSteps := 1000000) (disch := omega) only [hid1', hid2', guardK_u, takeG_u, wrap_in64, optK_some', fzK_false', nilK_ptr, brK_true', brK_false', guardK_tt', guardK_ff', guardK_tf', guardK_ft', takeG_tt', takeG_ff', takeG_tf', takeG_ft', pickK_t', pickK_f', pickT_t', pickT_f', notK, extract2_0', extract2_1', extract3_0', extract3_1', extract3_2', here_load, here_fieldAt, here_indexAt, here_extract, here_un, here_conv, here_slice, here_bin, here_nil, and_here, true_and, Nat.zero_add, Nat.add_assoc, Nat.add_zero, Int.toNat_natCast, size_alloc, World.cell?_drew, World.frozen?_drew, Bool.not_true, Bool.not_false, Int.toNat_zero, dec_t, dec_f, int_eq_t, int_eq_f, int_ne_t, int_ne_f, wrap_in, kbgtr3, kblss3, kld9, kbneq3, kbeql3, kbadd3, klen26, hlen26, kia26, kfa39_0, kfa39_1, kld2, kal39, kst39f, kbadd2, kst2, kld39, kbs26_1_0, kbd79_0, kbx79, kfa79_2, kld3, kblss2, kbgtr2, kbd39_0, kbsub3, kbgeq9, cc3, guardK_u]
  refine loopK2 (fun v i w' => ∃ (j : Nat) (F : Option Nat), i = .int .i64 (j : Int) ∧ j ≤ N ∧ Own w' 39 2 v j ((rowsD j 0 rr).1.flatMap SI.cell2) F ∧ (∀ k, F = some k → w2.heap.size ≤ k) ∧ RefAt w' gd (rowsD j 0 rr).2.1 (rowsD j 0 rr).2.2 D ∧ Chg (fun k => k = gd) w2 w') (fun _ i _ => N - (intOf i).toNat) ⟨0, none, rfl, by omega, Own.nil _ _ _, fun _ h => (by cases h), f3, k3⟩ ?_
  rintro v _ _ w4 ⟨j, F, rfl, hj, o4, hF, f4, k4⟩
  have hrl := rowsD_le j 0 rr
  have hzl := rowsD_len j 0 rr
  obtain ⟨A4, p4, rfl, hp1, hp2⟩ := o4.shape
  by_cases hlt : j < N
  · have hsucc : rowsD (j + 1) 0 rr = ((rowsD j 0 rr).1 ++ [(txt (textD (rowsD j 0 rr).2.1 (rowsD j 0 rr).2.2).1, (intD (textD (rowsD j 0 rr).2.1 (rowsD j 0 rr).2.2).2.1 (textD (rowsD j 0 rr).2.1 (rowsD j 0 rr).2.2).2.2).1)],
      (intD (textD (rowsD j 0 rr).2.1 (rowsD j 0 rr).2.2).2.1 (textD (rowsD j 0 rr).2.1 (rowsD j 0 rr).2.2).2.2).2) := by rw [rowsD]
    generalize rowsD j 0 rr = z at *
    obtain ⟨zl, ze, zr⟩ := z
    simp only at o4 f4 hrl hzl hsucc
    simp (maxSteps := 1000000) (disch := omega) only [hid1', hid2', guardK_u, takeG_u, wrap_in64, optK_some', fzK_false', nilK_ptr, brK_true', brK_false', guardK_tt', guardK_ff', guardK_tf', guardK_ft', takeG_tt', takeG_ff', takeG_tf', takeG_ft', pickK_t', pickK_f', pickT_t', pickT_f', notK, extract2_0', extract2_1', extract3_0', extract3_1', extract3_2', here_load, here_fieldAt, here_indexAt, here_extract, here_un, here_conv, here_slice, here_bin, here_nil, and_here, true_and, Nat.zero_add, Nat.add_assoc, Nat.add_zero, Int.toNat_natCast, size_alloc, World.cell?_drew, World.frozen?_drew, Bool.not_true, Bool.not_false, Int.toNat_zero, dec_t, dec_f, int_eq_t, int_eq_f, int_ne_t, int_ne_f, wrap_in, kbgtr3, kblss3, kld9, kbneq3, kbeql3, kbadd3, klen26, hlen26, kia26, kfa39_0, kfa39_1, kld2, kal39, kst39f, kbadd2, kst2, kld39, kbs26_1_0, kbd79_0, kbx79, kfa79_2, kld3, kblss2, kbgtr2, kbd39_0, kbsub3, kbgeq9]
    refine ck37 (text_ref f4 ?_)
    intro w5 f5 k5
    have htl := textD_le ze zr
    generalize textD ze zr = t at *
    obtain ⟨tt, te, tr⟩ := t
    simp only at f5 hsucc htl ⊢
    simp (maxSteps := 1000000) (disch := omega) only [hid1', hid2', guardK_u, takeG_u, wrap_in64, optK_some', fzK_false', nilK_ptr, brK_true', brK_false', guardK_tt', guardK_ff', guardK_tf', guardK_ft', takeG_tt', takeG_ff', takeG_tf', takeG_ft', pickK_t', pickK_f', pickT_t', pickT_f', notK, extract2_0', extract2_1', extract3_0', extract3_1', extract3_2', here_load, here_fieldAt, here_indexAt, here_extract, here_un, here_conv, here_slice, here_bin, here_nil, and_here, true_and, Nat.zero_add, Nat.add_assoc, Nat.add_zero, Int.toNat_natCast, size_alloc, World.cell?_drew, World.frozen?_drew, Bool.not_true, Bool.not_false, Int.toNat_zero, dec_t, dec_f, int_eq_t, int_eq_f, int_ne_t, int_ne_f, wrap_in, kbgtr3, kblss3, kld9, kbneq3, kbeql3, kbadd3, klen26, hlen26, kia26, kfa39_0, kfa39_1, kld2, kal39, kst39f, kbadd2, kst2, kld39, kbs26_1_0, kbd79_0, kbx79, kfa79_2, kld3, kblss2, kbgtr2, kbd39_0, kbsub3, kbgeq9]
    have q5 : Qt w5 (w5.alloc (.cells #[.string (txt tt), .int .i64 0] 39)) := Chg.alloc Qt.refl _
    have hb6 : (w5.alloc (.cells #[.string (txt tt), .int .i64 0] 39)).heap[w5.heap.size]? = some (.cells #[.string (txt tt), .int .i64 0] 39 (0, 0)) := blk_new _ _
    have f6 := f5.chg q5 (fun h => h) (fun _ _ h => h)
    have hg5 := ref_lt f5
    generalize w5.alloc (.cells #[.string (txt tt), .int .i64 0] 39) = w6 at *
    generalize hbk : w5.heap.size = bk at *
    refine ck36 (int_ref f6 ?_)
    intro w7 f7 k7
    generalize intD te tr = y at *
    obtain ⟨yn, ye, yr⟩ := y
    simp only at f7 hsucc ⊢
    have hb7 := k7.heap hb6 (fun e => by omega)
    have zb7 := blk_frozen hb7 1
    have cb7 : w7.cell? ⟨bk, 1, none⟩ = some (.int .i64 0) := by rw [blk_cell hb7]; rfl
    simp (maxSteps := 1000000) (disch := omega) only [hid1', hid2', guardK_u, takeG_u, wrap_in64, optK_some', fzK_false', nilK_ptr, brK_true', brK_false', guardK_tt', guardK_ff', guardK_tf', guardK_ft', takeG_tt', takeG_ff', takeG_tf', takeG_ft', pickK_t', pickK_f', pickT_t', pickT_f', notK, extract2_0', extract2_1', extract3_0', extract3_1', extract3_2', here_load, here_fieldAt, here_indexAt, here_extract, here_un, here_conv, here_slice, here_bin, here_nil, and_here, true_and, Nat.zero_add, Nat.add_assoc, Nat.add_zero, Int.toNat_natCast, size_alloc, World.cell?_drew, World.frozen?_drew, Bool.not_true, Bool.not_false, Int.toNat_zero, dec_t, dec_f, int_eq_t, int_eq_f, int_ne_t, int_ne_f, wrap_in, kbgtr3, kblss3, kld9, kbneq3, kbeql3, kbadd3, klen26, hlen26, kia26, kfa39_0, kfa39_1, kld2, kal39, kst39f, kbadd2, kst2, kld39, kbs26_1_0, kbd79_0, kbx79, kfa79_2, kld3, kblss2, kbgtr2, kbd39_0, kbsub3, kbgeq9, cb7, zb7]
    have hb8 : (w7.setCell ⟨bk, 1, none⟩ (.int .i64 yn)).heap[bk]? = some (.cells #[.string (txt tt), .int .i64 yn] 39 (0, 0)) := by rw [blk_set hb7]; rfl
    have k8 : Chg (fun k => k = bk) w7 (w7.setCell ⟨bk, 1, none⟩ (.int .i64 yn)) := (Chg.refl (fun k => k = bk) w7).setCell (p := ⟨bk, 1, none⟩) (.inl rfl) _
    generalize w7.setCell ⟨bk, 1, none⟩ (.int .i64 yn) = w8 at *
    have ca8 : w8.cell? ⟨bk, 0, none⟩ = some (.string (txt tt)) := by rw [blk_cell hb8]; rfl
    have cb8 : w8.cell? ⟨bk, 1, none⟩ = some (.int .i64 yn) := by rw [blk_cell hb8]; rfl
    simp (maxSteps := 1000000) (disch := omega) only [hid1', hid2', guardK_u, takeG_u, wrap_in64, optK_some', fzK_false', nilK_ptr, brK_true', brK_false', guardK_tt', guardK_ff', guardK_tf', guardK_ft', takeG_tt', takeG_ff', takeG_tf', takeG_ft', pickK_t', pickK_f', pickT_t', pickT_f', notK, extract2_0', extract2_1', extract3_0', extract3_1', extract3_2', here_load, here_fieldAt, here_indexAt, here_extract, here_un, here_conv, here_slice, here_bin, here_nil, and_here, true_and, Nat.zero_add, Nat.add_assoc, Nat.add_zero, Int.toNat_natCast, size_alloc, World.cell?_drew, World.frozen?_drew, Bool.not_true, Bool.not_false, Int.toNat_zero, dec_t, dec_f, int_eq_t, int_eq_f, int_ne_t, int_ne_f, wrap_in, kbgtr3, kblss3, kld9, kbneq3, kbeql3, kbadd3, klen26, hlen26, kia26, kfa39_0, kfa39_1, kld2, kal39, kst39f, kbadd2, kst2, kld39, kbs26_1_0, kbd79_0, kbx79, kfa79_2, kld3, kblss2, kbgtr2, kbd39_0, kbsub3, kbgeq9, ca8, cb8]
    have hs4 := k4.size
    have hbig : w4.heap.size ≤ bk := by have := k5.size; omega
    have c48 : Chg (fun k => k = gd) w4 w8 := ((k5.trans (q5.mono (fun _ _ h => h.elim))).trans k7).then k8 (fun i hi => .inr (by omega))
    have hFg : ∀ k, F = some k → ¬ k = gd := fun k hk e => by have := hF k hk; omega
    have o8 := o4.chg c48 hFg
    have f8 : RefAt w8 gd ye yr D := f7.chg k8 (fun e => by omega) (fun k hk e => by have := hDn k hk; omega)
    have qa : Qt w8 (w8.alloc (.cells #[.string (txt tt), .int .i64 yn] 39)) := Chg.alloc Qt.refl _
    obtain ⟨A9, p9, F9, w9, r9, o9, k9, g9⟩ := app_run (P := Tryd.prog) tyL (o8.chg qa (fun _ _ h => h)) (some ⟨w8.heap.size, 0, none⟩) 1 1 [.string (txt tt), .int .i64 yn] rfl (src_new2 w8 [.string (txt tt), .int .i64 yn] 39) (fun u hu => by simp at hu; rcases hu with rfl | rfl <;> rfl) (by omega) (by omega) 26
    refine appK r9 ?_
    have hsz := (k4.trans c48).size
    have c9 : Chg (fun k => k = gd) w2 w9 := ((k4.trans c48).trans (qa.mono (fun _ _ h => h.elim))).then k9 (fun k hk => .inr (hF k hk))
    have hF9 : ∀ k, F9 = some k → w2.heap.size ≤ k := fun k hk => by
      rcases g9 k hk with h | h
      · exact hF k h
      · rw [size_alloc] at h; omega
    have f9 : RefAt w9 gd ye yr D := (f8.chg qa (fun h => h) (fun _ _ h => h)).chg k9 (fun e => hFg _ e rfl) (fun k hk e => hDn k hk (hF k e))
    simp (maxSteps := 1000000) (disch := omega) only [hid1', hid2', guardK_u, takeG_u, wrap_in64, optK_some', fzK_false', nilK_ptr, brK_true', brK_false', guardK_tt', guardK_ff', guardK_tf', guardK_ft', takeG_tt', takeG_ff', takeG_tf', takeG_ft', pickK_t', pickK_f', pickT_t', pickT_f', notK, extract2_0', extract2_1', extract3_0', extract3_1', extract3_2', here_load, here_fieldAt, here_indexAt, here_extract, here_un, here_conv, here_slice, here_bin, here_nil, and_here, true_and, Nat.zero_add, Nat.add_assoc, Nat.add_zero, Int.toNat_natCast, size_alloc, World.cell?_drew, World.frozen?_drew, Bool.not_true, Bool.not_false, Int.toNat_zero, dec_t, dec_f, int_eq_t, int_eq_f, int_ne_t, int_ne_f, wrap_in, kbgtr3, kblss3, kld9, kbneq3, kbeql3, kbadd3, klen26, hlen26, kia26, kfa39_0, kfa39_1, kld2, kal39, kst39f, kbadd2, kst2, kld39, kbs26_1_0, kbd79_0, kbx79, kfa79_2, kld3, kblss2, kbgtr2, kbd39_0, kbsub3, kbgeq9]
    refine ⟨⟨j + 1, F9, by go_num, by omega, ?_, hF9, ?_, c9⟩, by simp [rel, intOf]; omega⟩
    · rw [hsucc]
      simp only [List.flatMap_append, List.flatMap_cons, List.flatMap_nil, List.append_nil]
      exact o9
    · rw [hsucc]; exact f9
  obtain rfl : j = N := by omega
  have htx := rowsD_txt j 0 rr
  have hnm := rowsD_num j 0 rr
  generalize rowsD j 0 rr = z at *
  obtain ⟨zl, ze, zr⟩ := z
  simp only at o4 f4 hrl hzl hK h0 htx hnm
  obtain ⟨cc4, ff4⟩ := ref_err f4
  have q4 : Qt w w4 := q2.then k4 (fun k hk => by omega)
  by_cases he : ze ≠ 0
  · rw [if_pos he] at h0
    simp (maxSteps := 1000000) (disch := omega) only [hid1', hid2', guardK_u, takeG_u, wrap_in64, optK_some', fzK_false', nilK_ptr, brK_true', brK_false', guardK_tt', guardK_ff', guardK_tf', guardK_ft', takeG_tt', takeG_ff', takeG_tf', takeG_ft', pickK_t', pickK_f', pickT_t', pickT_f', notK, extract2_0', extract2_1', extract3_0', extract3_1', extract3_2', here_load, here_fieldAt, here_indexAt, here_extract, here_un, here_conv, here_slice, here_bin, here_nil, and_here, true_and, Nat.zero_add, Nat.add_assoc, Nat.add_zero, Int.toNat_natCast, size_alloc, World.cell?_drew, World.frozen?_drew, Bool.not_true, Bool.not_false, Int.toNat_zero, dec_t, dec_f, int_eq_t, int_eq_f, int_ne_t, int_ne_f, wrap_in, kbgtr3, kblss3, kld9, kbneq3, kbeql3, kbadd3, klen26, hlen26, kia26, kfa39_0, kfa39_1, kld2, kal39, kst39f, kbadd2, kst2, kld39, kbs26_1_0, kbd79_0, kbx79, kfa79_2, kld3, kblss2, kbgtr2, kbd39_0, kbsub3, kbgeq9, cc4, guardK_u]
    refine drawK_here ?_
    simp (maxSteps := 1000000) (disch := omega) only [hid1', hid2', guardK_u, takeG_u, wrap_in64, optK_some', fzK_false', nilK_ptr, brK_true', brK_false', guardK_tt', guardK_ff', guardK_tf', guardK_ft', takeG_tt', takeG_ff', takeG_tf', takeG_ft', pickK_t', pickK_f', pickT_t', pickT_f', notK, extract2_0', extract2_1', extract3_0', extract3_1', extract3_2', here_load, here_fieldAt, here_indexAt, here_extract, here_un, here_conv, here_slice, here_bin, here_nil, and_here, true_and, Nat.zero_add, Nat.add_assoc, Nat.add_zero, Int.toNat_natCast, size_alloc, World.cell?_drew, World.frozen?_drew, Bool.not_true, Bool.not_false, Int.toNat_zero, dec_t, dec_f, int_eq_t, int_eq_f, int_ne_t, int_ne_f, wrap_in, kbgtr3, kblss3, kld9, kbneq3, kbeql3, kbadd3, klen26, hlen26, kia26, kfa39_0, kfa39_1, kld2, kal39, kst39f, kbadd2, kst2, kld39, kbs26_1_0, kbd79_0, kbx79, kfa79_2, kld3, kblss2, kbgtr2, kbd39_0, kbsub3, kbgeq9, cc4]
    exact h0 he _ q4.drew
  obtain rfl : ze = 0 := by omega
  rw [if_neg (by simp)] at h0 hK
  simp (maxSteps := 1000000) (disch := omega) only [hid1', hid2', guardK_u, takeG_u, wrap_in64, optK_some', fzK_false', nilK_ptr, brK_true', brK_false', guardK_tt', guardK_ff', guardK_tf', guardK_ft', takeG_tt', takeG_ff', takeG_tf', takeG_ft', pickK_t', pickK_f', pickT_t', pickT_f', notK, extract2_0', extract2_1', extract3_0', extract3_1', extract3_2', here_load, here_fieldAt, here_indexAt, here_extract, here_un, here_conv, here_slice, here_bin, here_nil, and_here, true_and, Nat.zero_add, Nat.add_assoc, Nat.add_zero, Int.toNat_natCast, size_alloc, World.cell?_drew, World.frozen?_drew, Bool.not_true, Bool.not_false, Int.toNat_zero, dec_t, dec_f, int_eq_t, int_eq_f, int_ne_t, int_ne_f, wrap_in, kbgtr3, kblss3, kld9, kbneq3, kbeql3, kbadd3, klen26, hlen26, kia26, kfa39_0, kfa39_1, kld2, kal39, kst39f, kbadd2, kst2, kld39, kbs26_1_0, kbd79_0, kbx79, kfa79_2, kld3, kblss2, kbgtr2, kbd39_0, kbsub3, kbgeq9, cc4, guardK_u]
  refine ck38 (left_ref f4 ?_)
  intro w5 q5
  have q05 := q4.trans q5
  have o5 := o4.chg q5 (fun _ _ h => h)
  have ra := reads_own2 o5
  by_cases hlf : 0 < leftD 0 zr
  · rw [if_pos hlf] at h0
    generalize leftD 0 zr = lf at *
    simp (maxSteps := 1000000) (disch := omega) only [hid1', hid2', guardK_u, takeG_u, wrap_in64, optK_some', fzK_false', nilK_ptr, brK_true', brK_false', guardK_tt', guardK_ff', guardK_tf', guardK_ft', takeG_tt', takeG_ff', takeG_tf', takeG_ft', pickK_t', pickK_f', pickT_t', pickT_f', notK, extract2_0', extract2_1', extract3_0', extract3_1', extract3_2', here_load, here_fieldAt, here_indexAt, here_extract, here_un, here_conv, here_slice, here_bin, here_nil, and_here, true_and, Nat.zero_add, Nat.add_assoc, Nat.add_zero, Int.toNat_natCast, size_alloc, World.cell?_drew, World.frozen?_drew, Bool.not_true, Bool.not_false, Int.toNat_zero, dec_t, dec_f, int_eq_t, int_eq_f, int_ne_t, int_ne_f, wrap_in, kbgtr3, kblss3, kld9, kbneq3, kbeql3, kbadd3, klen26, hlen26, kia26, kfa39_0, kfa39_1, kld2, kal39, kst39f, kbadd2, kst2, kld39, kbs26_1_0, kbd79_0, kbx79, kfa79_2, kld3, kblss2, kbgtr2, kbd39_0, kbsub3, kbgeq9, guardK_u]
    exact h0 (by simp) w5 q05
  rw [if_neg hlf] at h0 hK
  generalize leftD 0 zr = lf at *
  simp (maxSteps := 1000000) (disch := omega) only [hid1', hid2', guardK_u, takeG_u, wrap_in64, optK_some', fzK_false', nilK_ptr, brK_true', brK_false', guardK_tt', guardK_ff', guardK_tf', guardK_ft', takeG_tt', takeG_ff', takeG_tf', takeG_ft', pickK_t', pickK_f', pickT_t', pickT_f', notK, extract2_0', extract2_1', extract3_0', extract3_1', extract3_2', here_load, here_fieldAt, here_indexAt, here_extract, here_un, here_conv, here_slice, here_bin, here_nil, and_here, true_and, Nat.zero_add, Nat.add_assoc, Nat.add_zero, Int.toNat_natCast, size_alloc, World.cell?_drew, World.frozen?_drew, Bool.not_true, Bool.not_false, Int.toNat_zero, dec_t, dec_f, int_eq_t, int_eq_f, int_ne_t, int_ne_f, wrap_in, kbgtr3, kblss3, kld9, kbneq3, kbeql3, kbadd3, klen26, hlen26, kia26, kfa39_0, kfa39_1, kld2, kal39, kst39f, kbadd2, kst2, kld39, kbs26_1_0, kbd79_0, kbx79, kfa79_2, kld3, kblss2, kbgtr2, kbd39_0, kbsub3, kbgeq9, guardK_u]
  subst hzl
  refine loopK1 (fun i w' => ∃ (k : Nat) (last : ByteArray), i = .int .i64 (k : Int) ∧ k ≤ zl.length ∧ chkM last (zl.drop k) = chkM ByteArray.empty zl ∧ (∀ h : 0 < k, ∃ h2 : k - 1 < zl.length, last = zl[k - 1].1) ∧ (k = 0 → last = ByteArray.empty) ∧ Qt w5 w') (fun i _ => zl.length - (intOf i).toNat) ⟨0, ByteArray.empty, rfl, by omega, rfl, fun h => absurd h (by omega), fun _ => rfl, Qt.refl⟩ ?_
  rintro _ _ w6 ⟨k, last, rfl, hk, hchk, hlast, hzero, q6⟩
  have q06 := q05.trans q6
  by_cases hlt : k < zl.length
  · have T : ∀ w', Qt w5 w' → ∃ b o, A4 = some ⟨b, o, none⟩ ∧ w'.cell? ⟨b, o + k * 2, none⟩ = some (.string zl[k].1) ∧ w'.cell? ⟨b, o + (k * 2 + 1), none⟩ = some (.int .i64 zl[k].2) := fun w' q => SI.cells_at (ra.quiet q) hlt
    obtain ⟨b, o, rfl, _, _⟩ := T w5 Qt.refl
    have T0 : ∀ w', Qt w5 w' → w'.cell? ⟨b, o + k * 2, none⟩ = some (.string zl[k].1) := fun w' q => by
      obtain ⟨b', o', e, h, _⟩ := T w' q
      cases e; exact h
    have T1 : ∀ w', Qt w5 w' → w'.cell? ⟨b, o + (k * 2 + 1), none⟩ = some (.int .i64 zl[k].2) := fun w' q => by
      obtain ⟨b', o', e, _, h⟩ := T w' q
      cases e; exact h
    have TP : ∀ w', 0 < k → Qt w5 w' → w'.cell? ⟨b, o + (k - 1) * 2, none⟩ = some (.string last) := fun w' h0 q => by
      obtain ⟨h2, e⟩ := hlast h0
      obtain ⟨b', o', e', h, _⟩ := SI.cells_at (ra.quiet q) h2
      cases e'; rw [h, e]
    clear T
    have hp := htx zl[k] (List.getElem_mem hlt)
    have hn' := hnm zl[k] (List.getElem_mem hlt)
    have hdr : zl.drop k = zl[k] :: zl.drop (k + 1) := List.drop_eq_getElem_cons hlt
    rw [hdr, chkM] at hchk
    generalize hy : zl[k] = y at *
    obtain ⟨p, n'⟩ := y
    obtain ⟨n, rfl⟩ : ∃ n : Int, n = n' := ⟨n', rfl⟩
    simp only at hp hn' hchk T0 T1
    have hpl : p.size ≤ 2000000 := by omega
    simp (maxSteps := 1000000) (disch := omega) only [hid1', hid2', guardK_u, takeG_u, wrap_in64, optK_some', fzK_false', nilK_ptr, brK_true', brK_false', guardK_tt', guardK_ff', guardK_tf', guardK_ft', takeG_tt', takeG_ff', takeG_tf', takeG_ft', pickK_t', pickK_f', pickT_t', pickT_f', notK, extract2_0', extract2_1', extract3_0', extract3_1', extract3_2', here_load, here_fieldAt, here_indexAt, here_extract, here_un, here_conv, here_slice, here_bin, here_nil, and_here, true_and, Nat.zero_add, Nat.add_assoc, Nat.add_zero, Int.toNat_natCast, size_alloc, World.cell?_drew, World.frozen?_drew, Bool.not_true, Bool.not_false, Int.toNat_zero, dec_t, dec_f, int_eq_t, int_eq_f, int_ne_t, int_ne_f, wrap_in, kbgtr3, kblss3, kld9, kbneq3, kbeql3, kbadd3, klen26, hlen26, kia26, kfa39_0, kfa39_1, kld2, kal39, kst39f, kbadd2, kst2, kld39, kbs26_1_0, kbd79_0, kbx79, kfa79_2, kld3, kblss2, kbgtr2, kbd39_0, kbsub3, kbgeq9]
    refine drawK_by (fun w' => Qt w5 w') (q6.trans (Qt.drew Qt.refl)) ?_
    refine take_index (.pointer (some ⟨b, o + k * 2, none⟩)) (fun w' hq => by (simp (maxSteps := 1000000) (disch := omega) only [hid1', hid2', guardK_u, takeG_u, wrap_in64, optK_some', fzK_false', nilK_ptr, brK_true', brK_false', guardK_tt', guardK_ff', guardK_tf', guardK_ft', takeG_tt', takeG_ff', takeG_tf', takeG_ft', pickK_t', pickK_f', pickT_t', pickT_f', notK, extract2_0', extract2_1', extract3_0', extract3_1', extract3_2', here_load, here_fieldAt, here_indexAt, here_extract, here_un, here_conv, here_slice, here_bin, here_nil, and_here, true_and, Nat.zero_add, Nat.add_assoc, Nat.add_zero, Int.toNat_natCast, size_alloc, World.cell?_drew, World.frozen?_drew, Bool.not_true, Bool.not_false, Int.toNat_zero, dec_t, dec_f, int_eq_t, int_eq_f, int_ne_t, int_ne_f, wrap_in, kbgtr3, kblss3, kld9, kbneq3, kbeql3, kbadd3, klen26, hlen26, kia26, kfa39_0, kfa39_1, kld2, kal39, kst39f, kbadd2, kst2, kld39, kbs26_1_0, kbd79_0, kbx79, kfa79_2, kld3, kblss2, kbgtr2, kbd39_0, kbsub3, kbgeq9]; try (exact ⟨trivial, trivial⟩))) ?_
    refine take_field (.pointer (some ⟨b, o + k * 2, none⟩)) (fun w' hq => by (simp (maxSteps := 1000000) (disch := omega) only [hid1', hid2', guardK_u, takeG_u, wrap_in64, optK_some', fzK_false', nilK_ptr, brK_true', brK_false', guardK_tt', guardK_ff', guardK_tf', guardK_ft', takeG_tt', takeG_ff', takeG_tf', takeG_ft', pickK_t', pickK_f', pickT_t', pickT_f', notK, extract2_0', extract2_1', extract3_0', extract3_1', extract3_2', here_load, here_fieldAt, here_indexAt, here_extract, here_un, here_conv, here_slice, here_bin, here_nil, and_here, true_and, Nat.zero_add, Nat.add_assoc, Nat.add_zero, Int.toNat_natCast, size_alloc, World.cell?_drew, World.frozen?_drew, Bool.not_true, Bool.not_false, Int.toNat_zero, dec_t, dec_f, int_eq_t, int_eq_f, int_ne_t, int_ne_f, wrap_in, kbgtr3, kblss3, kld9, kbneq3, kbeql3, kbadd3, klen26, hlen26, kia26, kfa39_0, kfa39_1, kld2, kal39, kst39f, kbadd2, kst2, kld39, kbs26_1_0, kbd79_0, kbx79, kfa79_2, kld3, kblss2, kbgtr2, kbd39_0, kbsub3, kbgeq9]; try (exact ⟨trivial, trivial⟩))) ?_
    refine take_load (.string p) (fun w' hq => by have h := T0 w' hq; (simp (maxSteps := 1000000) (disch := omega) only [hid1', hid2', guardK_u, takeG_u, wrap_in64, optK_some', fzK_false', nilK_ptr, brK_true', brK_false', guardK_tt', guardK_ff', guardK_tf', guardK_ft', takeG_tt', takeG_ff', takeG_tf', takeG_ft', pickK_t', pickK_f', pickT_t', pickT_f', notK, extract2_0', extract2_1', extract3_0', extract3_1', extract3_2', here_load, here_fieldAt, here_indexAt, here_extract, here_un, here_conv, here_slice, here_bin, here_nil, and_here, true_and, Nat.zero_add, Nat.add_assoc, Nat.add_zero, Int.toNat_natCast, size_alloc, World.cell?_drew, World.frozen?_drew, Bool.not_true, Bool.not_false, Int.toNat_zero, dec_t, dec_f, int_eq_t, int_eq_f, int_ne_t, int_ne_f, wrap_in, kbgtr3, kblss3, kld9, kbneq3, kbeql3, kbadd3, klen26, hlen26, kia26, kfa39_0, kfa39_1, kld2, kal39, kst39f, kbadd2, kst2, kld39, kbs26_1_0, kbd79_0, kbx79, kfa79_2, kld3, kblss2, kbgtr2, kbd39_0, kbsub3, kbgeq9, h]; try (exact ⟨trivial, trivial⟩))) ?_
    refine ⟨ck18 (nodeR_str hpl ?_), trivial⟩
    intro w7 q7
    have q57 := (q6.trans (Qt.drew Qt.refl)).trans q7
    simp (maxSteps := 1000000) (disch := omega) only [hid1', hid2', guardK_u, takeG_u, wrap_in64, optK_some', fzK_false', nilK_ptr, brK_true', brK_false', guardK_tt', guardK_ff', guardK_tf', guardK_ft', takeG_tt', takeG_ff', takeG_tf', takeG_ft', pickK_t', pickK_f', pickT_t', pickT_f', notK, extract2_0', extract2_1', extract3_0', extract3_1', extract3_2', here_load, here_fieldAt, here_indexAt, here_extract, here_un, here_conv, here_slice, here_bin, here_nil, and_here, true_and, Nat.zero_add, Nat.add_assoc, Nat.add_zero, Int.toNat_natCast, size_alloc, World.cell?_drew, World.frozen?_drew, Bool.not_true, Bool.not_false, Int.toNat_zero, dec_t, dec_f, int_eq_t, int_eq_f, int_ne_t, int_ne_f, wrap_in, kbgtr3, kblss3, kld9, kbneq3, kbeql3, kbadd3, klen26, hlen26, kia26, kfa39_0, kfa39_1, kld2, kal39, kst39f, kbadd2, kst2, kld39, kbs26_1_0, kbd79_0, kbx79, kfa79_2, kld3, kblss2, kbgtr2, kbd39_0, kbsub3, kbgeq9]
    refine ⟨q57, ?_⟩
    by_cases hn : nodeB p = false
    · rw [if_pos (.inl hn)] at hchk
      rw [← hchk, if_pos (by decide)] at h0
      rw [hn]
      refine take_of (.bool true) (fun w' _ => by go_simp; done) ?_
      simp (maxSteps := 1000000) (disch := omega) only [hid1', hid2', guardK_u, takeG_u, wrap_in64, optK_some', fzK_false', nilK_ptr, brK_true', brK_false', guardK_tt', guardK_ff', guardK_tf', guardK_ft', takeG_tt', takeG_ff', takeG_tf', takeG_ft', pickK_t', pickK_f', pickT_t', pickT_f', notK, extract2_0', extract2_1', extract3_0', extract3_1', extract3_2', here_load, here_fieldAt, here_indexAt, here_extract, here_un, here_conv, here_slice, here_bin, here_nil, and_here, true_and, Nat.zero_add, Nat.add_assoc, Nat.add_zero, Int.toNat_natCast, size_alloc, World.cell?_drew, World.frozen?_drew, Bool.not_true, Bool.not_false, Int.toNat_zero, dec_t, dec_f, int_eq_t, int_eq_f, int_ne_t, int_ne_f, wrap_in, kbgtr3, kblss3, kld9, kbneq3, kbeql3, kbadd3, klen26, hlen26, kia26, kfa39_0, kfa39_1, kld2, kal39, kst39f, kbadd2, kst2, kld39, kbs26_1_0, kbd79_0, kbx79, kfa79_2, kld3, kblss2, kbgtr2, kbd39_0, kbsub3, kbgeq9]
      exact h0 (by decide) w7 (q05.trans q57)
    have hn2 : nodeB p = true := by simpa using hn
    rw [hn2]
    refine take_of (.bool false) (fun w' _ => by go_simp; done) ?_
    by_cases hk0 : k = 0
    · have hl0 := hzero hk0
      have hlp : SI.lt last p = true := by rw [hl0]; exact lt_empty hn2
      rw [if_neg (by rintro (e | e); exact hn e; rw [hlp] at e; cases e)] at hchk
      subst hk0
      refine take_bin (.bool false) (fun w' _ => by (simp (maxSteps := 1000000) (disch := omega) only [hid1', hid2', guardK_u, takeG_u, wrap_in64, optK_some', fzK_false', nilK_ptr, brK_true', brK_false', guardK_tt', guardK_ff', guardK_tf', guardK_ft', takeG_tt', takeG_ff', takeG_tf', takeG_ft', pickK_t', pickK_f', pickT_t', pickT_f', notK, extract2_0', extract2_1', extract3_0', extract3_1', extract3_2', here_load, here_fieldAt, here_indexAt, here_extract, here_un, here_conv, here_slice, here_bin, here_nil, and_here, true_and, Nat.zero_add, Nat.add_assoc, Nat.add_zero, Int.toNat_natCast, size_alloc, World.cell?_drew, World.frozen?_drew, Bool.not_true, Bool.not_false, Int.toNat_zero, dec_t, dec_f, int_eq_t, int_eq_f, int_ne_t, int_ne_f, wrap_in, kbgtr3, kblss3, kld9, kbneq3, kbeql3, kbadd3, klen26, hlen26, kia26, kfa39_0, kfa39_1, kld2, kal39, kst39f, kbadd2, kst2, kld39, kbs26_1_0, kbd79_0, kbx79, kfa79_2, kld3, kblss2, kbgtr2, kbd39_0, kbsub3, kbgeq9]; try (exact ⟨trivial, trivial⟩))) ?_
      have h1 := T1 w7 q57
      by_cases hnn : n < 1 ∨ 1000000000 < n
      · rw [if_pos hnn] at hchk
        rw [← hchk, if_pos (by decide)] at h0
        by_cases hn1 : n < 1
        · simp (maxSteps := 1000000) (disch := omega) only [hid1', hid2', guardK_u, takeG_u, wrap_in64, optK_some', fzK_false', nilK_ptr, brK_true', brK_false', guardK_tt', guardK_ff', guardK_tf', guardK_ft', takeG_tt', takeG_ff', takeG_tf', takeG_ft', pickK_t', pickK_f', pickT_t', pickT_f', notK, extract2_0', extract2_1', extract3_0', extract3_1', extract3_2', here_load, here_fieldAt, here_indexAt, here_extract, here_un, here_conv, here_slice, here_bin, here_nil, and_here, true_and, Nat.zero_add, Nat.add_assoc, Nat.add_zero, Int.toNat_natCast, size_alloc, World.cell?_drew, World.frozen?_drew, Bool.not_true, Bool.not_false, Int.toNat_zero, dec_t, dec_f, int_eq_t, int_eq_f, int_ne_t, int_ne_f, wrap_in, kbgtr3, kblss3, kld9, kbneq3, kbeql3, kbadd3, klen26, hlen26, kia26, kfa39_0, kfa39_1, kld2, kal39, kst39f, kbadd2, kst2, kld39, kbs26_1_0, kbd79_0, kbx79, kfa79_2, kld3, kblss2, kbgtr2, kbd39_0, kbsub3, kbgeq9, h1, guardK_u]
          exact h0 (by decide) w7 (q05.trans q57)
        · simp (maxSteps := 1000000) (disch := omega) only [hid1', hid2', guardK_u, takeG_u, wrap_in64, optK_some', fzK_false', nilK_ptr, brK_true', brK_false', guardK_tt', guardK_ff', guardK_tf', guardK_ft', takeG_tt', takeG_ff', takeG_tf', takeG_ft', pickK_t', pickK_f', pickT_t', pickT_f', notK, extract2_0', extract2_1', extract3_0', extract3_1', extract3_2', here_load, here_fieldAt, here_indexAt, here_extract, here_un, here_conv, here_slice, here_bin, here_nil, and_here, true_and, Nat.zero_add, Nat.add_assoc, Nat.add_zero, Int.toNat_natCast, size_alloc, World.cell?_drew, World.frozen?_drew, Bool.not_true, Bool.not_false, Int.toNat_zero, dec_t, dec_f, int_eq_t, int_eq_f, int_ne_t, int_ne_f, wrap_in, kbgtr3, kblss3, kld9, kbneq3, kbeql3, kbadd3, klen26, hlen26, kia26, kfa39_0, kfa39_1, kld2, kal39, kst39f, kbadd2, kst2, kld39, kbs26_1_0, kbd79_0, kbx79, kfa79_2, kld3, kblss2, kbgtr2, kbd39_0, kbsub3, kbgeq9, h1, guardK_u]
          exact h0 (by decide) w7 (q05.trans q57)
      rw [if_neg hnn] at hchk
      simp (maxSteps := 1000000) (disch := omega) only [hid1', hid2', guardK_u, takeG_u, wrap_in64, optK_some', fzK_false', nilK_ptr, brK_true', brK_false', guardK_tt', guardK_ff', guardK_tf', guardK_ft', takeG_tt', takeG_ff', takeG_tf', takeG_ft', pickK_t', pickK_f', pickT_t', pickT_f', notK, extract2_0', extract2_1', extract3_0', extract3_1', extract3_2', here_load, here_fieldAt, here_indexAt, here_extract, here_un, here_conv, here_slice, here_bin, here_nil, and_here, true_and, Nat.zero_add, Nat.add_assoc, Nat.add_zero, Int.toNat_natCast, size_alloc, World.cell?_drew, World.frozen?_drew, Bool.not_true, Bool.not_false, Int.toNat_zero, dec_t, dec_f, int_eq_t, int_eq_f, int_ne_t, int_ne_f, wrap_in, kbgtr3, kblss3, kld9, kbneq3, kbeql3, kbadd3, klen26, hlen26, kia26, kfa39_0, kfa39_1, kld2, kal39, kst39f, kbadd2, kst2, kld39, kbs26_1_0, kbd79_0, kbx79, kfa79_2, kld3, kblss2, kbgtr2, kbd39_0, kbsub3, kbgeq9, h1, guardK_u]
      exact ⟨⟨0 + 1, p, by go_num, by omega, hchk, fun _ => ⟨hlt, by show p = (zl[0]).1; rw [hy]⟩, fun e => by omega, q57⟩, by simp [rel, intOf]; omega⟩
    · have hT : ((k : Int) - 1).toNat = k - 1 := by omega
      refine take_bin (.bool true) (fun w' _ => by (simp (maxSteps := 1000000) (disch := omega) only [hid1', hid2', guardK_u, takeG_u, wrap_in64, optK_some', fzK_false', nilK_ptr, brK_true', brK_false', guardK_tt', guardK_ff', guardK_tf', guardK_ft', takeG_tt', takeG_ff', takeG_tf', takeG_ft', pickK_t', pickK_f', pickT_t', pickT_f', notK, extract2_0', extract2_1', extract3_0', extract3_1', extract3_2', here_load, here_fieldAt, here_indexAt, here_extract, here_un, here_conv, here_slice, here_bin, here_nil, and_here, true_and, Nat.zero_add, Nat.add_assoc, Nat.add_zero, Int.toNat_natCast, size_alloc, World.cell?_drew, World.frozen?_drew, Bool.not_true, Bool.not_false, Int.toNat_zero, dec_t, dec_f, int_eq_t, int_eq_f, int_ne_t, int_ne_f, wrap_in, kbgtr3, kblss3, kld9, kbneq3, kbeql3, kbadd3, klen26, hlen26, kia26, kfa39_0, kfa39_1, kld2, kal39, kst39f, kbadd2, kst2, kld39, kbs26_1_0, kbd79_0, kbx79, kfa79_2, kld3, kblss2, kbgtr2, kbd39_0, kbsub3, kbgeq9]; try (exact ⟨trivial, trivial⟩))) ?_
      simp (maxSteps := 1000000) (disch := omega) only [hid1', hid2', guardK_u, takeG_u, wrap_in64, optK_some', fzK_false', nilK_ptr, brK_true', brK_false', guardK_tt', guardK_ff', guardK_tf', guardK_ft', takeG_tt', takeG_ff', takeG_tf', takeG_ft', pickK_t', pickK_f', pickT_t', pickT_f', notK, extract2_0', extract2_1', extract3_0', extract3_1', extract3_2', here_load, here_fieldAt, here_indexAt, here_extract, here_un, here_conv, here_slice, here_bin, here_nil, and_here, true_and, Nat.zero_add, Nat.add_assoc, Nat.add_zero, Int.toNat_natCast, size_alloc, World.cell?_drew, World.frozen?_drew, Bool.not_true, Bool.not_false, Int.toNat_zero, dec_t, dec_f, int_eq_t, int_eq_f, int_ne_t, int_ne_f, wrap_in, kbgtr3, kblss3, kld9, kbneq3, kbeql3, kbadd3, klen26, hlen26, kia26, kfa39_0, kfa39_1, kld2, kal39, kst39f, kbadd2, kst2, kld39, kbs26_1_0, kbd79_0, kbx79, kfa79_2, kld3, kblss2, kbgtr2, kbd39_0, kbsub3, kbgeq9]
      refine take_bin (.int .i64 ((k : Int) - 1)) (fun w' _ => by (simp (maxSteps := 1000000) (disch := omega) only [hid1', hid2', guardK_u, takeG_u, wrap_in64, optK_some', fzK_false', nilK_ptr, brK_true', brK_false', guardK_tt', guardK_ff', guardK_tf', guardK_ft', takeG_tt', takeG_ff', takeG_tf', takeG_ft', pickK_t', pickK_f', pickT_t', pickT_f', notK, extract2_0', extract2_1', extract3_0', extract3_1', extract3_2', here_load, here_fieldAt, here_indexAt, here_extract, here_un, here_conv, here_slice, here_bin, here_nil, and_here, true_and, Nat.zero_add, Nat.add_assoc, Nat.add_zero, Int.toNat_natCast, size_alloc, World.cell?_drew, World.frozen?_drew, Bool.not_true, Bool.not_false, Int.toNat_zero, dec_t, dec_f, int_eq_t, int_eq_f, int_ne_t, int_ne_f, wrap_in, kbgtr3, kblss3, kld9, kbneq3, kbeql3, kbadd3, klen26, hlen26, kia26, kfa39_0, kfa39_1, kld2, kal39, kst39f, kbadd2, kst2, kld39, kbs26_1_0, kbd79_0, kbx79, kfa79_2, kld3, kblss2, kbgtr2, kbd39_0, kbsub3, kbgeq9]; try (exact ⟨trivial, trivial⟩))) ?_
      refine take_index (.pointer (some ⟨b, o + (k - 1) * 2, none⟩)) (fun w' hq => by (simp (maxSteps := 1000000) (disch := omega) only [hid1', hid2', guardK_u, takeG_u, wrap_in64, optK_some', fzK_false', nilK_ptr, brK_true', brK_false', guardK_tt', guardK_ff', guardK_tf', guardK_ft', takeG_tt', takeG_ff', takeG_tf', takeG_ft', pickK_t', pickK_f', pickT_t', pickT_f', notK, extract2_0', extract2_1', extract3_0', extract3_1', extract3_2', here_load, here_fieldAt, here_indexAt, here_extract, here_un, here_conv, here_slice, here_bin, here_nil, and_here, true_and, Nat.zero_add, Nat.add_assoc, Nat.add_zero, Int.toNat_natCast, size_alloc, World.cell?_drew, World.frozen?_drew, Bool.not_true, Bool.not_false, Int.toNat_zero, dec_t, dec_f, int_eq_t, int_eq_f, int_ne_t, int_ne_f, wrap_in, kbgtr3, kblss3, kld9, kbneq3, kbeql3, kbadd3, klen26, hlen26, kia26, kfa39_0, kfa39_1, kld2, kal39, kst39f, kbadd2, kst2, kld39, kbs26_1_0, kbd79_0, kbx79, kfa79_2, kld3, kblss2, kbgtr2, kbd39_0, kbsub3, kbgeq9, hT]; try (exact ⟨trivial, trivial⟩))) ?_
      refine take_field (.pointer (some ⟨b, o + (k - 1) * 2, none⟩)) (fun w' hq => by (simp (maxSteps := 1000000) (disch := omega) only [hid1', hid2', guardK_u, takeG_u, wrap_in64, optK_some', fzK_false', nilK_ptr, brK_true', brK_false', guardK_tt', guardK_ff', guardK_tf', guardK_ft', takeG_tt', takeG_ff', takeG_tf', takeG_ft', pickK_t', pickK_f', pickT_t', pickT_f', notK, extract2_0', extract2_1', extract3_0', extract3_1', extract3_2', here_load, here_fieldAt, here_indexAt, here_extract, here_un, here_conv, here_slice, here_bin, here_nil, and_here, true_and, Nat.zero_add, Nat.add_assoc, Nat.add_zero, Int.toNat_natCast, size_alloc, World.cell?_drew, World.frozen?_drew, Bool.not_true, Bool.not_false, Int.toNat_zero, dec_t, dec_f, int_eq_t, int_eq_f, int_ne_t, int_ne_f, wrap_in, kbgtr3, kblss3, kld9, kbneq3, kbeql3, kbadd3, klen26, hlen26, kia26, kfa39_0, kfa39_1, kld2, kal39, kst39f, kbadd2, kst2, kld39, kbs26_1_0, kbd79_0, kbx79, kfa79_2, kld3, kblss2, kbgtr2, kbd39_0, kbsub3, kbgeq9]; try (exact ⟨trivial, trivial⟩))) ?_
      refine take_load (.string last) (fun w' hq => by have h := TP w' (by omega) hq; (simp (maxSteps := 1000000) (disch := omega) only [hid1', hid2', guardK_u, takeG_u, wrap_in64, optK_some', fzK_false', nilK_ptr, brK_true', brK_false', guardK_tt', guardK_ff', guardK_tf', guardK_ft', takeG_tt', takeG_ff', takeG_tf', takeG_ft', pickK_t', pickK_f', pickT_t', pickT_f', notK, extract2_0', extract2_1', extract3_0', extract3_1', extract3_2', here_load, here_fieldAt, here_indexAt, here_extract, here_un, here_conv, here_slice, here_bin, here_nil, and_here, true_and, Nat.zero_add, Nat.add_assoc, Nat.add_zero, Int.toNat_natCast, size_alloc, World.cell?_drew, World.frozen?_drew, Bool.not_true, Bool.not_false, Int.toNat_zero, dec_t, dec_f, int_eq_t, int_eq_f, int_ne_t, int_ne_f, wrap_in, kbgtr3, kblss3, kld9, kbneq3, kbeql3, kbadd3, klen26, hlen26, kia26, kfa39_0, kfa39_1, kld2, kal39, kst39f, kbadd2, kst2, kld39, kbs26_1_0, kbd79_0, kbx79, kfa79_2, kld3, kblss2, kbgtr2, kbd39_0, kbsub3, kbgeq9, h]; try (exact ⟨trivial, trivial⟩))) ?_
      simp (maxSteps := 1000000) (disch := omega) only [hid1', hid2', guardK_u, takeG_u, wrap_in64, optK_some', fzK_false', nilK_ptr, brK_true', brK_false', guardK_tt', guardK_ff', guardK_tf', guardK_ft', takeG_tt', takeG_ff', takeG_tf', takeG_ft', pickK_t', pickK_f', pickT_t', pickT_f', notK, extract2_0', extract2_1', extract3_0', extract3_1', extract3_2', here_load, here_fieldAt, here_indexAt, here_extract, here_un, here_conv, here_slice, here_bin, here_nil, and_here, true_and, Nat.zero_add, Nat.add_assoc, Nat.add_zero, Int.toNat_natCast, size_alloc, World.cell?_drew, World.frozen?_drew, Bool.not_true, Bool.not_false, Int.toNat_zero, dec_t, dec_f, int_eq_t, int_eq_f, int_ne_t, int_ne_f, wrap_in, kbgtr3, kblss3, kld9, kbneq3, kbeql3, kbadd3, klen26, hlen26, kia26, kfa39_0, kfa39_1, kld2, kal39, kst39f, kbadd2, kst2, kld39, kbs26_1_0, kbd79_0, kbx79, kfa79_2, kld3, kblss2, kbgtr2, kbd39_0, kbsub3, kbgeq9]
      refine take_index (.pointer (some ⟨b, o + k * 2, none⟩)) (fun w' hq => by (simp (maxSteps := 1000000) (disch := omega) only [hid1', hid2', guardK_u, takeG_u, wrap_in64, optK_some', fzK_false', nilK_ptr, brK_true', brK_false', guardK_tt', guardK_ff', guardK_tf', guardK_ft', takeG_tt', takeG_ff', takeG_tf', takeG_ft', pickK_t', pickK_f', pickT_t', pickT_f', notK, extract2_0', extract2_1', extract3_0', extract3_1', extract3_2', here_load, here_fieldAt, here_indexAt, here_extract, here_un, here_conv, here_slice, here_bin, here_nil, and_here, true_and, Nat.zero_add, Nat.add_assoc, Nat.add_zero, Int.toNat_natCast, size_alloc, World.cell?_drew, World.frozen?_drew, Bool.not_true, Bool.not_false, Int.toNat_zero, dec_t, dec_f, int_eq_t, int_eq_f, int_ne_t, int_ne_f, wrap_in, kbgtr3, kblss3, kld9, kbneq3, kbeql3, kbadd3, klen26, hlen26, kia26, kfa39_0, kfa39_1, kld2, kal39, kst39f, kbadd2, kst2, kld39, kbs26_1_0, kbd79_0, kbx79, kfa79_2, kld3, kblss2, kbgtr2, kbd39_0, kbsub3, kbgeq9]; try (exact ⟨trivial, trivial⟩))) ?_
      refine take_field (.pointer (some ⟨b, o + k * 2, none⟩)) (fun w' hq => by (simp (maxSteps := 1000000) (disch := omega) only [hid1', hid2', guardK_u, takeG_u, wrap_in64, optK_some', fzK_false', nilK_ptr, brK_true', brK_false', guardK_tt', guardK_ff', guardK_tf', guardK_ft', takeG_tt', takeG_ff', takeG_tf', takeG_ft', pickK_t', pickK_f', pickT_t', pickT_f', notK, extract2_0', extract2_1', extract3_0', extract3_1', extract3_2', here_load, here_fieldAt, here_indexAt, here_extract, here_un, here_conv, here_slice, here_bin, here_nil, and_here, true_and, Nat.zero_add, Nat.add_assoc, Nat.add_zero, Int.toNat_natCast, size_alloc, World.cell?_drew, World.frozen?_drew, Bool.not_true, Bool.not_false, Int.toNat_zero, dec_t, dec_f, int_eq_t, int_eq_f, int_ne_t, int_ne_f, wrap_in, kbgtr3, kblss3, kld9, kbneq3, kbeql3, kbadd3, klen26, hlen26, kia26, kfa39_0, kfa39_1, kld2, kal39, kst39f, kbadd2, kst2, kld39, kbs26_1_0, kbd79_0, kbx79, kfa79_2, kld3, kblss2, kbgtr2, kbd39_0, kbsub3, kbgeq9]; try (exact ⟨trivial, trivial⟩))) ?_
      refine take_load (.string p) (fun w' hq => by have h := T0 w' hq; (simp (maxSteps := 1000000) (disch := omega) only [hid1', hid2', guardK_u, takeG_u, wrap_in64, optK_some', fzK_false', nilK_ptr, brK_true', brK_false', guardK_tt', guardK_ff', guardK_tf', guardK_ft', takeG_tt', takeG_ff', takeG_tf', takeG_ft', pickK_t', pickK_f', pickT_t', pickT_f', notK, extract2_0', extract2_1', extract3_0', extract3_1', extract3_2', here_load, here_fieldAt, here_indexAt, here_extract, here_un, here_conv, here_slice, here_bin, here_nil, and_here, true_and, Nat.zero_add, Nat.add_assoc, Nat.add_zero, Int.toNat_natCast, size_alloc, World.cell?_drew, World.frozen?_drew, Bool.not_true, Bool.not_false, Int.toNat_zero, dec_t, dec_f, int_eq_t, int_eq_f, int_ne_t, int_ne_f, wrap_in, kbgtr3, kblss3, kld9, kbneq3, kbeql3, kbadd3, klen26, hlen26, kia26, kfa39_0, kfa39_1, kld2, kal39, kst39f, kbadd2, kst2, kld39, kbs26_1_0, kbd79_0, kbx79, kfa79_2, kld3, kblss2, kbgtr2, kbd39_0, kbsub3, kbgeq9, h]; try (exact ⟨trivial, trivial⟩))) ?_
      by_cases hle2 : SI.lt last p = false
      · rw [if_pos (.inr hle2)] at hchk
        rw [← hchk, if_pos (by decide)] at h0
        refine take_bin (.bool true) (fun w' hq => by simp (maxSteps := 1000000) (disch := omega) only [hid1', hid2', guardK_u, takeG_u, wrap_in64, optK_some', fzK_false', nilK_ptr, brK_true', brK_false', guardK_tt', guardK_ff', guardK_tf', guardK_ft', takeG_tt', takeG_ff', takeG_tf', takeG_ft', pickK_t', pickK_f', pickT_t', pickT_f', notK, extract2_0', extract2_1', extract3_0', extract3_1', extract3_2', here_load, here_fieldAt, here_indexAt, here_extract, here_un, here_conv, here_slice, here_bin, here_nil, and_here, true_and, Nat.zero_add, Nat.add_assoc, Nat.add_zero, Int.toNat_natCast, size_alloc, World.cell?_drew, World.frozen?_drew, Bool.not_true, Bool.not_false, Int.toNat_zero, dec_t, dec_f, int_eq_t, int_eq_f, int_ne_t, int_ne_f, wrap_in, kbgtr3, kblss3, kld9, kbneq3, kbeql3, kbadd3, klen26, hlen26, kia26, kfa39_0, kfa39_1, kld2, kal39, kst39f, kbadd2, kst2, kld39, kbs26_1_0, kbd79_0, kbx79, kfa79_2, kld3, kblss2, kbgtr2, kbd39_0, kbsub3, kbgeq9]; exact ⟨by rw [show Op.bytesLess last.toList p.toList = SI.lt last p from rfl, hle2]; rfl, trivial⟩) ?_
        simp (maxSteps := 1000000) (disch := omega) only [hid1', hid2', guardK_u, takeG_u, wrap_in64, optK_some', fzK_false', nilK_ptr, brK_true', brK_false', guardK_tt', guardK_ff', guardK_tf', guardK_ft', takeG_tt', takeG_ff', takeG_tf', takeG_ft', pickK_t', pickK_f', pickT_t', pickT_f', notK, extract2_0', extract2_1', extract3_0', extract3_1', extract3_2', here_load, here_fieldAt, here_indexAt, here_extract, here_un, here_conv, here_slice, here_bin, here_nil, and_here, true_and, Nat.zero_add, Nat.add_assoc, Nat.add_zero, Int.toNat_natCast, size_alloc, World.cell?_drew, World.frozen?_drew, Bool.not_true, Bool.not_false, Int.toNat_zero, dec_t, dec_f, int_eq_t, int_eq_f, int_ne_t, int_ne_f, wrap_in, kbgtr3, kblss3, kld9, kbneq3, kbeql3, kbadd3, klen26, hlen26, kia26, kfa39_0, kfa39_1, kld2, kal39, kst39f, kbadd2, kst2, kld39, kbs26_1_0, kbd79_0, kbx79, kfa79_2, kld3, kblss2, kbgtr2, kbd39_0, kbsub3, kbgeq9]
        exact h0 (by decide) w7 (q05.trans q57)
      · have hlp : SI.lt last p = true := by simpa using hle2
        rw [if_neg (by rintro (e | e); exact hn e; rw [hlp] at e; cases e)] at hchk
        refine take_bin (.bool false) (fun w' hq => by simp (maxSteps := 1000000) (disch := omega) only [hid1', hid2', guardK_u, takeG_u, wrap_in64, optK_some', fzK_false', nilK_ptr, brK_true', brK_false', guardK_tt', guardK_ff', guardK_tf', guardK_ft', takeG_tt', takeG_ff', takeG_tf', takeG_ft', pickK_t', pickK_f', pickT_t', pickT_f', notK, extract2_0', extract2_1', extract3_0', extract3_1', extract3_2', here_load, here_fieldAt, here_indexAt, here_extract, here_un, here_conv, here_slice, here_bin, here_nil, and_here, true_and, Nat.zero_add, Nat.add_assoc, Nat.add_zero, Int.toNat_natCast, size_alloc, World.cell?_drew, World.frozen?_drew, Bool.not_true, Bool.not_false, Int.toNat_zero, dec_t, dec_f, int_eq_t, int_eq_f, int_ne_t, int_ne_f, wrap_in, kbgtr3, kblss3, kld9, kbneq3, kbeql3, kbadd3, klen26, hlen26, kia26, kfa39_0, kfa39_1, kld2, kal39, kst39f, kbadd2, kst2, kld39, kbs26_1_0, kbd79_0, kbx79, kfa79_2, kld3, kblss2, kbgtr2, kbd39_0, kbsub3, kbgeq9]; exact ⟨by rw [show Op.bytesLess last.toList p.toList = SI.lt last p from rfl, hlp]; rfl, trivial⟩) ?_
        have h1 := T1 w7 q57
        by_cases hnn : n < 1 ∨ 1000000000 < n
        · rw [if_pos hnn] at hchk
          rw [← hchk, if_pos (by decide)] at h0
          by_cases hn1 : n < 1
          · simp (maxSteps := 1000000) (disch := omega) only [hid1', hid2', guardK_u, takeG_u, wrap_in64, optK_some', fzK_false', nilK_ptr, brK_true', brK_false', guardK_tt', guardK_ff', guardK_tf', guardK_ft', takeG_tt', takeG_ff', takeG_tf', takeG_ft', pickK_t', pickK_f', pickT_t', pickT_f', notK, extract2_0', extract2_1', extract3_0', extract3_1', extract3_2', here_load, here_fieldAt, here_indexAt, here_extract, here_un, here_conv, here_slice, here_bin, here_nil, and_here, true_and, Nat.zero_add, Nat.add_assoc, Nat.add_zero, Int.toNat_natCast, size_alloc, World.cell?_drew, World.frozen?_drew, Bool.not_true, Bool.not_false, Int.toNat_zero, dec_t, dec_f, int_eq_t, int_eq_f, int_ne_t, int_ne_f, wrap_in, kbgtr3, kblss3, kld9, kbneq3, kbeql3, kbadd3, klen26, hlen26, kia26, kfa39_0, kfa39_1, kld2, kal39, kst39f, kbadd2, kst2, kld39, kbs26_1_0, kbd79_0, kbx79, kfa79_2, kld3, kblss2, kbgtr2, kbd39_0, kbsub3, kbgeq9, h1, guardK_u]
            exact h0 (by decide) w7 (q05.trans q57)
          · simp (maxSteps := 1000000) (disch := omega) only [hid1', hid2', guardK_u, takeG_u, wrap_in64, optK_some', fzK_false', nilK_ptr, brK_true', brK_false', guardK_tt', guardK_ff', guardK_tf', guardK_ft', takeG_tt', takeG_ff', takeG_tf', takeG_ft', pickK_t', pickK_f', pickT_t', pickT_f', notK, extract2_0', extract2_1', extract3_0', extract3_1', extract3_2', here_load, here_fieldAt, here_indexAt, here_extract, here_un, here_conv, here_slice, here_bin, here_nil, and_here, true_and, Nat.zero_add, Nat.add_assoc, Nat.add_zero, Int.toNat_natCast, size_alloc, World.cell?_drew, World.frozen?_drew, Bool.not_true, Bool.not_false, Int.toNat_zero, dec_t, dec_f, int_eq_t, int_eq_f, int_ne_t, int_ne_f, wrap_in, kbgtr3, kblss3, kld9, kbneq3, kbeql3, kbadd3, klen26, hlen26, kia26, kfa39_0, kfa39_1, kld2, kal39, kst39f, kbadd2, kst2, kld39, kbs26_1_0, kbd79_0, kbx79, kfa79_2, kld3, kblss2, kbgtr2, kbd39_0, kbsub3, kbgeq9, h1, guardK_u]
            exact h0 (by decide) w7 (q05.trans q57)
        rw [if_neg hnn] at hchk
        simp (maxSteps := 1000000) (disch := omega) only [hid1', hid2', guardK_u, takeG_u, wrap_in64, optK_some', fzK_false', nilK_ptr, brK_true', brK_false', guardK_tt', guardK_ff', guardK_tf', guardK_ft', takeG_tt', takeG_ff', takeG_tf', takeG_ft', pickK_t', pickK_f', pickT_t', pickT_f', notK, extract2_0', extract2_1', extract3_0', extract3_1', extract3_2', here_load, here_fieldAt, here_indexAt, here_extract, here_un, here_conv, here_slice, here_bin, here_nil, and_here, true_and, Nat.zero_add, Nat.add_assoc, Nat.add_zero, Int.toNat_natCast, size_alloc, World.cell?_drew, World.frozen?_drew, Bool.not_true, Bool.not_false, Int.toNat_zero, dec_t, dec_f, int_eq_t, int_eq_f, int_ne_t, int_ne_f, wrap_in, kbgtr3, kblss3, kld9, kbneq3, kbeql3, kbadd3, klen26, hlen26, kia26, kfa39_0, kfa39_1, kld2, kal39, kst39f, kbadd2, kst2, kld39, kbs26_1_0, kbd79_0, kbx79, kfa79_2, kld3, kblss2, kbgtr2, kbd39_0, kbsub3, kbgeq9, h1, guardK_u]
        exact ⟨⟨k + 1, p, by go_num, by omega, hchk, fun _ => ⟨hlt, by show p = (zl[k]).1; rw [hy]⟩, fun e => by omega, q57⟩, by simp [rel, intOf]; omega⟩
  · obtain rfl : k = zl.length := by omega
    have hz : chkM ByteArray.empty zl = 0 := by rw [← hchk, List.drop_length]; rfl
    rw [hz, if_neg (by decide)] at hK
    simp (maxSteps := 1000000) (disch := omega) only [hid1', hid2', guardK_u, takeG_u, wrap_in64, optK_some', fzK_false', nilK_ptr, brK_true', brK_false', guardK_tt', guardK_ff', guardK_tf', guardK_ft', takeG_tt', takeG_ff', takeG_tf', takeG_ft', pickK_t', pickK_f', pickT_t', pickT_f', notK, extract2_0', extract2_1', extract3_0', extract3_1', extract3_2', here_load, here_fieldAt, here_indexAt, here_extract, here_un, here_conv, here_slice, here_bin, here_nil, and_here, true_and, Nat.zero_add, Nat.add_assoc, Nat.add_zero, Int.toNat_natCast, size_alloc, World.cell?_drew, World.frozen?_drew, Bool.not_true, Bool.not_false, Int.toNat_zero, dec_t, dec_f, int_eq_t, int_eq_f, int_ne_t, int_ne_f, wrap_in, kbgtr3, kblss3, kld9, kbneq3, kbeql3, kbadd3, klen26, hlen26, kia26, kfa39_0, kfa39_1, kld2, kal39, kst39f, kbadd2, kst2, kld39, kbs26_1_0, kbd79_0, kbx79, kfa79_2, kld3, kblss2, kbgtr2, kbd39_0, kbsub3, kbgeq9]
    exact hK rfl A4 p4 w6 (ra.quiet q6) q06
end Go.Proofs.YtpdhmbbmhomlnaaDoor
