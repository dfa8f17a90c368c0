/- DrawAny's walk. Conditions: the rows read as texts and numbers. -/
import Derived.Test.YtijoamldocjfhaaMixes
set_option linter.unusedVariables false
set_option linter.unusedSimpArgs false
namespace Go.Proofs.Ytijoamldocjfhaa
open Go.RowKit Go.Cn
def pickS (l : List ByteArray) (d : Int) : ByteArray := if 0 < l.length then l.getD (place d l.length) default else ⟨#[]⟩
theorem pick_any {l : List ByteArray} {A : Option Addr} {c : Nat} {d : Int} {w : World} {K : Value → World → Prop} (hr : Reads w A (l.map Value.string)) (hc : l.length ≤ 1000) (hd : d ≤ 9223372036854775807)
    (hK : ∀ w', Qt w w' → K (.tuple #[.string (pickS l d), .bool (decide (0 < l.length))]) w') : CallV Try.prog (.func (.func 9) #[] #[]) #[.slice A l.length c, .int .i64 d] K w := by
  by_cases hl : 0 < l.length
  · obtain ⟨n, hn⟩ : ∃ n, l.length = n + 1 := ⟨l.length - 1, by omega⟩
    have h := pick_some n l A c d w hn hr (by omega) hd
    rw [← hn] at h
    refine cv9 h ?_
    intro w' q
    have := hK w' q
    rw [decide_eq_true hl, pickS, if_pos hl] at this
    exact this
  · have h := pick_none A c d w
    have e : l.length = 0 := by omega
    rw [e]
    refine cv9 h ?_
    intro w' q
    have := hK w' q
    rw [decide_eq_false hl, pickS, if_neg hl] at this
    exact this
theorem ref_any2 {l : List ByteArray} {A : Option Addr} {c : Nat} {d : Int} {w : World} {K : Value → World → Prop} (hr : Reads w A (l.map Value.string)) (hc : l.length ≤ 1000) (hd : d ≤ 9223372036854775807)
    (hK : K (.tuple #[.string (pickS l d), .bool (decide (0 < l.length))]) w) : CallK Try.prog 10 #[.slice A l.length c, .int .i64 d] K w := by
  refine ref_any hr (by omega) hd (fun h => ?_) (fun h => ?_)
  · rw [decide_eq_false (by rw [h]; simp), pickS, if_neg (by rw [h]; simp)] at hK
    exact hK
  · rw [decide_eq_true h, pickS, if_pos h] at hK
    exact hK
theorem texts_len {l m : List ByteArray} {a b : Nat} {A B : Option Addr} {c d : Nat} {w : World} {K : Value → World → Prop} (ha : a = l.length) (hb : b = m.length) (hl : Reads w A (l.map Value.string)) (hm : Reads w B (m.map Value.string)) (hc : l.length ≤ 9223372036854775807) (hd : m.length ≤ 9223372036854775807)
    (hK : ∀ w', Qt w w' → K (.bool (decide (l = m))) w') : CallK Try.prog 12 #[.slice A a c, .slice B b d] K w := by
  subst ha hb
  exact texts_any hl hm hc hd hK
set_option maxHeartbeats 4000000 in
theorem drawAny_walk (A : Option Addr) (cap : Nat) (l : List ByteArray) (d : Int) (B : Option Addr) (cap2 : Nat) (ds : List Int) (w : World)
    (g1 : l.length ≤ cap) (m1 : cap ≤ 9223372036854775807) (r1 : RRow 1 RStr w A l) (hd0 : -9223372036854775808 ≤ d) (hd1 : d ≤ 9223372036854775807) (g2 : ds.length ≤ cap2) (m2 : cap2 ≤ 9223372036854775807) (r2 : RRow 1 (RInt .i64) w B ds) :
    Calls Try.prog 3 #[.slice A l.length cap, .int .i64 d, .slice B ds.length cap2] w fun e w' => e = .returned (.bool true) ∧ Below w.heap.size w w' := by
  have hA := Reads.of_row rstr_one r1
  have hB := Reads.of_row rint_one r2
  have hdb : ∀ x ∈ ds, x ≤ 9223372036854775807 := by
    intro x hx
    obtain ⟨i, hi, rfl⟩ := List.mem_iff_getElem.1 hx
    obtain ⟨cs, h⟩ := r2.elem hi
    exact (Go.bounds_i64 h.2).2
  clear r1 r2
  refine callK_ret fun R hR => ?_
  refine F3_calls _ _ _ _ _ ?_; unfold F3
  refine cv7 (known_any w) ?_
  intro w1 q1
  have hA1 := hA.quiet q1
  simp (maxSteps := 1000000) (disch := omega) only [hid1, hid2, optK_some, fzK_false, nilK_ptr, brK_true, brK_false, guardK_tt, guardK_ff, guardK_tf, guardK_ft, takeG_tt, takeG_ff, takeG_tf, takeG_ft, pickK_t, pickK_f, pickT_t, pickT_f, notK, extract2_0, extract2_1, extract3_0, extract3_1, extract3_2, here_load, here_fieldAt, here_indexAt, here_extract, here_un, here_conv, here_slice, here_bin, here_nil, and_here, true_and, Nat.zero_add, Nat.add_assoc, Nat.add_zero, Int.toNat_natCast, size_alloc, World.cell?_drew, World.frozen?_drew, Bool.not_true, Bool.not_false, dec_t, dec_f, int_eq_t, int_eq_f, int_ne_t, int_ne_f, wrap_in, klen23, hlen23, kbgtr3, kbs22_0, kbneq9, kbneq4, klen22, hlen22, kblss3, kia23, kld2, kbgtr2, kbrem2, kia22, kld9, kbs22_1_0, ksl22_010, kbadd3, ksl22_100, kblss2, kia32, kld4, kbsub3, kst4, kbeql3, kbeql4, kbneq3, kbgeq3, kbrem3, kbneq2, kbeql9, kbs22_3_0_1_2, kbs23_2_0_1, kbeql2, klen9, hlen9, kmax3_ft, kmin3_ft, kbs23_1_0, kbeql22n, kbeql22z, kmax2_ft, ksl22_111, ksl22_110, ksl22_011, ksl22_011z, ksl23_011, ksl23_011z]
  refine ck8 (few_any hA1 g1 m1 ?_)
  intro b hb
  cases b with
  | false =>
    simp (maxSteps := 1000000) (disch := omega) only [hid1, hid2, optK_some, fzK_false, nilK_ptr, brK_true, brK_false, guardK_tt, guardK_ff, guardK_tf, guardK_ft, takeG_tt, takeG_ff, takeG_tf, takeG_ft, pickK_t, pickK_f, pickT_t, pickT_f, notK, extract2_0, extract2_1, extract3_0, extract3_1, extract3_2, here_load, here_fieldAt, here_indexAt, here_extract, here_un, here_conv, here_slice, here_bin, here_nil, and_here, true_and, Nat.zero_add, Nat.add_assoc, Nat.add_zero, Int.toNat_natCast, size_alloc, World.cell?_drew, World.frozen?_drew, Bool.not_true, Bool.not_false, dec_t, dec_f, int_eq_t, int_eq_f, int_ne_t, int_ne_f, wrap_in, klen23, hlen23, kbgtr3, kbs22_0, kbneq9, kbneq4, klen22, hlen22, kblss3, kia23, kld2, kbgtr2, kbrem2, kia22, kld9, kbs22_1_0, ksl22_010, kbadd3, ksl22_100, kblss2, kia32, kld4, kbsub3, kst4, kbeql3, kbeql4, kbneq3, kbgeq3, kbrem3, kbneq2, kbeql9, kbs22_3_0_1_2, kbs23_2_0_1, kbeql2, klen9, hlen9, kmax3_ft, kmin3_ft, kbs23_1_0, kbeql22n, kbeql22z, kmax2_ft, ksl22_111, ksl22_110, ksl22_011, ksl22_011z, ksl23_011, ksl23_011z]
    exact hR _ (Qt.below q1)
  | true =>
  have h40 := hb rfl
  clear hb
  by_cases h60 : 60 < ds.length
  · simp (maxSteps := 1000000) (disch := omega) only [hid1, hid2, optK_some, fzK_false, nilK_ptr, brK_true, brK_false, guardK_tt, guardK_ff, guardK_tf, guardK_ft, takeG_tt, takeG_ff, takeG_tf, takeG_ft, pickK_t, pickK_f, pickT_t, pickT_f, notK, extract2_0, extract2_1, extract3_0, extract3_1, extract3_2, here_load, here_fieldAt, here_indexAt, here_extract, here_un, here_conv, here_slice, here_bin, here_nil, and_here, true_and, Nat.zero_add, Nat.add_assoc, Nat.add_zero, Int.toNat_natCast, size_alloc, World.cell?_drew, World.frozen?_drew, Bool.not_true, Bool.not_false, dec_t, dec_f, int_eq_t, int_eq_f, int_ne_t, int_ne_f, wrap_in, klen23, hlen23, kbgtr3, kbs22_0, kbneq9, kbneq4, klen22, hlen22, kblss3, kia23, kld2, kbgtr2, kbrem2, kia22, kld9, kbs22_1_0, ksl22_010, kbadd3, ksl22_100, kblss2, kia32, kld4, kbsub3, kst4, kbeql3, kbeql4, kbneq3, kbgeq3, kbrem3, kbneq2, kbeql9, kbs22_3_0_1_2, kbs23_2_0_1, kbeql2, klen9, hlen9, kmax3_ft, kmin3_ft, kbs23_1_0, kbeql22n, kbeql22z, kmax2_ft, ksl22_111, ksl22_110, ksl22_011, ksl22_011z, ksl23_011, ksl23_011z]
    exact hR _ (Qt.below q1)
  simp (maxSteps := 1000000) (disch := omega) only [hid1, hid2, optK_some, fzK_false, nilK_ptr, brK_true, brK_false, guardK_tt, guardK_ff, guardK_tf, guardK_ft, takeG_tt, takeG_ff, takeG_tf, takeG_ft, pickK_t, pickK_f, pickT_t, pickT_f, notK, extract2_0, extract2_1, extract3_0, extract3_1, extract3_2, here_load, here_fieldAt, here_indexAt, here_extract, here_un, here_conv, here_slice, here_bin, here_nil, and_here, true_and, Nat.zero_add, Nat.add_assoc, Nat.add_zero, Int.toNat_natCast, size_alloc, World.cell?_drew, World.frozen?_drew, Bool.not_true, Bool.not_false, dec_t, dec_f, int_eq_t, int_eq_f, int_ne_t, int_ne_f, wrap_in, klen23, hlen23, kbgtr3, kbs22_0, kbneq9, kbneq4, klen22, hlen22, kblss3, kia23, kld2, kbgtr2, kbrem2, kia22, kld9, kbs22_1_0, ksl22_010, kbadd3, ksl22_100, kblss2, kia32, kld4, kbsub3, kst4, kbeql3, kbeql4, kbneq3, kbgeq3, kbrem3, kbneq2, kbeql9, kbs22_3_0_1_2, kbs23_2_0_1, kbeql2, klen9, hlen9, kmax3_ft, kmin3_ft, kbs23_1_0, kbeql22n, kbeql22z, kmax2_ft, ksl22_111, ksl22_110, ksl22_011, ksl22_011z, ksl23_011, ksl23_011z]
  obtain ⟨A2, c2, F2, w2, p2, o2, k2, f2⟩ := apart_run (P := Try.prog) (w := w1) tyStr A l.length cap (l.map Value.string) (by simp) hA1.src (str_one l) (by omega) (by omega) 22
  refine appK p2 ?_
  have hA2 := hA1.quiet k2
  have was2 := Reads.of_own o2
  have q2 := q1.trans k2
  clear hA hA1 o2 f2 p2
  simp (maxSteps := 1000000) (disch := omega) only [hid1, hid2, optK_some, fzK_false, nilK_ptr, brK_true, brK_false, guardK_tt, guardK_ff, guardK_tf, guardK_ft, takeG_tt, takeG_ff, takeG_tf, takeG_ft, pickK_t, pickK_f, pickT_t, pickT_f, notK, extract2_0, extract2_1, extract3_0, extract3_1, extract3_2, here_load, here_fieldAt, here_indexAt, here_extract, here_un, here_conv, here_slice, here_bin, here_nil, and_here, true_and, Nat.zero_add, Nat.add_assoc, Nat.add_zero, Int.toNat_natCast, size_alloc, World.cell?_drew, World.frozen?_drew, Bool.not_true, Bool.not_false, dec_t, dec_f, int_eq_t, int_eq_f, int_ne_t, int_ne_f, wrap_in, klen23, hlen23, kbgtr3, kbs22_0, kbneq9, kbneq4, klen22, hlen22, kblss3, kia23, kld2, kbgtr2, kbrem2, kia22, kld9, kbs22_1_0, ksl22_010, kbadd3, ksl22_100, kblss2, kia32, kld4, kbsub3, kst4, kbeql3, kbeql4, kbneq3, kbgeq3, kbrem3, kbneq2, kbeql9, kbs22_3_0_1_2, kbs23_2_0_1, kbeql2, klen9, hlen9, kmax3_ft, kmin3_ft, kbs23_1_0, kbeql22n, kbeql22z, kmax2_ft, ksl22_111, ksl22_110, ksl22_011, ksl22_011z, ksl23_011, ksl23_011z]
  refine pick_any hA2 (by omega) hd1 ?_
  intro w3 k3
  have hA3 := hA2.quiet k3
  have was3 := was2.quiet k3
  have q3 := q2.trans k3
  simp (maxSteps := 1000000) (disch := omega) only [hid1, hid2, optK_some, fzK_false, nilK_ptr, brK_true, brK_false, guardK_tt, guardK_ff, guardK_tf, guardK_ft, takeG_tt, takeG_ff, takeG_tf, takeG_ft, pickK_t, pickK_f, pickT_t, pickT_f, notK, extract2_0, extract2_1, extract3_0, extract3_1, extract3_2, here_load, here_fieldAt, here_indexAt, here_extract, here_un, here_conv, here_slice, here_bin, here_nil, and_here, true_and, Nat.zero_add, Nat.add_assoc, Nat.add_zero, Int.toNat_natCast, size_alloc, World.cell?_drew, World.frozen?_drew, Bool.not_true, Bool.not_false, dec_t, dec_f, int_eq_t, int_eq_f, int_ne_t, int_ne_f, wrap_in, klen23, hlen23, kbgtr3, kbs22_0, kbneq9, kbneq4, klen22, hlen22, kblss3, kia23, kld2, kbgtr2, kbrem2, kia22, kld9, kbs22_1_0, ksl22_010, kbadd3, ksl22_100, kblss2, kia32, kld4, kbsub3, kst4, kbeql3, kbeql4, kbneq3, kbgeq3, kbrem3, kbneq2, kbeql9, kbs22_3_0_1_2, kbs23_2_0_1, kbeql2, klen9, hlen9, kmax3_ft, kmin3_ft, kbs23_1_0, kbeql22n, kbeql22z, kmax2_ft, ksl22_111, ksl22_110, ksl22_011, ksl22_011z, ksl23_011, ksl23_011z]
  refine ck10 (ref_any2 hA3 (by omega) hd1 ?_)
  simp (maxSteps := 1000000) (disch := omega) only [hid1, hid2, optK_some, fzK_false, nilK_ptr, brK_true, brK_false, guardK_tt, guardK_ff, guardK_tf, guardK_ft, takeG_tt, takeG_ff, takeG_tf, takeG_ft, pickK_t, pickK_f, pickT_t, pickT_f, notK, extract2_0, extract2_1, extract3_0, extract3_1, extract3_2, here_load, here_fieldAt, here_indexAt, here_extract, here_un, here_conv, here_slice, here_bin, here_nil, and_here, true_and, Nat.zero_add, Nat.add_assoc, Nat.add_zero, Int.toNat_natCast, size_alloc, World.cell?_drew, World.frozen?_drew, Bool.not_true, Bool.not_false, dec_t, dec_f, int_eq_t, int_eq_f, int_ne_t, int_ne_f, wrap_in, klen23, hlen23, kbgtr3, kbs22_0, kbneq9, kbneq4, klen22, hlen22, kblss3, kia23, kld2, kbgtr2, kbrem2, kia22, kld9, kbs22_1_0, ksl22_010, kbadd3, ksl22_100, kblss2, kia32, kld4, kbsub3, kst4, kbeql3, kbeql4, kbneq3, kbgeq3, kbrem3, kbneq2, kbeql9, kbs22_3_0_1_2, kbs23_2_0_1, kbeql2, klen9, hlen9, kmax3_ft, kmin3_ft, kbs23_1_0, kbeql22n, kbeql22z, kmax2_ft, ksl22_111, ksl22_110, ksl22_011, ksl22_011z, ksl23_011, ksl23_011z, beq_self_eq_true, bne_self_eq_false]
  refine ck11 (mix_any hA3 (by omega) (hB.quiet q3) (by omega) hdb ?_)
  intro M c4 w4 rM k4
  have hA4 := hA3.quiet k4
  have was4 := was3.quiet k4
  have q4 := q3.trans k4
  simp (maxSteps := 1000000) (disch := omega) only [hid1, hid2, optK_some, fzK_false, nilK_ptr, brK_true, brK_false, guardK_tt, guardK_ff, guardK_tf, guardK_ft, takeG_tt, takeG_ff, takeG_tf, takeG_ft, pickK_t, pickK_f, pickT_t, pickT_f, notK, extract2_0, extract2_1, extract3_0, extract3_1, extract3_2, here_load, here_fieldAt, here_indexAt, here_extract, here_un, here_conv, here_slice, here_bin, here_nil, and_here, true_and, Nat.zero_add, Nat.add_assoc, Nat.add_zero, Int.toNat_natCast, size_alloc, World.cell?_drew, World.frozen?_drew, Bool.not_true, Bool.not_false, dec_t, dec_f, int_eq_t, int_eq_f, int_ne_t, int_ne_f, wrap_in, klen23, hlen23, kbgtr3, kbs22_0, kbneq9, kbneq4, klen22, hlen22, kblss3, kia23, kld2, kbgtr2, kbrem2, kia22, kld9, kbs22_1_0, ksl22_010, kbadd3, ksl22_100, kblss2, kia32, kld4, kbsub3, kst4, kbeql3, kbeql4, kbneq3, kbgeq3, kbrem3, kbneq2, kbeql9, kbs22_3_0_1_2, kbs23_2_0_1, kbeql2, klen9, hlen9, kmax3_ft, kmin3_ft, kbs23_1_0, kbeql22n, kbeql22z, kmax2_ft, ksl22_111, ksl22_110, ksl22_011, ksl22_011z, ksl23_011, ksl23_011z]
  obtain ⟨A5, c5, F5, w5, p5, o5, k5, f5⟩ := apart_run (P := Try.prog) (w := w4) tyStr A l.length cap (l.map Value.string) (by simp) hA4.src (str_one l) (by omega) (by omega) 22
  refine appK p5 ?_
  have hA5 := hA4.quiet k5
  have was5 := was4.quiet k5
  have rM5 := rM.quiet k5
  have q5 := q4.trans k5
  have hF5 : ∀ k, F5 = some k → w4.heap.size ≤ k := f5
  clear hA2 hA3 hA4 was2 was3 was4 rM p5 f5
  simp (maxSteps := 1000000) (disch := omega) only [hid1, hid2, optK_some, fzK_false, nilK_ptr, brK_true, brK_false, guardK_tt, guardK_ff, guardK_tf, guardK_ft, takeG_tt, takeG_ff, takeG_tf, takeG_ft, pickK_t, pickK_f, pickT_t, pickT_f, notK, extract2_0, extract2_1, extract3_0, extract3_1, extract3_2, here_load, here_fieldAt, here_indexAt, here_extract, here_un, here_conv, here_slice, here_bin, here_nil, and_here, true_and, Nat.zero_add, Nat.add_assoc, Nat.add_zero, Int.toNat_natCast, size_alloc, World.cell?_drew, World.frozen?_drew, Bool.not_true, Bool.not_false, dec_t, dec_f, int_eq_t, int_eq_f, int_ne_t, int_ne_f, wrap_in, klen23, hlen23, kbgtr3, kbs22_0, kbneq9, kbneq4, klen22, hlen22, kblss3, kia23, kld2, kbgtr2, kbrem2, kia22, kld9, kbs22_1_0, ksl22_010, kbadd3, ksl22_100, kblss2, kia32, kld4, kbsub3, kst4, kbeql3, kbeql4, kbneq3, kbgeq3, kbrem3, kbneq2, kbeql9, kbs22_3_0_1_2, kbs23_2_0_1, kbeql2, klen9, hlen9, kmax3_ft, kmin3_ft, kbs23_1_0, kbeql22n, kbeql22z, kmax2_ft, ksl22_111, ksl22_110, ksl22_011, ksl22_011z, ksl23_011, ksl23_011z]
  refine loopK3 (fun r o v w' => ∃ (i : Nat) (rest out : List ByteArray) (F G : Option Nat), v = .int .i64 i ∧ rest.length + i = l.length ∧ out.length = i ∧ Own w' 9 1 r rest.length (rest.map Value.string) F ∧ Own w' 9 1 o out.length (out.map Value.string) G ∧ Qt w5 w' ∧ (∀ k, G = some k → w5.heap.size ≤ k) ∧ (∀ k, F = some k → G ≠ some k) ∧ out ++ mixL rest.length rest (ds.drop i) = mixL l.length l ds)
    (fun _ _ v _ => l.length - (intOf v).toNat) ⟨0, l, [], F5, none, rfl, rfl, rfl, o5, Own.nil _ _ _, Qt.refl, fun _ h => (by cases h), fun _ _ h => (by cases h), rfl⟩ ?_
  rintro _ r o _ w' ⟨i, rest, out, F, G, rfl, hri, hoi, hor, hoo, hq, hG, hFG, hmix⟩
  by_cases hlt : 0 < rest.length
  · obtain ⟨g, cr, rfl, rfl, hrow⟩ := hor.pos hlt
    have hrc := hrow.cap_le
    simp (maxSteps := 1000000) (disch := omega) only [hid1, hid2, optK_some, fzK_false, nilK_ptr, brK_true, brK_false, guardK_tt, guardK_ff, guardK_tf, guardK_ft, takeG_tt, takeG_ff, takeG_tf, takeG_ft, pickK_t, pickK_f, pickT_t, pickT_f, notK, extract2_0, extract2_1, extract3_0, extract3_1, extract3_2, here_load, here_fieldAt, here_indexAt, here_extract, here_un, here_conv, here_slice, here_bin, here_nil, and_here, true_and, Nat.zero_add, Nat.add_assoc, Nat.add_zero, Int.toNat_natCast, size_alloc, World.cell?_drew, World.frozen?_drew, Bool.not_true, Bool.not_false, dec_t, dec_f, int_eq_t, int_eq_f, int_ne_t, int_ne_f, wrap_in, klen23, hlen23, kbgtr3, kbs22_0, kbneq9, kbneq4, klen22, hlen22, kblss3, kia23, kld2, kbgtr2, kbrem2, kia22, kld9, kbs22_1_0, ksl22_010, kbadd3, ksl22_100, kblss2, kia32, kld4, kbsub3, kst4, kbeql3, kbeql4, kbneq3, kbgeq3, kbrem3, kbneq2, kbeql9, kbs22_3_0_1_2, kbs23_2_0_1, kbeql2, klen9, hlen9, kmax3_ft, kmin3_ft, kbs23_1_0, kbeql22n, kbeql22z, kmax2_ft, ksl22_111, ksl22_110, ksl22_011, ksl22_011z, ksl23_011, ksl23_011z]
    obtain ⟨dv, hdv⟩ : ∃ dv, dv = (ds.drop i).headD 0 := ⟨_, rfl⟩
    refine cutK1 (fun v w'' => v = .int .i64 (if dv < 0 then 0 else dv) ∧ w'' = w') ?_ ?_
    · by_cases hid : i < ds.length
      · obtain ⟨b, off, rfl, hcell⟩ := ((hB.quiet q5).quiet hq).get hid
        have e : dv = ds.getD i default := by rw [hdv]; simp [List.head?_drop, hid]
        rw [← e] at hcell
        by_cases hpos : 0 < dv
        · rw [if_neg (by omega)]
          simp (maxSteps := 1000000) (disch := omega) only [hid1, hid2, optK_some, fzK_false, nilK_ptr, brK_true, brK_false, guardK_tt, guardK_ff, guardK_tf, guardK_ft, takeG_tt, takeG_ff, takeG_tf, takeG_ft, pickK_t, pickK_f, pickT_t, pickT_f, notK, extract2_0, extract2_1, extract3_0, extract3_1, extract3_2, here_load, here_fieldAt, here_indexAt, here_extract, here_un, here_conv, here_slice, here_bin, here_nil, and_here, true_and, Nat.zero_add, Nat.add_assoc, Nat.add_zero, Int.toNat_natCast, size_alloc, World.cell?_drew, World.frozen?_drew, Bool.not_true, Bool.not_false, dec_t, dec_f, int_eq_t, int_eq_f, int_ne_t, int_ne_f, wrap_in, klen23, hlen23, kbgtr3, kbs22_0, kbneq9, kbneq4, klen22, hlen22, kblss3, kia23, kld2, kbgtr2, kbrem2, kia22, kld9, kbs22_1_0, ksl22_010, kbadd3, ksl22_100, kblss2, kia32, kld4, kbsub3, kst4, kbeql3, kbeql4, kbneq3, kbgeq3, kbrem3, kbneq2, kbeql9, kbs22_3_0_1_2, kbs23_2_0_1, kbeql2, klen9, hlen9, kmax3_ft, kmin3_ft, kbs23_1_0, kbeql22n, kbeql22z, kmax2_ft, ksl22_111, ksl22_110, ksl22_011, ksl22_011z, ksl23_011, ksl23_011z, hcell]
          exact ⟨rfl, rfl⟩
        · rw [show (if dv < 0 then 0 else dv) = 0 by split <;> omega]
          simp (maxSteps := 1000000) (disch := omega) only [hid1, hid2, optK_some, fzK_false, nilK_ptr, brK_true, brK_false, guardK_tt, guardK_ff, guardK_tf, guardK_ft, takeG_tt, takeG_ff, takeG_tf, takeG_ft, pickK_t, pickK_f, pickT_t, pickT_f, notK, extract2_0, extract2_1, extract3_0, extract3_1, extract3_2, here_load, here_fieldAt, here_indexAt, here_extract, here_un, here_conv, here_slice, here_bin, here_nil, and_here, true_and, Nat.zero_add, Nat.add_assoc, Nat.add_zero, Int.toNat_natCast, size_alloc, World.cell?_drew, World.frozen?_drew, Bool.not_true, Bool.not_false, dec_t, dec_f, int_eq_t, int_eq_f, int_ne_t, int_ne_f, wrap_in, klen23, hlen23, kbgtr3, kbs22_0, kbneq9, kbneq4, klen22, hlen22, kblss3, kia23, kld2, kbgtr2, kbrem2, kia22, kld9, kbs22_1_0, ksl22_010, kbadd3, ksl22_100, kblss2, kia32, kld4, kbsub3, kst4, kbeql3, kbeql4, kbneq3, kbgeq3, kbrem3, kbneq2, kbeql9, kbs22_3_0_1_2, kbs23_2_0_1, kbeql2, klen9, hlen9, kmax3_ft, kmin3_ft, kbs23_1_0, kbeql22n, kbeql22z, kmax2_ft, ksl22_111, ksl22_110, ksl22_011, ksl22_011z, ksl23_011, ksl23_011z, hcell]
          exact ⟨rfl, rfl⟩
      · have e : dv = 0 := by rw [hdv, List.drop_eq_nil_of_le (by omega)]; rfl
        rw [e]
        simp (maxSteps := 1000000) (disch := omega) only [hid1, hid2, optK_some, fzK_false, nilK_ptr, brK_true, brK_false, guardK_tt, guardK_ff, guardK_tf, guardK_ft, takeG_tt, takeG_ff, takeG_tf, takeG_ft, pickK_t, pickK_f, pickT_t, pickT_f, notK, extract2_0, extract2_1, extract3_0, extract3_1, extract3_2, here_load, here_fieldAt, here_indexAt, here_extract, here_un, here_conv, here_slice, here_bin, here_nil, and_here, true_and, Nat.zero_add, Nat.add_assoc, Nat.add_zero, Int.toNat_natCast, size_alloc, World.cell?_drew, World.frozen?_drew, Bool.not_true, Bool.not_false, dec_t, dec_f, int_eq_t, int_eq_f, int_ne_t, int_ne_f, wrap_in, klen23, hlen23, kbgtr3, kbs22_0, kbneq9, kbneq4, klen22, hlen22, kblss3, kia23, kld2, kbgtr2, kbrem2, kia22, kld9, kbs22_1_0, ksl22_010, kbadd3, ksl22_100, kblss2, kia32, kld4, kbsub3, kst4, kbeql3, kbeql4, kbneq3, kbgeq3, kbrem3, kbneq2, kbeql9, kbs22_3_0_1_2, kbs23_2_0_1, kbeql2, klen9, hlen9, kmax3_ft, kmin3_ft, kbs23_1_0, kbeql22n, kbeql22z, kmax2_ft, ksl22_111, ksl22_110, ksl22_011, ksl22_011z, ksl23_011, ksl23_011z]
        exact ⟨rfl, rfl⟩
    rintro _ _ w'' ⟨rfl, hw⟩
    obtain rfl : w'' = w' := hw
    have hdd : dv ≤ 9223372036854775807 := by
      rw [hdv]
      cases h : ds.drop i with
      | nil => simp
      | cons x t => exact hdb x (List.mem_of_mem_drop (by rw [h]; exact List.mem_cons_self))
    have hmix2 := hmix
    rw [show rest.length = (rest.length - 1) + 1 by omega, mixL, ← hdv] at hmix2
    have hp := place_lt dv hlt
    have hpe := place_eq dv hlt
    have h : (if dv < 0 then 0 else dv) ≤ 9223372036854775807 ∧ 0 ≤ (if dv < 0 then 0 else dv) := by split <;> omega
    generalize place dv rest.length = p at *
    have hcell : w''.cell? ⟨g, p, none⟩ = some (.string (rest.getD p default)) := by
      rw [hrow.cell p (by omega)]; simp [hp]
    simp (maxSteps := 1000000) (disch := omega) only [hid1, hid2, optK_some, fzK_false, nilK_ptr, brK_true, brK_false, guardK_tt, guardK_ff, guardK_tf, guardK_ft, takeG_tt, takeG_ff, takeG_tf, takeG_ft, pickK_t, pickK_f, pickT_t, pickT_f, notK, extract2_0, extract2_1, extract3_0, extract3_1, extract3_2, here_load, here_fieldAt, here_indexAt, here_extract, here_un, here_conv, here_slice, here_bin, here_nil, and_here, true_and, Nat.zero_add, Nat.add_assoc, Nat.add_zero, Int.toNat_natCast, size_alloc, World.cell?_drew, World.frozen?_drew, Bool.not_true, Bool.not_false, dec_t, dec_f, int_eq_t, int_eq_f, int_ne_t, int_ne_f, wrap_in, klen23, hlen23, kbgtr3, kbs22_0, kbneq9, kbneq4, klen22, hlen22, kblss3, kia23, kld2, kbgtr2, kbrem2, kia22, kld9, kbs22_1_0, ksl22_010, kbadd3, ksl22_100, kblss2, kia32, kld4, kbsub3, kst4, kbeql3, kbeql4, kbneq3, kbgeq3, kbrem3, kbneq2, kbeql9, kbs22_3_0_1_2, kbs23_2_0_1, kbeql2, klen9, hlen9, kmax3_ft, kmin3_ft, kbs23_1_0, kbeql22n, kbeql22z, kmax2_ft, ksl22_111, ksl22_110, ksl22_011, ksl22_011z, ksl23_011, ksl23_011z, hpe, hcell]
    obtain ⟨A6, c6, G6, w6, ha, hoo6, hc6, hf6⟩ := append1_run (P := Try.prog) (w := w'') tyStr hoo (.string (rest.getD p default)) rfl (by omega) (by omega) 22
    refine appK ha ?_
    simp (maxSteps := 1000000) (disch := omega) only [hid1, hid2, optK_some, fzK_false, nilK_ptr, brK_true, brK_false, guardK_tt, guardK_ff, guardK_tf, guardK_ft, takeG_tt, takeG_ff, takeG_tf, takeG_ft, pickK_t, pickK_f, pickT_t, pickT_f, notK, extract2_0, extract2_1, extract3_0, extract3_1, extract3_2, here_load, here_fieldAt, here_indexAt, here_extract, here_un, here_conv, here_slice, here_bin, here_nil, and_here, true_and, Nat.zero_add, Nat.add_assoc, Nat.add_zero, Int.toNat_natCast, size_alloc, World.cell?_drew, World.frozen?_drew, Bool.not_true, Bool.not_false, dec_t, dec_f, int_eq_t, int_eq_f, int_ne_t, int_ne_f, wrap_in, klen23, hlen23, kbgtr3, kbs22_0, kbneq9, kbneq4, klen22, hlen22, kblss3, kia23, kld2, kbgtr2, kbrem2, kia22, kld9, kbs22_1_0, ksl22_010, kbadd3, ksl22_100, kblss2, kia32, kld4, kbsub3, kst4, kbeql3, kbeql4, kbneq3, kbgeq3, kbrem3, kbneq2, kbeql9, kbs22_3_0_1_2, kbs23_2_0_1, kbeql2, klen9, hlen9, kmax3_ft, kmin3_ft, kbs23_1_0, kbeql22n, kbeql22z, kmax2_ft, ksl22_111, ksl22_110, ksl22_011, ksl22_011z, ksl23_011, ksl23_011z]
    have hrow6 := hrow.chg hc6 (fun h => hFG g rfl h)
    have hg6 := hrow6.lt
    have hq6 := hq.then hc6 hG
    have hG6 : ∀ k, G6 = some k → w5.heap.size ≤ k ∧ k < w6.heap.size := fun k hk => by
      refine ⟨?_, hoo6.lt hk⟩
      rcases hf6 k hk with h | h
      · exact hG k h
      · have := hq.size; omega
    obtain ⟨A7, hA7, A8, c8, w8, p8, k8, A9, c9, F9, w9, p9, o9, k9, f9⟩ := cut_runs2 (P := Try.prog) (w := w6.drew) tyStr (hrow6.chg (Chg.refl (fun _ => False) _).drew (fun h => h)) hp (str_one _) (by omega) 22
    have hT : ((p : Int) + 1).toNat = p + 1 := by omega
    refine drawK_by (fun w' => Qt w6 w') (Chg.refl _ _).drew ?_
    refine take_slice (.slice (some ⟨g, 0, none⟩) p cr) (fun w' _ => by (simp (maxSteps := 1000000) (disch := omega) only [hid1, hid2, optK_some, fzK_false, nilK_ptr, brK_true, brK_false, guardK_tt, guardK_ff, guardK_tf, guardK_ft, takeG_tt, takeG_ff, takeG_tf, takeG_ft, pickK_t, pickK_f, pickT_t, pickT_f, notK, extract2_0, extract2_1, extract3_0, extract3_1, extract3_2, here_load, here_fieldAt, here_indexAt, here_extract, here_un, here_conv, here_slice, here_bin, here_nil, and_here, true_and, Nat.zero_add, Nat.add_assoc, Nat.add_zero, Int.toNat_natCast, size_alloc, World.cell?_drew, World.frozen?_drew, Bool.not_true, Bool.not_false, dec_t, dec_f, int_eq_t, int_eq_f, int_ne_t, int_ne_f, wrap_in, klen23, hlen23, kbgtr3, kbs22_0, kbneq9, kbneq4, klen22, hlen22, kblss3, kia23, kld2, kbgtr2, kbrem2, kia22, kld9, kbs22_1_0, ksl22_010, kbadd3, ksl22_100, kblss2, kia32, kld4, kbsub3, kst4, kbeql3, kbeql4, kbneq3, kbgeq3, kbrem3, kbneq2, kbeql9, kbs22_3_0_1_2, kbs23_2_0_1, kbeql2, klen9, hlen9, kmax3_ft, kmin3_ft, kbs23_1_0, kbeql22n, kbeql22z, kmax2_ft, ksl22_111, ksl22_110, ksl22_011, ksl22_011z, ksl23_011, ksl23_011z]; try (exact ⟨trivial, trivial⟩))) ?_
    refine take_bin (.int .i64 ((p : Int) + 1)) (fun w' _ => by (simp (maxSteps := 1000000) (disch := omega) only [hid1, hid2, optK_some, fzK_false, nilK_ptr, brK_true, brK_false, guardK_tt, guardK_ff, guardK_tf, guardK_ft, takeG_tt, takeG_ff, takeG_tf, takeG_ft, pickK_t, pickK_f, pickT_t, pickT_f, notK, extract2_0, extract2_1, extract3_0, extract3_1, extract3_2, here_load, here_fieldAt, here_indexAt, here_extract, here_un, here_conv, here_slice, here_bin, here_nil, and_here, true_and, Nat.zero_add, Nat.add_assoc, Nat.add_zero, Int.toNat_natCast, size_alloc, World.cell?_drew, World.frozen?_drew, Bool.not_true, Bool.not_false, dec_t, dec_f, int_eq_t, int_eq_f, int_ne_t, int_ne_f, wrap_in, klen23, hlen23, kbgtr3, kbs22_0, kbneq9, kbneq4, klen22, hlen22, kblss3, kia23, kld2, kbgtr2, kbrem2, kia22, kld9, kbs22_1_0, ksl22_010, kbadd3, ksl22_100, kblss2, kia32, kld4, kbsub3, kst4, kbeql3, kbeql4, kbneq3, kbgeq3, kbrem3, kbneq2, kbeql9, kbs22_3_0_1_2, kbs23_2_0_1, kbeql2, klen9, hlen9, kmax3_ft, kmin3_ft, kbs23_1_0, kbeql22n, kbeql22z, kmax2_ft, ksl22_111, ksl22_110, ksl22_011, ksl22_011z, ksl23_011, ksl23_011z]; try (exact ⟨trivial, trivial⟩))) ?_
    refine take_slice (.slice (some A7) (rest.length - (p + 1)) (cr - (p + 1))) (fun w' _ => by (simp (maxSteps := 1000000) (disch := omega) only [hid1, hid2, optK_some, fzK_false, nilK_ptr, brK_true, brK_false, guardK_tt, guardK_ff, guardK_tf, guardK_ft, takeG_tt, takeG_ff, takeG_tf, takeG_ft, pickK_t, pickK_f, pickT_t, pickT_f, notK, extract2_0, extract2_1, extract3_0, extract3_1, extract3_2, here_load, here_fieldAt, here_indexAt, here_extract, here_un, here_conv, here_slice, here_bin, here_nil, and_here, true_and, Nat.zero_add, Nat.add_assoc, Nat.add_zero, Int.toNat_natCast, size_alloc, World.cell?_drew, World.frozen?_drew, Bool.not_true, Bool.not_false, dec_t, dec_f, int_eq_t, int_eq_f, int_ne_t, int_ne_f, wrap_in, klen23, hlen23, kbgtr3, kbs22_0, kbneq9, kbneq4, klen22, hlen22, kblss3, kia23, kld2, kbgtr2, kbrem2, kia22, kld9, kbs22_1_0, ksl22_010, kbadd3, ksl22_100, kblss2, kia32, kld4, kbsub3, kst4, kbeql3, kbeql4, kbneq3, kbgeq3, kbrem3, kbneq2, kbeql9, kbs22_3_0_1_2, kbs23_2_0_1, kbeql2, klen9, hlen9, kmax3_ft, kmin3_ft, kbs23_1_0, kbeql22n, kbeql22z, kmax2_ft, ksl22_111, ksl22_110, ksl22_011, ksl22_011z, ksl23_011, ksl23_011z, hT, hA7]; try (exact ⟨trivial, trivial⟩))) ?_
    simp (maxSteps := 1000000) (disch := omega) only [hid1, hid2, optK_some, fzK_false, nilK_ptr, brK_true, brK_false, guardK_tt, guardK_ff, guardK_tf, guardK_ft, takeG_tt, takeG_ff, takeG_tf, takeG_ft, pickK_t, pickK_f, pickT_t, pickT_f, notK, extract2_0, extract2_1, extract3_0, extract3_1, extract3_2, here_load, here_fieldAt, here_indexAt, here_extract, here_un, here_conv, here_slice, here_bin, here_nil, and_here, true_and, Nat.zero_add, Nat.add_assoc, Nat.add_zero, Int.toNat_natCast, size_alloc, World.cell?_drew, World.frozen?_drew, Bool.not_true, Bool.not_false, dec_t, dec_f, int_eq_t, int_eq_f, int_ne_t, int_ne_f, wrap_in, klen23, hlen23, kbgtr3, kbs22_0, kbneq9, kbneq4, klen22, hlen22, kblss3, kia23, kld2, kbgtr2, kbrem2, kia22, kld9, kbs22_1_0, ksl22_010, kbadd3, ksl22_100, kblss2, kia32, kld4, kbsub3, kst4, kbeql3, kbeql4, kbneq3, kbgeq3, kbrem3, kbneq2, kbeql9, kbs22_3_0_1_2, kbs23_2_0_1, kbeql2, klen9, hlen9, kmax3_ft, kmin3_ft, kbs23_1_0, kbeql22n, kbeql22z, kmax2_ft, ksl22_111, ksl22_110, ksl22_011, ksl22_011z, ksl23_011, ksl23_011z]
    refine ⟨⟨(Chg.refl _ _).drew.alloc _, appK p8 ?_, trivial⟩, trivial⟩
    simp (maxSteps := 1000000) (disch := omega) only [hid1, hid2, optK_some, fzK_false, nilK_ptr, brK_true, brK_false, guardK_tt, guardK_ff, guardK_tf, guardK_ft, takeG_tt, takeG_ff, takeG_tf, takeG_ft, pickK_t, pickK_f, pickT_t, pickT_f, notK, extract2_0, extract2_1, extract3_0, extract3_1, extract3_2, here_load, here_fieldAt, here_indexAt, here_extract, here_un, here_conv, here_slice, here_bin, here_nil, and_here, true_and, Nat.zero_add, Nat.add_assoc, Nat.add_zero, Int.toNat_natCast, size_alloc, World.cell?_drew, World.frozen?_drew, Bool.not_true, Bool.not_false, dec_t, dec_f, int_eq_t, int_eq_f, int_ne_t, int_ne_f, wrap_in, klen23, hlen23, kbgtr3, kbs22_0, kbneq9, kbneq4, klen22, hlen22, kblss3, kia23, kld2, kbgtr2, kbrem2, kia22, kld9, kbs22_1_0, ksl22_010, kbadd3, ksl22_100, kblss2, kia32, kld4, kbsub3, kst4, kbeql3, kbeql4, kbneq3, kbgeq3, kbrem3, kbneq2, kbeql9, kbs22_3_0_1_2, kbs23_2_0_1, kbeql2, klen9, hlen9, kmax3_ft, kmin3_ft, kbs23_1_0, kbeql22n, kbeql22z, kmax2_ft, ksl22_111, ksl22_110, ksl22_011, ksl22_011z, ksl23_011, ksl23_011z]
    refine ⟨(Chg.refl _ _).drew.trans (k8 : Chg (fun _ => False) w6.drew w8), appK p9 ?_, trivial⟩
    simp (maxSteps := 1000000) (disch := omega) only [hid1, hid2, optK_some, fzK_false, nilK_ptr, brK_true, brK_false, guardK_tt, guardK_ff, guardK_tf, guardK_ft, takeG_tt, takeG_ff, takeG_tf, takeG_ft, pickK_t, pickK_f, pickT_t, pickT_f, notK, extract2_0, extract2_1, extract3_0, extract3_1, extract3_2, here_load, here_fieldAt, here_indexAt, here_extract, here_un, here_conv, here_slice, here_bin, here_nil, and_here, true_and, Nat.zero_add, Nat.add_assoc, Nat.add_zero, Int.toNat_natCast, size_alloc, World.cell?_drew, World.frozen?_drew, Bool.not_true, Bool.not_false, dec_t, dec_f, int_eq_t, int_eq_f, int_ne_t, int_ne_f, wrap_in, klen23, hlen23, kbgtr3, kbs22_0, kbneq9, kbneq4, klen22, hlen22, kblss3, kia23, kld2, kbgtr2, kbrem2, kia22, kld9, kbs22_1_0, ksl22_010, kbadd3, ksl22_100, kblss2, kia32, kld4, kbsub3, kst4, kbeql3, kbeql4, kbneq3, kbgeq3, kbrem3, kbneq2, kbeql9, kbs22_3_0_1_2, kbs23_2_0_1, kbeql2, klen9, hlen9, kmax3_ft, kmin3_ft, kbs23_1_0, kbeql22n, kbeql22z, kmax2_ft, ksl22_111, ksl22_110, ksl22_011, ksl22_011z, ksl23_011, ksl23_011z]
    have k69 : Qt w6 w9 := (Chg.refl _ _).drew.trans k9
    have hlen : (rest.take p ++ rest.drop (p + 1)).length = rest.length - 1 := by simp; omega
    refine ⟨k69, ⟨i + 1, rest.take p ++ rest.drop (p + 1), out ++ [rest.getD p default], F9, G6, by go_num, by rw [hlen]; omega, by simp; omega, ?_, ?_, hq6.trans k69, fun k hk => (hG6 k hk).1, ?_, ?_⟩, by simp [rel, intOf]; omega⟩
    · rw [hlen, List.map_append, List.map_take, List.map_drop]
      exact o9
    · rw [List.length_append, List.map_append]
      exact hoo6.chg k69 (fun _ _ h => h)
    · intro k hk h
      have h1 : w6.heap.size ≤ k := f9 k hk
      have := (hG6 k h).2
      omega
    · rw [hlen, List.append_assoc, ← hmix2]
      simp [List.tail_drop]
  · obtain ⟨Ar, cr, rfl, hcr1, hcr2⟩ := hor.shape
    obtain ⟨Ao, co, rfl, hco1, hco2⟩ := hoo.shape
    obtain rfl : rest = [] := List.eq_nil_of_length_eq_zero (by omega)
    simp [mixL] at hmix
    simp (maxSteps := 1000000) (disch := omega) only [hid1, hid2, optK_some, fzK_false, nilK_ptr, brK_true, brK_false, guardK_tt, guardK_ff, guardK_tf, guardK_ft, takeG_tt, takeG_ff, takeG_tf, takeG_ft, pickK_t, pickK_f, pickT_t, pickT_f, notK, extract2_0, extract2_1, extract3_0, extract3_1, extract3_2, here_load, here_fieldAt, here_indexAt, here_extract, here_un, here_conv, here_slice, here_bin, here_nil, and_here, true_and, Nat.zero_add, Nat.add_assoc, Nat.add_zero, Int.toNat_natCast, size_alloc, World.cell?_drew, World.frozen?_drew, Bool.not_true, Bool.not_false, dec_t, dec_f, int_eq_t, int_eq_f, int_ne_t, int_ne_f, wrap_in, klen23, hlen23, kbgtr3, kbs22_0, kbneq9, kbneq4, klen22, hlen22, kblss3, kia23, kld2, kbgtr2, kbrem2, kia22, kld9, kbs22_1_0, ksl22_010, kbadd3, ksl22_100, kblss2, kia32, kld4, kbsub3, kst4, kbeql3, kbeql4, kbneq3, kbgeq3, kbrem3, kbneq2, kbeql9, kbs22_3_0_1_2, kbs23_2_0_1, kbeql2, klen9, hlen9, kmax3_ft, kmin3_ft, kbs23_1_0, kbeql22n, kbeql22z, kmax2_ft, ksl22_111, ksl22_110, ksl22_011, ksl22_011z, ksl23_011, ksl23_011z]
    refine ck12 (texts_len (by rw [mixL_len]) rfl (rM5.quiet hq) (Reads.of_own hoo) (by rw [mixL_len]; omega) (by omega) ?_)
    intro w6 k6
    rw [decide_eq_true hmix.symm]
    simp (maxSteps := 1000000) (disch := omega) only [hid1, hid2, optK_some, fzK_false, nilK_ptr, brK_true, brK_false, guardK_tt, guardK_ff, guardK_tf, guardK_ft, takeG_tt, takeG_ff, takeG_tf, takeG_ft, pickK_t, pickK_f, pickT_t, pickT_f, notK, extract2_0, extract2_1, extract3_0, extract3_1, extract3_2, here_load, here_fieldAt, here_indexAt, here_extract, here_un, here_conv, here_slice, here_bin, here_nil, and_here, true_and, Nat.zero_add, Nat.add_assoc, Nat.add_zero, Int.toNat_natCast, size_alloc, World.cell?_drew, World.frozen?_drew, Bool.not_true, Bool.not_false, dec_t, dec_f, int_eq_t, int_eq_f, int_ne_t, int_ne_f, wrap_in, klen23, hlen23, kbgtr3, kbs22_0, kbneq9, kbneq4, klen22, hlen22, kblss3, kia23, kld2, kbgtr2, kbrem2, kia22, kld9, kbs22_1_0, ksl22_010, kbadd3, ksl22_100, kblss2, kia32, kld4, kbsub3, kst4, kbeql3, kbeql4, kbneq3, kbgeq3, kbrem3, kbneq2, kbeql9, kbs22_3_0_1_2, kbs23_2_0_1, kbeql2, klen9, hlen9, kmax3_ft, kmin3_ft, kbs23_1_0, kbeql22n, kbeql22z, kmax2_ft, ksl22_111, ksl22_110, ksl22_011, ksl22_011z, ksl23_011, ksl23_011z]
    refine ck12 (texts_any ((hA5.quiet hq).quiet k6) ((was5.quiet hq).quiet k6) (by omega) (by omega) ?_)
    intro w7 k7
    rw [decide_eq_true rfl]
    simp (maxSteps := 1000000) (disch := omega) only [hid1, hid2, optK_some, fzK_false, nilK_ptr, brK_true, brK_false, guardK_tt, guardK_ff, guardK_tf, guardK_ft, takeG_tt, takeG_ff, takeG_tf, takeG_ft, pickK_t, pickK_f, pickT_t, pickT_f, notK, extract2_0, extract2_1, extract3_0, extract3_1, extract3_2, here_load, here_fieldAt, here_indexAt, here_extract, here_un, here_conv, here_slice, here_bin, here_nil, and_here, true_and, Nat.zero_add, Nat.add_assoc, Nat.add_zero, Int.toNat_natCast, size_alloc, World.cell?_drew, World.frozen?_drew, Bool.not_true, Bool.not_false, dec_t, dec_f, int_eq_t, int_eq_f, int_ne_t, int_ne_f, wrap_in, klen23, hlen23, kbgtr3, kbs22_0, kbneq9, kbneq4, klen22, hlen22, kblss3, kia23, kld2, kbgtr2, kbrem2, kia22, kld9, kbs22_1_0, ksl22_010, kbadd3, ksl22_100, kblss2, kia32, kld4, kbsub3, kst4, kbeql3, kbeql4, kbneq3, kbgeq3, kbrem3, kbneq2, kbeql9, kbs22_3_0_1_2, kbs23_2_0_1, kbeql2, klen9, hlen9, kmax3_ft, kmin3_ft, kbs23_1_0, kbeql22n, kbeql22z, kmax2_ft, ksl22_111, ksl22_110, ksl22_011, ksl22_011z, ksl23_011, ksl23_011z]
    exact hR _ (Qt.below (((q5.trans hq).trans k6).trans k7))
end Go.Proofs.Ytijoamldocjfhaa
