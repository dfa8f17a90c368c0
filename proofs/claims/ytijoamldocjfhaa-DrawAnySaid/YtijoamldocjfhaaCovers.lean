/- draw.Covers and known. -/
import Derived.Test.YtijoamldocjfhaaPick
import Derived.Test.YtijoamldocjfhaaM1
set_option linter.unusedVariables false
set_option linter.unusedSimpArgs false
namespace Go.Proofs.Ytijoamldocjfhaa
open Go.RowKit Go.Cn
/-- The places that draws take, each once, in the order in which they come first. -/
def taken (n : Nat) : List Int → List Nat → List Nat
  | [], ks => ks
  | d :: ds, ks => taken n ds (if place d n ∈ ks then ks else ks ++ [place d n])
theorem taken_step (n : Nat) (d : Int) (ds : List Int) (i : Nat) (hi : i < ds.length) (hd : ds.getD i 0 = d) (ks : List Nat) : taken n (ds.drop i) ks = taken n (ds.drop (i + 1)) (if place d n ∈ ks then ks else ks ++ [place d n]) := by
  rw [List.drop_eq_getElem_cons hi, taken]
  have : ds[i] = d := by rw [← hd]; simp [hi]
  rw [this]
theorem covers_pos {n : Nat} {ds : List Int} {B : Option Addr} {c : Nat} {w : World} {K : Value → World → Prop} (hn : 0 < n) (hn2 : n ≤ 9223372036854775807) (hd : Reads w B (ds.map (Value.int .i64))) (hdl : ds.length ≤ 9223372036854775807) (hdb : ∀ x ∈ ds, x ≤ 9223372036854775807)
    (hK : ∀ w', Qt w w' → K (.bool (decide (n ≤ (taken n ds []).length))) w') : CallK Try.prog 13 #[.int .i64 n, .slice B ds.length c] K w := by
  refine F13_calls _ _ _ _ ?_; unfold F13
  refine makeMapK (.int .i64) fun hk0 => ?_
  have hq0 : Qt w (w.alloc (.map #[] 0)) := Chg.alloc Qt.refl _
  have hge : w.heap.size ≤ w.heap.size := Nat.le_refl _
  generalize (w.alloc (.map #[] 0)) = wm at *
  generalize hg : w.heap.size = g at *
  simp (maxSteps := 1000000) (disch := omega) only [hid1, hid2, optK_some, fzK_false, nilK_ptr, brK_true, brK_false, guardK_tt, guardK_ff, guardK_tf, guardK_ft, takeG_tt, takeG_ff, takeG_tf, takeG_ft, pickK_t, pickK_f, pickT_t, pickT_f, notK, extract2_0, extract2_1, extract3_0, extract3_1, extract3_2, here_load, here_fieldAt, here_indexAt, here_extract, here_un, here_conv, here_slice, here_bin, here_nil, and_here, true_and, Nat.zero_add, Nat.add_assoc, Nat.add_zero, Int.toNat_natCast, size_alloc, World.cell?_drew, World.frozen?_drew, Bool.not_true, Bool.not_false, dec_t, dec_f, int_eq_t, int_eq_f, int_ne_t, int_ne_f, wrap_in, klen23, hlen23, kbgtr3, kbs22_0, kbneq9, kbneq4, klen22, hlen22, kblss3, kia23, kld2, kbgtr2, kbrem2, kia22, kld9, kbs22_1_0, ksl22_010, kbadd3, ksl22_100, kblss2, kia32, kld4, kbsub3, kst4, kbeql3, kbeql4, kbneq3, kbgeq3, kbrem3, kbneq2, kbeql9, kbs22_3_0_1_2, kbs23_2_0_1, kbeql2, klen9, hlen9, kmax3_ft, kmin3_ft, kbs23_1_0, kbeql22n, kbeql22z, kmax2_ft, ksl22_111, ksl22_110, ksl22_011, ksl22_011z, ksl23_011, ksl23_011z]
  refine loopK1 (fun v w' => ∃ (i : Nat) (ks : List Nat), v = .int .i64 i ∧ i ≤ ds.length ∧ Keys w' g (.int .i64) (ks.map fun k : Nat => Value.int .i64 k) ∧ Qt w w' ∧ taken n (ds.drop i) ks = taken n ds []) (fun v _ => ds.length - (intOf v).toNat) ⟨0, [], rfl, by omega, hk0, hq0, rfl⟩ ?_
  rintro _ _ w' ⟨i, ks, rfl, hi, hks, hq, htk⟩
  by_cases hlt : i < ds.length
  · obtain ⟨b, o, rfl, hcell⟩ := (hd.quiet hq).get hlt
    have hx : ds.getD i default ≤ 9223372036854775807 := hdb _ (by rw [List.getD_eq_getElem?_getD, List.getElem?_eq_getElem hlt]; exact List.getElem_mem hlt)
    have hst := taken_step n (ds.getD i default) ds i hlt (by simp [hlt]) ks
    generalize ds.getD i default = x at *
    simp (maxSteps := 1000000) (disch := omega) only [hid1, hid2, optK_some, fzK_false, nilK_ptr, brK_true, brK_false, guardK_tt, guardK_ff, guardK_tf, guardK_ft, takeG_tt, takeG_ff, takeG_tf, takeG_ft, pickK_t, pickK_f, pickT_t, pickT_f, notK, extract2_0, extract2_1, extract3_0, extract3_1, extract3_2, here_load, here_fieldAt, here_indexAt, here_extract, here_un, here_conv, here_slice, here_bin, here_nil, and_here, true_and, Nat.zero_add, Nat.add_assoc, Nat.add_zero, Int.toNat_natCast, size_alloc, World.cell?_drew, World.frozen?_drew, Bool.not_true, Bool.not_false, dec_t, dec_f, int_eq_t, int_eq_f, int_ne_t, int_ne_f, wrap_in, klen23, hlen23, kbgtr3, kbs22_0, kbneq9, kbneq4, klen22, hlen22, kblss3, kia23, kld2, kbgtr2, kbrem2, kia22, kld9, kbs22_1_0, ksl22_010, kbadd3, ksl22_100, kblss2, kia32, kld4, kbsub3, kst4, kbeql3, kbeql4, kbneq3, kbgeq3, kbrem3, kbneq2, kbeql9, kbs22_3_0_1_2, kbs23_2_0_1, kbeql2, klen9, hlen9, kmax3_ft, kmin3_ft, kbs23_1_0, kbeql22n, kbeql22z, kmax2_ft, ksl22_111, ksl22_110, ksl22_011, ksl22_011z, ksl23_011, ksl23_011z, hcell]
    refine ck17 (at_any hx hn ?_)
    generalize place x n = p at *
    simp (maxSteps := 1000000) (disch := omega) only [hid1, hid2, optK_some, fzK_false, nilK_ptr, brK_true, brK_false, guardK_tt, guardK_ff, guardK_tf, guardK_ft, takeG_tt, takeG_ff, takeG_tf, takeG_ft, pickK_t, pickK_f, pickT_t, pickT_f, notK, extract2_0, extract2_1, extract3_0, extract3_1, extract3_2, here_load, here_fieldAt, here_indexAt, here_extract, here_un, here_conv, here_slice, here_bin, here_nil, and_here, true_and, Nat.zero_add, Nat.add_assoc, Nat.add_zero, Int.toNat_natCast, size_alloc, World.cell?_drew, World.frozen?_drew, Bool.not_true, Bool.not_false, dec_t, dec_f, int_eq_t, int_eq_f, int_ne_t, int_ne_f, wrap_in, klen23, hlen23, kbgtr3, kbs22_0, kbneq9, kbneq4, klen22, hlen22, kblss3, kia23, kld2, kbgtr2, kbrem2, kia22, kld9, kbs22_1_0, ksl22_010, kbadd3, ksl22_100, kblss2, kia32, kld4, kbsub3, kst4, kbeql3, kbeql4, kbneq3, kbgeq3, kbrem3, kbneq2, kbeql9, kbs22_3_0_1_2, kbs23_2_0_1, kbeql2, klen9, hlen9, kmax3_ft, kmin3_ft, kbs23_1_0, kbeql22n, kbeql22z, kmax2_ft, ksl22_111, ksl22_110, ksl22_011, ksl22_011z, ksl23_011, ksl23_011z]
    obtain ⟨w2, hrun, hc2, hor⟩ := setKey_run (value := .bool true) Try.underlying42 (P := Try.prog) (d := .int .i64) (by first | exact Try.underlying3 | exact Try.underlying2) hks (key := .int .i64 p) rfl
    refine doK_ok hrun ?_
    have hmem : (Value.int .i64 p ∈ ks.map fun k : Nat => Value.int .i64 k) ↔ p ∈ ks := by
      simp only [List.mem_map]
      constructor
      · rintro ⟨k, hk, he⟩; simp at he; have : k = p := by omega
        exact this ▸ hk
      · intro h; exact ⟨p, h, rfl⟩
    have hq2 : Qt w w2 := hq.then hc2 (fun k hk => by omega)
    simp (maxSteps := 1000000) (disch := omega) only [hid1, hid2, optK_some, fzK_false, nilK_ptr, brK_true, brK_false, guardK_tt, guardK_ff, guardK_tf, guardK_ft, takeG_tt, takeG_ff, takeG_tf, takeG_ft, pickK_t, pickK_f, pickT_t, pickT_f, notK, extract2_0, extract2_1, extract3_0, extract3_1, extract3_2, here_load, here_fieldAt, here_indexAt, here_extract, here_un, here_conv, here_slice, here_bin, here_nil, and_here, true_and, Nat.zero_add, Nat.add_assoc, Nat.add_zero, Int.toNat_natCast, size_alloc, World.cell?_drew, World.frozen?_drew, Bool.not_true, Bool.not_false, dec_t, dec_f, int_eq_t, int_eq_f, int_ne_t, int_ne_f, wrap_in, klen23, hlen23, kbgtr3, kbs22_0, kbneq9, kbneq4, klen22, hlen22, kblss3, kia23, kld2, kbgtr2, kbrem2, kia22, kld9, kbs22_1_0, ksl22_010, kbadd3, ksl22_100, kblss2, kia32, kld4, kbsub3, kst4, kbeql3, kbeql4, kbneq3, kbgeq3, kbrem3, kbneq2, kbeql9, kbs22_3_0_1_2, kbs23_2_0_1, kbeql2, klen9, hlen9, kmax3_ft, kmin3_ft, kbs23_1_0, kbeql22n, kbeql22z, kmax2_ft, ksl22_111, ksl22_110, ksl22_011, ksl22_011z, ksl23_011, ksl23_011z]
    rcases hor with ⟨hm, hk2⟩ | ⟨hm, hk2⟩
    · refine ⟨⟨i + 1, ks, by go_num, by omega, hk2, hq2, ?_⟩, by simp [rel, intOf]; omega⟩
      rw [← htk, hst, if_pos (hmem.1 hm)]
    · refine ⟨⟨i + 1, ks ++ [p], by go_num, by omega, by simpa using hk2, hq2, ?_⟩, by simp [rel, intOf]; omega⟩
      rw [← htk, hst, if_neg (fun h => hm (hmem.2 h))]
  · simp (maxSteps := 1000000) (disch := omega) only [hid1, hid2, optK_some, fzK_false, nilK_ptr, brK_true, brK_false, guardK_tt, guardK_ff, guardK_tf, guardK_ft, takeG_tt, takeG_ff, takeG_tf, takeG_ft, pickK_t, pickK_f, pickT_t, pickT_f, notK, extract2_0, extract2_1, extract3_0, extract3_1, extract3_2, here_load, here_fieldAt, here_indexAt, here_extract, here_un, here_conv, here_slice, here_bin, here_nil, and_here, true_and, Nat.zero_add, Nat.add_assoc, Nat.add_zero, Int.toNat_natCast, size_alloc, World.cell?_drew, World.frozen?_drew, Bool.not_true, Bool.not_false, dec_t, dec_f, int_eq_t, int_eq_f, int_ne_t, int_ne_f, wrap_in, klen23, hlen23, kbgtr3, kbs22_0, kbneq9, kbneq4, klen22, hlen22, kblss3, kia23, kld2, kbgtr2, kbrem2, kia22, kld9, kbs22_1_0, ksl22_010, kbadd3, ksl22_100, kblss2, kia32, kld4, kbsub3, kst4, kbeql3, kbeql4, kbneq3, kbgeq3, kbrem3, kbneq2, kbeql9, kbs22_3_0_1_2, kbs23_2_0_1, kbeql2, klen9, hlen9, kmax3_ft, kmin3_ft, kbs23_1_0, kbeql22n, kbeql22z, kmax2_ft, ksl22_111, ksl22_110, ksl22_011, ksl22_011z, ksl23_011, ksl23_011z]
    refine lenMapK Try.underlying42 hks ?_
    rw [List.length_map]
    simp (maxSteps := 1000000) (disch := omega) only [hid1, hid2, optK_some, fzK_false, nilK_ptr, brK_true, brK_false, guardK_tt, guardK_ff, guardK_tf, guardK_ft, takeG_tt, takeG_ff, takeG_tf, takeG_ft, pickK_t, pickK_f, pickT_t, pickT_f, notK, extract2_0, extract2_1, extract3_0, extract3_1, extract3_2, here_load, here_fieldAt, here_indexAt, here_extract, here_un, here_conv, here_slice, here_bin, here_nil, and_here, true_and, Nat.zero_add, Nat.add_assoc, Nat.add_zero, Int.toNat_natCast, size_alloc, World.cell?_drew, World.frozen?_drew, Bool.not_true, Bool.not_false, dec_t, dec_f, int_eq_t, int_eq_f, int_ne_t, int_ne_f, wrap_in, klen23, hlen23, kbgtr3, kbs22_0, kbneq9, kbneq4, klen22, hlen22, kblss3, kia23, kld2, kbgtr2, kbrem2, kia22, kld9, kbs22_1_0, ksl22_010, kbadd3, ksl22_100, kblss2, kia32, kld4, kbsub3, kst4, kbeql3, kbeql4, kbneq3, kbgeq3, kbrem3, kbneq2, kbeql9, kbs22_3_0_1_2, kbs23_2_0_1, kbeql2, klen9, hlen9, kmax3_ft, kmin3_ft, kbs23_1_0, kbeql22n, kbeql22z, kmax2_ft, ksl22_111, ksl22_110, ksl22_011, ksl22_011z, ksl23_011, ksl23_011z]
    rw [List.drop_eq_nil_of_le (by omega), taken] at htk
    have := hK _ hq
    rw [← htk] at this
    simp only [Int.ofNat_le]
    exact this
theorem covers_nonpos {n : Int} {ds : List Int} {B : Option Addr} {c : Nat} {w : World} {K : Value → World → Prop} (hn : n < 1) (hd : Reads w B (ds.map (Value.int .i64))) (hdl : ds.length ≤ 9223372036854775807)
    (hK : ∀ w', Qt w w' → K (.bool true) w') : CallK Try.prog 13 #[.int .i64 n, .slice B ds.length c] K w := by
  refine F13_calls _ _ _ _ ?_; unfold F13
  refine makeMapK (.int .i64) fun hk0 => ?_
  have hq0 : Qt w (w.alloc (.map #[] 0)) := Chg.alloc Qt.refl _
  generalize (w.alloc (.map #[] 0)) = wm at *
  generalize hg : w.heap.size = g at *
  simp (maxSteps := 1000000) (disch := omega) only [hid1, hid2, optK_some, fzK_false, nilK_ptr, brK_true, brK_false, guardK_tt, guardK_ff, guardK_tf, guardK_ft, takeG_tt, takeG_ff, takeG_tf, takeG_ft, pickK_t, pickK_f, pickT_t, pickT_f, notK, extract2_0, extract2_1, extract3_0, extract3_1, extract3_2, here_load, here_fieldAt, here_indexAt, here_extract, here_un, here_conv, here_slice, here_bin, here_nil, and_here, true_and, Nat.zero_add, Nat.add_assoc, Nat.add_zero, Int.toNat_natCast, size_alloc, World.cell?_drew, World.frozen?_drew, Bool.not_true, Bool.not_false, dec_t, dec_f, int_eq_t, int_eq_f, int_ne_t, int_ne_f, wrap_in, klen23, hlen23, kbgtr3, kbs22_0, kbneq9, kbneq4, klen22, hlen22, kblss3, kia23, kld2, kbgtr2, kbrem2, kia22, kld9, kbs22_1_0, ksl22_010, kbadd3, ksl22_100, kblss2, kia32, kld4, kbsub3, kst4, kbeql3, kbeql4, kbneq3, kbgeq3, kbrem3, kbneq2, kbeql9, kbs22_3_0_1_2, kbs23_2_0_1, kbeql2, klen9, hlen9, kmax3_ft, kmin3_ft, kbs23_1_0, kbeql22n, kbeql22z, kmax2_ft, ksl22_111, ksl22_110, ksl22_011, ksl22_011z, ksl23_011, ksl23_011z]
  refine loopK1 (fun v w' => ∃ (i : Nat), v = .int .i64 i ∧ i ≤ ds.length ∧ w' = wm) (fun v _ => ds.length - (intOf v).toNat) ⟨0, rfl, by omega, rfl⟩ ?_
  rintro _ _ w' ⟨i, rfl, hi, hw⟩
  obtain rfl : w' = wm := hw
  by_cases hlt : i < ds.length
  · obtain ⟨b, o, rfl, hcell⟩ := (hd.quiet hq0).get hlt
    simp (maxSteps := 1000000) (disch := omega) only [hid1, hid2, optK_some, fzK_false, nilK_ptr, brK_true, brK_false, guardK_tt, guardK_ff, guardK_tf, guardK_ft, takeG_tt, takeG_ff, takeG_tf, takeG_ft, pickK_t, pickK_f, pickT_t, pickT_f, notK, extract2_0, extract2_1, extract3_0, extract3_1, extract3_2, here_load, here_fieldAt, here_indexAt, here_extract, here_un, here_conv, here_slice, here_bin, here_nil, and_here, true_and, Nat.zero_add, Nat.add_assoc, Nat.add_zero, Int.toNat_natCast, size_alloc, World.cell?_drew, World.frozen?_drew, Bool.not_true, Bool.not_false, dec_t, dec_f, int_eq_t, int_eq_f, int_ne_t, int_ne_f, wrap_in, klen23, hlen23, kbgtr3, kbs22_0, kbneq9, kbneq4, klen22, hlen22, kblss3, kia23, kld2, kbgtr2, kbrem2, kia22, kld9, kbs22_1_0, ksl22_010, kbadd3, ksl22_100, kblss2, kia32, kld4, kbsub3, kst4, kbeql3, kbeql4, kbneq3, kbgeq3, kbrem3, kbneq2, kbeql9, kbs22_3_0_1_2, kbs23_2_0_1, kbeql2, klen9, hlen9, kmax3_ft, kmin3_ft, kbs23_1_0, kbeql22n, kbeql22z, kmax2_ft, ksl22_111, ksl22_110, ksl22_011, ksl22_011z, ksl23_011, ksl23_011z, hcell]
    exact ⟨⟨i + 1, by go_num, by omega, rfl⟩, by simp [rel, intOf]; omega⟩
  · simp (maxSteps := 1000000) (disch := omega) only [hid1, hid2, optK_some, fzK_false, nilK_ptr, brK_true, brK_false, guardK_tt, guardK_ff, guardK_tf, guardK_ft, takeG_tt, takeG_ff, takeG_tf, takeG_ft, pickK_t, pickK_f, pickT_t, pickT_f, notK, extract2_0, extract2_1, extract3_0, extract3_1, extract3_2, here_load, here_fieldAt, here_indexAt, here_extract, here_un, here_conv, here_slice, here_bin, here_nil, and_here, true_and, Nat.zero_add, Nat.add_assoc, Nat.add_zero, Int.toNat_natCast, size_alloc, World.cell?_drew, World.frozen?_drew, Bool.not_true, Bool.not_false, dec_t, dec_f, int_eq_t, int_eq_f, int_ne_t, int_ne_f, wrap_in, klen23, hlen23, kbgtr3, kbs22_0, kbneq9, kbneq4, klen22, hlen22, kblss3, kia23, kld2, kbgtr2, kbrem2, kia22, kld9, kbs22_1_0, ksl22_010, kbadd3, ksl22_100, kblss2, kia32, kld4, kbsub3, kst4, kbeql3, kbeql4, kbneq3, kbgeq3, kbrem3, kbneq2, kbeql9, kbs22_3_0_1_2, kbs23_2_0_1, kbeql2, klen9, hlen9, kmax3_ft, kmin3_ft, kbs23_1_0, kbeql22n, kbeql22z, kmax2_ft, ksl22_111, ksl22_110, ksl22_011, ksl22_011z, ksl23_011, ksl23_011z]
    refine lenMapK Try.underlying42 hk0 ?_
    simp (maxSteps := 1000000) (disch := omega) only [hid1, hid2, optK_some, fzK_false, nilK_ptr, brK_true, brK_false, guardK_tt, guardK_ff, guardK_tf, guardK_ft, takeG_tt, takeG_ff, takeG_tf, takeG_ft, pickK_t, pickK_f, pickT_t, pickT_f, notK, extract2_0, extract2_1, extract3_0, extract3_1, extract3_2, here_load, here_fieldAt, here_indexAt, here_extract, here_un, here_conv, here_slice, here_bin, here_nil, and_here, true_and, Nat.zero_add, Nat.add_assoc, Nat.add_zero, Int.toNat_natCast, size_alloc, World.cell?_drew, World.frozen?_drew, Bool.not_true, Bool.not_false, dec_t, dec_f, int_eq_t, int_eq_f, int_ne_t, int_ne_f, wrap_in, klen23, hlen23, kbgtr3, kbs22_0, kbneq9, kbneq4, klen22, hlen22, kblss3, kia23, kld2, kbgtr2, kbrem2, kia22, kld9, kbs22_1_0, ksl22_010, kbadd3, ksl22_100, kblss2, kia32, kld4, kbsub3, kst4, kbeql3, kbeql4, kbneq3, kbgeq3, kbrem3, kbneq2, kbeql9, kbs22_3_0_1_2, kbs23_2_0_1, kbeql2, klen9, hlen9, kmax3_ft, kmin3_ft, kbs23_1_0, kbeql22n, kbeql22z, kmax2_ft, ksl22_111, ksl22_110, ksl22_011, ksl22_011z, ksl23_011, ksl23_011z, List.length_nil]
    have := hK _ hq0
    exact this
theorem cv9 {args : Array Value} {K : Value → World → Prop} {w : World} {v : Value} {R : World → Prop} (h : Calls Try.prog 9 args w fun e w' => e = .returned v ∧ R w') (hk : ∀ w', R w' → K v w') : CallV Try.prog (.func (.func 9) #[] #[]) args K w := callV_of Try.func9 (by kernel_rfl) (by kernel_rfl) h hk
theorem reads_new (w : World) (xs : List Value) (e : TypeId) : Reads (w.alloc (.cells xs.toArray e)) (some ⟨w.heap.size, 0, none⟩) xs := by
  refine .inr ⟨_, _, rfl, fun j hj => ?_⟩
  rw [blk_cell (blk_new _ _)]
  simp
theorem Reads.cell {α : Type} [Inhabited α] {enc : α → Value} {w : World} {g o : Nat} {l : List α} (h : Reads w (some ⟨g, o, none⟩) (l.map enc)) (j : Nat) (hj : j < l.length) : w.cell? ⟨g, o + j, none⟩ = some (enc (l.getD j default)) := by
  obtain ⟨g', o', e, hc⟩ := h.get hj
  cases e
  exact hc
set_option maxRecDepth 100000 in
theorem known_any (w : World) : Calls Try.prog 7 #[] w fun e w' => e = .returned (.bool true) ∧ Qt w w' := by
  refine callK_ret fun R hR => ?_
  refine F7_calls _ _ ?_; unfold F7
  simp (maxSteps := 1000000) (disch := omega) only [hid1, hid2, optK_some, fzK_false, nilK_ptr, brK_true, brK_false, guardK_tt, guardK_ff, guardK_tf, guardK_ft, takeG_tt, takeG_ff, takeG_tf, takeG_ft, pickK_t, pickK_f, pickT_t, pickT_f, notK, extract2_0, extract2_1, extract3_0, extract3_1, extract3_2, here_load, here_fieldAt, here_indexAt, here_extract, here_un, here_conv, here_slice, here_bin, here_nil, and_here, true_and, Nat.zero_add, Nat.add_assoc, Nat.add_zero, Int.toNat_natCast, size_alloc, World.cell?_drew, World.frozen?_drew, Bool.not_true, Bool.not_false, dec_t, dec_f, int_eq_t, int_eq_f, int_ne_t, int_ne_f, wrap_in, klen23, hlen23, kbgtr3, kbs22_0, kbneq9, kbneq4, klen22, hlen22, kblss3, kia23, kld2, kbgtr2, kbrem2, kia22, kld9, kbs22_1_0, ksl22_010, kbadd3, ksl22_100, kblss2, kia32, kld4, kbsub3, kst4, kbeql3, kbeql4, kbneq3, kbgeq3, kbrem3, kbneq2, kbeql9, kbs22_3_0_1_2, kbs23_2_0_1, kbeql2, klen9, hlen9, kmax3_ft, kmin3_ft, kbs23_1_0, kbeql22n, kbeql22z, kmax2_ft, ksl22_111, ksl22_110, ksl22_011, ksl22_011z, ksl23_011, ksl23_011z]
  have r1 := reads_new w (List.map Value.string [⟨#[97]⟩, ⟨#[98]⟩, ⟨#[99]⟩]) 9
  have q1 : Qt w (w.alloc (.cells #[.string ⟨#[97]⟩, .string ⟨#[98]⟩, .string ⟨#[99]⟩] 9)) := Chg.alloc Qt.refl _
  simp only [List.map_cons, List.map_nil] at r1
  generalize (w.alloc (.cells #[.string ⟨#[97]⟩, .string ⟨#[98]⟩, .string ⟨#[99]⟩] 9)) = w1 at *
  have P1 := pick_some 2 [⟨#[97]⟩, ⟨#[98]⟩, ⟨#[99]⟩] _ 3 4 w1 rfl r1 (by omega) (by omega)
  rw [show ([⟨#[97]⟩, ⟨#[98]⟩, ⟨#[99]⟩] : List ByteArray).getD (place 4 (2 + 1)) default = ⟨#[98]⟩ by simp [place]] at P1
  refine cv9 P1 ?_
  intro w2 q2
  replace r1 := r1.quiet q2
  replace q2 := q1.trans q2
  simp (maxSteps := 1000000) (disch := omega) only [hid1, hid2, optK_some, fzK_false, nilK_ptr, brK_true, brK_false, guardK_tt, guardK_ff, guardK_tf, guardK_ft, takeG_tt, takeG_ff, takeG_tf, takeG_ft, pickK_t, pickK_f, pickT_t, pickT_f, notK, extract2_0, extract2_1, extract3_0, extract3_1, extract3_2, here_load, here_fieldAt, here_indexAt, here_extract, here_un, here_conv, here_slice, here_bin, here_nil, and_here, true_and, Nat.zero_add, Nat.add_assoc, Nat.add_zero, Int.toNat_natCast, size_alloc, World.cell?_drew, World.frozen?_drew, Bool.not_true, Bool.not_false, dec_t, dec_f, int_eq_t, int_eq_f, int_ne_t, int_ne_f, wrap_in, klen23, hlen23, kbgtr3, kbs22_0, kbneq9, kbneq4, klen22, hlen22, kblss3, kia23, kld2, kbgtr2, kbrem2, kia22, kld9, kbs22_1_0, ksl22_010, kbadd3, ksl22_100, kblss2, kia32, kld4, kbsub3, kst4, kbeql3, kbeql4, kbneq3, kbgeq3, kbrem3, kbneq2, kbeql9, kbs22_3_0_1_2, kbs23_2_0_1, kbeql2, klen9, hlen9, kmax3_ft, kmin3_ft, kbs23_1_0, kbeql22n, kbeql22z, kmax2_ft, ksl22_111, ksl22_110, ksl22_011, ksl22_011z, ksl23_011, ksl23_011z]
  refine cv9 (pick_none none 0 4 w2) ?_
  intro w3 q3
  replace r1 := r1.quiet q3
  replace q3 := q2.trans q3
  simp (maxSteps := 1000000) (disch := omega) only [hid1, hid2, optK_some, fzK_false, nilK_ptr, brK_true, brK_false, guardK_tt, guardK_ff, guardK_tf, guardK_ft, takeG_tt, takeG_ff, takeG_tf, takeG_ft, pickK_t, pickK_f, pickT_t, pickT_f, notK, extract2_0, extract2_1, extract3_0, extract3_1, extract3_2, here_load, here_fieldAt, here_indexAt, here_extract, here_un, here_conv, here_slice, here_bin, here_nil, and_here, true_and, Nat.zero_add, Nat.add_assoc, Nat.add_zero, Int.toNat_natCast, size_alloc, World.cell?_drew, World.frozen?_drew, Bool.not_true, Bool.not_false, dec_t, dec_f, int_eq_t, int_eq_f, int_ne_t, int_ne_f, wrap_in, klen23, hlen23, kbgtr3, kbs22_0, kbneq9, kbneq4, klen22, hlen22, kblss3, kia23, kld2, kbgtr2, kbrem2, kia22, kld9, kbs22_1_0, ksl22_010, kbadd3, ksl22_100, kblss2, kia32, kld4, kbsub3, kst4, kbeql3, kbeql4, kbneq3, kbgeq3, kbrem3, kbneq2, kbeql9, kbs22_3_0_1_2, kbs23_2_0_1, kbeql2, klen9, hlen9, kmax3_ft, kmin3_ft, kbs23_1_0, kbeql22n, kbeql22z, kmax2_ft, ksl22_111, ksl22_110, ksl22_011, ksl22_011z, ksl23_011, ksl23_011z]
  have r2 := reads_new w3 (List.map (Value.int .i64) [2, 1]) 2
  have q4 : Qt w3 (w3.alloc (.cells #[.int .i64 2, .int .i64 1] 2)) := Chg.alloc Qt.refl _
  simp only [List.map_cons, List.map_nil] at r2
  generalize (w3.alloc (.cells #[.int .i64 2, .int .i64 1] 2)) = w4 at *
  replace r1 := r1.quiet q4
  replace q4 := q3.trans q4
  refine ck11 (mix_any (l := [⟨#[97]⟩, ⟨#[98]⟩, ⟨#[99]⟩]) (ds := [2, 1]) r1 (by simp) r2 (by simp) (by simp) ?_)
  intro A5 c5 w5 r5 q5
  have e5 : mixL ([⟨#[97]⟩, ⟨#[98]⟩, ⟨#[99]⟩] : List ByteArray).length [⟨#[97]⟩, ⟨#[98]⟩, ⟨#[99]⟩] [2, 1] = [⟨#[99]⟩, ⟨#[98]⟩, ⟨#[97]⟩] := by simp [mixL, place]
  rw [e5] at r5
  replace q5 := q4.trans q5
  obtain ⟨g, o, rfl, hm⟩ := r5.all (by simp)
  simp (maxSteps := 1000000) (disch := omega) only [hid1, hid2, optK_some, fzK_false, nilK_ptr, brK_true, brK_false, guardK_tt, guardK_ff, guardK_tf, guardK_ft, takeG_tt, takeG_ff, takeG_tf, takeG_ft, pickK_t, pickK_f, pickT_t, pickT_f, notK, extract2_0, extract2_1, extract3_0, extract3_1, extract3_2, here_load, here_fieldAt, here_indexAt, here_extract, here_un, here_conv, here_slice, here_bin, here_nil, and_here, true_and, Nat.zero_add, Nat.add_assoc, Nat.add_zero, Int.toNat_natCast, size_alloc, World.cell?_drew, World.frozen?_drew, Bool.not_true, Bool.not_false, dec_t, dec_f, int_eq_t, int_eq_f, int_ne_t, int_ne_f, wrap_in, klen23, hlen23, kbgtr3, kbs22_0, kbneq9, kbneq4, klen22, hlen22, kblss3, kia23, kld2, kbgtr2, kbrem2, kia22, kld9, kbs22_1_0, ksl22_010, kbadd3, ksl22_100, kblss2, kia32, kld4, kbsub3, kst4, kbeql3, kbeql4, kbneq3, kbgeq3, kbrem3, kbneq2, kbeql9, kbs22_3_0_1_2, kbs23_2_0_1, kbeql2, klen9, hlen9, kmax3_ft, kmin3_ft, kbs23_1_0, kbeql22n, kbeql22z, kmax2_ft, ksl22_111, ksl22_110, ksl22_011, ksl22_011z, ksl23_011, ksl23_011z]
  refine ck14 (turns_any (by omega) ?_)
  intro A6 c6 w6 r6 q6
  have e6 : turnsN 5 = 5 := rfl
  have e6' : turnsL 2 5 = [0, 1, 0, 1, 0] := rfl
  rw [e6, e6'] at r6
  rw [e6]
  replace q6' := q5.trans q6
  have m0 := Reads.cell (r5.quiet q6) 0 (by simp)
  have m1 := Reads.cell (r5.quiet q6) 1 (by simp)
  have m2 := Reads.cell (r5.quiet q6) 2 (by simp)
  simp only [Nat.add_zero, List.getD_cons_zero, List.getD_cons_succ] at m0 m1 m2
  simp (maxSteps := 1000000) (disch := omega) only [hid1, hid2, optK_some, fzK_false, nilK_ptr, brK_true, brK_false, guardK_tt, guardK_ff, guardK_tf, guardK_ft, takeG_tt, takeG_ff, takeG_tf, takeG_ft, pickK_t, pickK_f, pickT_t, pickT_f, notK, extract2_0, extract2_1, extract3_0, extract3_1, extract3_2, here_load, here_fieldAt, here_indexAt, here_extract, here_un, here_conv, here_slice, here_bin, here_nil, and_here, true_and, Nat.zero_add, Nat.add_assoc, Nat.add_zero, Int.toNat_natCast, size_alloc, World.cell?_drew, World.frozen?_drew, Bool.not_true, Bool.not_false, dec_t, dec_f, int_eq_t, int_eq_f, int_ne_t, int_ne_f, wrap_in, klen23, hlen23, kbgtr3, kbs22_0, kbneq9, kbneq4, klen22, hlen22, kblss3, kia23, kld2, kbgtr2, kbrem2, kia22, kld9, kbs22_1_0, ksl22_010, kbadd3, ksl22_100, kblss2, kia32, kld4, kbsub3, kst4, kbeql3, kbeql4, kbneq3, kbgeq3, kbrem3, kbneq2, kbeql9, kbs22_3_0_1_2, kbs23_2_0_1, kbeql2, klen9, hlen9, kmax3_ft, kmin3_ft, kbs23_1_0, kbeql22n, kbeql22z, kmax2_ft, ksl22_111, ksl22_110, ksl22_011, ksl22_011z, ksl23_011, ksl23_011z, m0, m1, m2, Int.reduceToNat, List.length_cons, List.length_nil, beq_self_eq_true, Int.toNat_zero]
  have r7 := reads_new w6 (List.map (Value.int .i64) [4, 1]) 2
  have q7 : Qt w6 (w6.alloc (.cells #[.int .i64 4, .int .i64 1] 2)) := Chg.alloc Qt.refl _
  simp only [List.map_cons, List.map_nil] at r7
  generalize (w6.alloc (.cells #[.int .i64 4, .int .i64 1] 2)) = w7 at *
  refine ck13 (covers_pos (n := 2) (ds := [4, 1]) (by omega) (by omega) r7 (by simp) (by simp) ?_)
  intro w8 q8
  rw [show (taken 2 [4, 1] []).length = 2 from rfl]
  simp (maxSteps := 1000000) (disch := omega) only [hid1, hid2, optK_some, fzK_false, nilK_ptr, brK_true, brK_false, guardK_tt, guardK_ff, guardK_tf, guardK_ft, takeG_tt, takeG_ff, takeG_tf, takeG_ft, pickK_t, pickK_f, pickT_t, pickT_f, notK, extract2_0, extract2_1, extract3_0, extract3_1, extract3_2, here_load, here_fieldAt, here_indexAt, here_extract, here_un, here_conv, here_slice, here_bin, here_nil, and_here, true_and, Nat.zero_add, Nat.add_assoc, Nat.add_zero, Int.toNat_natCast, size_alloc, World.cell?_drew, World.frozen?_drew, Bool.not_true, Bool.not_false, dec_t, dec_f, int_eq_t, int_eq_f, int_ne_t, int_ne_f, wrap_in, klen23, hlen23, kbgtr3, kbs22_0, kbneq9, kbneq4, klen22, hlen22, kblss3, kia23, kld2, kbgtr2, kbrem2, kia22, kld9, kbs22_1_0, ksl22_010, kbadd3, ksl22_100, kblss2, kia32, kld4, kbsub3, kst4, kbeql3, kbeql4, kbneq3, kbgeq3, kbrem3, kbneq2, kbeql9, kbs22_3_0_1_2, kbs23_2_0_1, kbeql2, klen9, hlen9, kmax3_ft, kmin3_ft, kbs23_1_0, kbeql22n, kbeql22z, kmax2_ft, ksl22_111, ksl22_110, ksl22_011, ksl22_011z, ksl23_011, ksl23_011z]
  have r9 := reads_new w8 (List.map (Value.int .i64) [0, 2]) 2
  have q9 : Qt w8 (w8.alloc (.cells #[.int .i64 0, .int .i64 2] 2)) := Chg.alloc Qt.refl _
  simp only [List.map_cons, List.map_nil] at r9
  generalize (w8.alloc (.cells #[.int .i64 0, .int .i64 2] 2)) = w9 at *
  refine ck13 (covers_pos (n := 2) (ds := [0, 2]) (by omega) (by omega) r9 (by simp) (by simp) ?_)
  intro w10 q10
  rw [show (taken 2 [0, 2] []).length = 1 from rfl]
  have q11 : Qt w6 w10 := ((q7.trans q8).trans q9).trans q10
  obtain ⟨g', o', rfl, _⟩ := r6.all (by simp)
  have t3 := Reads.cell (r6.quiet q11) 3 (by simp)
  simp only [List.getD_cons_zero, List.getD_cons_succ] at t3
  simp (maxSteps := 1000000) (disch := omega) only [hid1, hid2, optK_some, fzK_false, nilK_ptr, brK_true, brK_false, guardK_tt, guardK_ff, guardK_tf, guardK_ft, takeG_tt, takeG_ff, takeG_tf, takeG_ft, pickK_t, pickK_f, pickT_t, pickT_f, notK, extract2_0, extract2_1, extract3_0, extract3_1, extract3_2, here_load, here_fieldAt, here_indexAt, here_extract, here_un, here_conv, here_slice, here_bin, here_nil, and_here, true_and, Nat.zero_add, Nat.add_assoc, Nat.add_zero, Int.toNat_natCast, size_alloc, World.cell?_drew, World.frozen?_drew, Bool.not_true, Bool.not_false, dec_t, dec_f, int_eq_t, int_eq_f, int_ne_t, int_ne_f, wrap_in, klen23, hlen23, kbgtr3, kbs22_0, kbneq9, kbneq4, klen22, hlen22, kblss3, kia23, kld2, kbgtr2, kbrem2, kia22, kld9, kbs22_1_0, ksl22_010, kbadd3, ksl22_100, kblss2, kia32, kld4, kbsub3, kst4, kbeql3, kbeql4, kbneq3, kbgeq3, kbrem3, kbneq2, kbeql9, kbs22_3_0_1_2, kbs23_2_0_1, kbeql2, klen9, hlen9, kmax3_ft, kmin3_ft, kbs23_1_0, kbeql22n, kbeql22z, kmax2_ft, ksl22_111, ksl22_110, ksl22_011, ksl22_011z, ksl23_011, ksl23_011z, t3, Int.reduceToNat]
  exact hR _ (q6'.trans q11)
end Go.Proofs.Ytijoamldocjfhaa
