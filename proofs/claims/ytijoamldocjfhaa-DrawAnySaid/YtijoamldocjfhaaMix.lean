/- draw.Mix, draw.Turns: what they return. Conditions: rows of at most 1000. -/
import Derived.Test.YtijoamldocjfhaaFns
import Derived.Test.YtijoamldocjfhaaDel
set_option linter.unusedVariables false
set_option linter.unusedSimpArgs false
namespace Go.Proofs.Ytijoamldocjfhaa
open Go.RowKit Go.Cn
theorem str_one (l : List ByteArray) : ∀ u ∈ l.map Value.string, u.oneCell' = true := by
  intro u hu
  obtain ⟨s, _, rfl⟩ := List.mem_map.1 hu
  rfl
theorem i64_one (l : List Int) : ∀ u ∈ l.map (Value.int .i64), u.oneCell' = true := by
  intro u hu
  obtain ⟨s, _, rfl⟩ := List.mem_map.1 hu
  rfl
theorem clone_any {l : List ByteArray} {A : Option Addr} {c : Nat} {w : World} {K : Value → World → Prop} (hr : Reads w A (l.map Value.string)) (hl : l.length ≤ 1000)
    (hK : ∀ A' c' F w', Own w' 9 1 (.slice A' l.length c') l.length (l.map Value.string) F → Qt w w' → (∀ k, F = some k → w.heap.size ≤ k) → K (.slice A' l.length c') w') : CallK Try.prog 16 #[.slice A l.length c] K w := by
  refine F16_calls _ _ _ ?_; unfold F16
  match A, hr with
  | none, hr =>
    obtain rfl : l = [] := by
      rcases hr with h | ⟨g, o, h, _⟩
      · exact List.map_eq_nil_iff.1 h
      · cases h
    simp (maxSteps := 1000000) (disch := omega) only [hid1, hid2, optK_some, fzK_false, nilK_ptr, brK_true, brK_false, guardK_tt, guardK_ff, guardK_tf, guardK_ft, takeG_tt, takeG_ff, takeG_tf, takeG_ft, pickK_t, pickK_f, pickT_t, pickT_f, notK, extract2_0, extract2_1, extract3_0, extract3_1, extract3_2, here_load, here_fieldAt, here_indexAt, here_extract, here_un, here_conv, here_slice, here_bin, here_nil, and_here, true_and, Nat.zero_add, Nat.add_assoc, Nat.add_zero, Int.toNat_natCast, size_alloc, World.cell?_drew, World.frozen?_drew, Bool.not_true, Bool.not_false, dec_t, dec_f, int_eq_t, int_eq_f, int_ne_t, int_ne_f, wrap_in, klen23, hlen23, kbgtr3, kbs22_0, kbneq9, kbneq4, klen22, hlen22, kblss3, kia23, kld2, kbgtr2, kbrem2, kia22, kld9, kbs22_1_0, ksl22_010, kbadd3, ksl22_100, kblss2, kia32, kld4, kbsub3, kst4, kbeql3, kbeql4, kbneq3, kbgeq3, kbrem3, kbneq2, kbeql9, kbs22_3_0_1_2, kbs23_2_0_1, kbeql2, klen9, hlen9, kmax3_ft, kmin3_ft, kbs23_1_0, kbeql22n, kbeql22z, kmax2_ft, ksl22_111, ksl22_110, ksl22_011, ksl22_011z, ksl23_011, ksl23_011z]
    exact hK none 0 none w (Own.nil _ _ _) Qt.refl (fun _ h => by cases h)
  | some ad, hr =>
    simp (maxSteps := 1000000) (disch := omega) only [hid1, hid2, optK_some, fzK_false, nilK_ptr, brK_true, brK_false, guardK_tt, guardK_ff, guardK_tf, guardK_ft, takeG_tt, takeG_ff, takeG_tf, takeG_ft, pickK_t, pickK_f, pickT_t, pickT_f, notK, extract2_0, extract2_1, extract3_0, extract3_1, extract3_2, here_load, here_fieldAt, here_indexAt, here_extract, here_un, here_conv, here_slice, here_bin, here_nil, and_here, true_and, Nat.zero_add, Nat.add_assoc, Nat.add_zero, Int.toNat_natCast, size_alloc, World.cell?_drew, World.frozen?_drew, Bool.not_true, Bool.not_false, dec_t, dec_f, int_eq_t, int_eq_f, int_ne_t, int_ne_f, wrap_in, klen23, hlen23, kbgtr3, kbs22_0, kbneq9, kbneq4, klen22, hlen22, kblss3, kia23, kld2, kbgtr2, kbrem2, kia22, kld9, kbs22_1_0, ksl22_010, kbadd3, ksl22_100, kblss2, kia32, kld4, kbsub3, kst4, kbeql3, kbeql4, kbneq3, kbgeq3, kbrem3, kbneq2, kbeql9, kbs22_3_0_1_2, kbs23_2_0_1, kbeql2, klen9, hlen9, kmax3_ft, kmin3_ft, kbs23_1_0, kbeql22n, kbeql22z, kmax2_ft, ksl22_111, ksl22_110, ksl22_011, ksl22_011z, ksl23_011, ksl23_011z]
    obtain ⟨A', cap, F', w', h, ho, hc, hf⟩ := apart_run (P := Try.prog) (w := w) tyStr (some ad) l.length c (l.map Value.string) (by simp) hr.src (str_one l) (by omega) (by omega) 22
    refine appK h ?_
    simp (maxSteps := 1000000) (disch := omega) only [hid1, hid2, optK_some, fzK_false, nilK_ptr, brK_true, brK_false, guardK_tt, guardK_ff, guardK_tf, guardK_ft, takeG_tt, takeG_ff, takeG_tf, takeG_ft, pickK_t, pickK_f, pickT_t, pickT_f, notK, extract2_0, extract2_1, extract3_0, extract3_1, extract3_2, here_load, here_fieldAt, here_indexAt, here_extract, here_un, here_conv, here_slice, here_bin, here_nil, and_here, true_and, Nat.zero_add, Nat.add_assoc, Nat.add_zero, Int.toNat_natCast, size_alloc, World.cell?_drew, World.frozen?_drew, Bool.not_true, Bool.not_false, dec_t, dec_f, int_eq_t, int_eq_f, int_ne_t, int_ne_f, wrap_in, klen23, hlen23, kbgtr3, kbs22_0, kbneq9, kbneq4, klen22, hlen22, kblss3, kia23, kld2, kbgtr2, kbrem2, kia22, kld9, kbs22_1_0, ksl22_010, kbadd3, ksl22_100, kblss2, kia32, kld4, kbsub3, kst4, kbeql3, kbeql4, kbneq3, kbgeq3, kbrem3, kbneq2, kbeql9, kbs22_3_0_1_2, kbs23_2_0_1, kbeql2, klen9, hlen9, kmax3_ft, kmin3_ft, kbs23_1_0, kbeql22n, kbeql22z, kmax2_ft, ksl22_111, ksl22_110, ksl22_011, ksl22_011z, ksl23_011, ksl23_011z]
    exact hK A' cap F' w' ho hc hf
/-- A row mixed by draws. -/
def mixL : Nat → List ByteArray → List Int → List ByteArray
  | 0, _, _ => []
  | k + 1, rest, ds => rest.getD (place (ds.headD 0) rest.length) default :: mixL k (rest.take (place (ds.headD 0) rest.length) ++ rest.drop (place (ds.headD 0) rest.length + 1)) ds.tail
theorem mixL_len : ∀ (n : Nat) (l : List ByteArray) (ds : List Int), (mixL n l ds).length = n
  | 0, _, _ => rfl
  | n + 1, l, ds => by rw [mixL, List.length_cons, mixL_len n]
theorem append1_run {P : Program} {w : World} {t e : TypeId} {z : Value} {bytes : Nat} (T : ElemTy P t e z 1 bytes) {v : Value} {n : Nat} {xs : List Value} {F : Option Nat} (ho : Own w e 1 v n xs F) (x : Value) (h1 : x.oneCell' = true)
    (hb : (n + 1) * bytes ≤ 140737488355328) (hb2 : n + 1 ≤ 9223372036854775807) (ty : TypeId) :
    ∃ A' cap F' w', (Builtin.append_ #[t, t] ty #[v, .slice (some ⟨w.heap.size, 0, none⟩) 1 1]).run P (w.alloc (.cells #[x] e)) = .ok (.slice A' (n + 1) cap) w' ∧ Own w' e 1 (.slice A' (n + 1) cap) (n + 1) (xs ++ [x]) F' ∧ Chg (fun k => F = some k) w w' ∧ (∀ k, F' = some k → F = some k ∨ w.heap.size ≤ k) := by
  have hc := (Chg.refl (fun _ => False) w).alloc (.cells #[x] e)
  obtain ⟨A', cap, F', w', h, ho', hc', hf⟩ := app_run T (ho.chg hc (fun _ _ h => h)) (some ⟨w.heap.size, 0, none⟩) 1 1 [x] (by simp) (Src.one (by rw [blk_cell (blk_new _ _)]; rfl)) (by simpa using h1) hb hb2 ty
  refine ⟨A', cap, F', w', h, ho', ?_, fun k hk => ?_⟩
  · exact (hc.mono (fun _ _ h => h.elim)).trans hc'
  · rcases hf k hk with h | h
    · exact .inl h
    · simp at h; omega
theorem mix_any {l : List ByteArray} {A : Option Addr} {c : Nat} {ds : List Int} {B : Option Addr} {d : Nat} {w : World} {K : Value → World → Prop} (hr : Reads w A (l.map Value.string)) (hl : l.length ≤ 1000) (hd : Reads w B (ds.map (Value.int .i64))) (hdl : ds.length ≤ 9223372036854775807) (hdb : ∀ x ∈ ds, x ≤ 9223372036854775807)
    (hK : ∀ A' c' w', Reads w' A' ((mixL l.length l ds).map Value.string) → Qt w w' → K (.slice A' l.length c') w') : CallK Try.prog 11 #[.slice A l.length c, .slice B ds.length d] K w := by
  refine F11_calls _ _ _ _ ?_; unfold F11
  refine ck16 (clone_any hr hl ?_)
  intro A1 c1 F1 w1 ho1 hq1 hF1
  simp (maxSteps := 1000000) (disch := omega) only [hid1, hid2, optK_some, fzK_false, nilK_ptr, brK_true, brK_false, guardK_tt, guardK_ff, guardK_tf, guardK_ft, takeG_tt, takeG_ff, takeG_tf, takeG_ft, pickK_t, pickK_f, pickT_t, pickT_f, notK, extract2_0, extract2_1, extract3_0, extract3_1, extract3_2, here_load, here_fieldAt, here_indexAt, here_extract, here_un, here_conv, here_slice, here_bin, here_nil, and_here, true_and, Nat.zero_add, Nat.add_assoc, Nat.add_zero, Int.toNat_natCast, size_alloc, World.cell?_drew, World.frozen?_drew, Bool.not_true, Bool.not_false, dec_t, dec_f, int_eq_t, int_eq_f, int_ne_t, int_ne_f, wrap_in, klen23, hlen23, kbgtr3, kbs22_0, kbneq9, kbneq4, klen22, hlen22, kblss3, kia23, kld2, kbgtr2, kbrem2, kia22, kld9, kbs22_1_0, ksl22_010, kbadd3, ksl22_100, kblss2, kia32, kld4, kbsub3, kst4, kbeql3, kbeql4, kbneq3, kbgeq3, kbrem3, kbneq2, kbeql9, kbs22_3_0_1_2, kbs23_2_0_1, kbeql2, klen9, hlen9, kmax3_ft, kmin3_ft, kbs23_1_0, kbeql22n, kbeql22z, kmax2_ft, ksl22_111, ksl22_110, ksl22_011, ksl22_011z, ksl23_011, ksl23_011z]
  refine loopK3 (fun r o v w' => ∃ (i : Nat) (rest out : List ByteArray) (F G : Option Nat), v = .int .i64 i ∧ i ≤ l.length ∧ rest.length + i = l.length ∧ out.length = i ∧ Own w' 9 1 r rest.length (rest.map Value.string) F ∧ Own w' 9 1 o out.length (out.map Value.string) G ∧ Qt w w' ∧ (∀ k, F = some k → w.heap.size ≤ k) ∧ (∀ k, G = some k → w.heap.size ≤ k) ∧ (∀ k, F = some k → G ≠ some k) ∧ out ++ mixL rest.length rest (ds.drop i) = mixL l.length l ds)
    (fun _ _ v _ => l.length - (intOf v).toNat) ⟨0, l, [], F1, none, rfl, by omega, rfl, rfl, ho1, Own.nil _ _ _, hq1, hF1, fun _ h => (by cases h), fun _ _ h => (by cases h), rfl⟩ ?_
  rintro _ r o _ w' ⟨i, rest, out, F, G, rfl, hi, hri, hoi, hor, hoo, hq, hF, hG, hFG, hmix⟩
  by_cases hlt : i < l.length
  · obtain ⟨g, cr, rfl, rfl, hrow⟩ := hor.pos (by omega)
    have hrc := hrow.cap_le
    simp (maxSteps := 1000000) (disch := omega) only [hid1, hid2, optK_some, fzK_false, nilK_ptr, brK_true, brK_false, guardK_tt, guardK_ff, guardK_tf, guardK_ft, takeG_tt, takeG_ff, takeG_tf, takeG_ft, pickK_t, pickK_f, pickT_t, pickT_f, notK, extract2_0, extract2_1, extract3_0, extract3_1, extract3_2, here_load, here_fieldAt, here_indexAt, here_extract, here_un, here_conv, here_slice, here_bin, here_nil, and_here, true_and, Nat.zero_add, Nat.add_assoc, Nat.add_zero, Int.toNat_natCast, size_alloc, World.cell?_drew, World.frozen?_drew, Bool.not_true, Bool.not_false, dec_t, dec_f, int_eq_t, int_eq_f, int_ne_t, int_ne_f, wrap_in, klen23, hlen23, kbgtr3, kbs22_0, kbneq9, kbneq4, klen22, hlen22, kblss3, kia23, kld2, kbgtr2, kbrem2, kia22, kld9, kbs22_1_0, ksl22_010, kbadd3, ksl22_100, kblss2, kia32, kld4, kbsub3, kst4, kbeql3, kbeql4, kbneq3, kbgeq3, kbrem3, kbneq2, kbeql9, kbs22_3_0_1_2, kbs23_2_0_1, kbeql2, klen9, hlen9, kmax3_ft, kmin3_ft, kbs23_1_0, kbeql22n, kbeql22z, kmax2_ft, ksl22_111, ksl22_110, ksl22_011, ksl22_011z, ksl23_011, ksl23_011z]
    refine cutK1 (fun v w'' => v = .int .i64 ((ds.drop i).headD 0) ∧ w'' = w') ?_ ?_
    · by_cases hid : i < ds.length
      · obtain ⟨b, off, rfl, hcell⟩ := (hd.quiet hq).get hid
        simp (maxSteps := 1000000) (disch := omega) only [hid1, hid2, optK_some, fzK_false, nilK_ptr, brK_true, brK_false, guardK_tt, guardK_ff, guardK_tf, guardK_ft, takeG_tt, takeG_ff, takeG_tf, takeG_ft, pickK_t, pickK_f, pickT_t, pickT_f, notK, extract2_0, extract2_1, extract3_0, extract3_1, extract3_2, here_load, here_fieldAt, here_indexAt, here_extract, here_un, here_conv, here_slice, here_bin, here_nil, and_here, true_and, Nat.zero_add, Nat.add_assoc, Nat.add_zero, Int.toNat_natCast, size_alloc, World.cell?_drew, World.frozen?_drew, Bool.not_true, Bool.not_false, dec_t, dec_f, int_eq_t, int_eq_f, int_ne_t, int_ne_f, wrap_in, klen23, hlen23, kbgtr3, kbs22_0, kbneq9, kbneq4, klen22, hlen22, kblss3, kia23, kld2, kbgtr2, kbrem2, kia22, kld9, kbs22_1_0, ksl22_010, kbadd3, ksl22_100, kblss2, kia32, kld4, kbsub3, kst4, kbeql3, kbeql4, kbneq3, kbgeq3, kbrem3, kbneq2, kbeql9, kbs22_3_0_1_2, kbs23_2_0_1, kbeql2, klen9, hlen9, kmax3_ft, kmin3_ft, kbs23_1_0, kbeql22n, kbeql22z, kmax2_ft, ksl22_111, ksl22_110, ksl22_011, ksl22_011z, ksl23_011, ksl23_011z, hcell]
        refine ⟨?_, rfl⟩
        simp [List.head?_drop, hid]
      · simp (maxSteps := 1000000) (disch := omega) only [hid1, hid2, optK_some, fzK_false, nilK_ptr, brK_true, brK_false, guardK_tt, guardK_ff, guardK_tf, guardK_ft, takeG_tt, takeG_ff, takeG_tf, takeG_ft, pickK_t, pickK_f, pickT_t, pickT_f, notK, extract2_0, extract2_1, extract3_0, extract3_1, extract3_2, here_load, here_fieldAt, here_indexAt, here_extract, here_un, here_conv, here_slice, here_bin, here_nil, and_here, true_and, Nat.zero_add, Nat.add_assoc, Nat.add_zero, Int.toNat_natCast, size_alloc, World.cell?_drew, World.frozen?_drew, Bool.not_true, Bool.not_false, dec_t, dec_f, int_eq_t, int_eq_f, int_ne_t, int_ne_f, wrap_in, klen23, hlen23, kbgtr3, kbs22_0, kbneq9, kbneq4, klen22, hlen22, kblss3, kia23, kld2, kbgtr2, kbrem2, kia22, kld9, kbs22_1_0, ksl22_010, kbadd3, ksl22_100, kblss2, kia32, kld4, kbsub3, kst4, kbeql3, kbeql4, kbneq3, kbgeq3, kbrem3, kbneq2, kbeql9, kbs22_3_0_1_2, kbs23_2_0_1, kbeql2, klen9, hlen9, kmax3_ft, kmin3_ft, kbs23_1_0, kbeql22n, kbeql22z, kmax2_ft, ksl22_111, ksl22_110, ksl22_011, ksl22_011z, ksl23_011, ksl23_011z]
        refine ⟨?_, rfl⟩
        rw [List.drop_eq_nil_of_le (by omega)]; rfl
    rintro _ _ w'' ⟨rfl, hw⟩
    obtain rfl : w'' = w' := hw
    have hdd : (ds.drop i).headD 0 ≤ 9223372036854775807 := by
      cases h : ds.drop i with
      | nil => simp
      | cons x t => exact hdb x (List.mem_of_mem_drop (by rw [h]; exact List.mem_cons_self))
    obtain ⟨dv, hdv⟩ : ∃ dv, dv = (ds.drop i).headD 0 := ⟨_, rfl⟩
    have hmix2 := hmix
    rw [show rest.length = (rest.length - 1) + 1 by omega, mixL, ← hdv] at hmix2
    rw [← hdv] at hdd ⊢
    simp (maxSteps := 1000000) (disch := omega) only [hid1, hid2, optK_some, fzK_false, nilK_ptr, brK_true, brK_false, guardK_tt, guardK_ff, guardK_tf, guardK_ft, takeG_tt, takeG_ff, takeG_tf, takeG_ft, pickK_t, pickK_f, pickT_t, pickT_f, notK, extract2_0, extract2_1, extract3_0, extract3_1, extract3_2, here_load, here_fieldAt, here_indexAt, here_extract, here_un, here_conv, here_slice, here_bin, here_nil, and_here, true_and, Nat.zero_add, Nat.add_assoc, Nat.add_zero, Int.toNat_natCast, size_alloc, World.cell?_drew, World.frozen?_drew, Bool.not_true, Bool.not_false, dec_t, dec_f, int_eq_t, int_eq_f, int_ne_t, int_ne_f, wrap_in, klen23, hlen23, kbgtr3, kbs22_0, kbneq9, kbneq4, klen22, hlen22, kblss3, kia23, kld2, kbgtr2, kbrem2, kia22, kld9, kbs22_1_0, ksl22_010, kbadd3, ksl22_100, kblss2, kia32, kld4, kbsub3, kst4, kbeql3, kbeql4, kbneq3, kbgeq3, kbrem3, kbneq2, kbeql9, kbs22_3_0_1_2, kbs23_2_0_1, kbeql2, klen9, hlen9, kmax3_ft, kmin3_ft, kbs23_1_0, kbeql22n, kbeql22z, kmax2_ft, ksl22_111, ksl22_110, ksl22_011, ksl22_011z, ksl23_011, ksl23_011z]
    refine ck17 (at_any hdd (show 0 < rest.length by omega) ?_)
    have hp := place_lt dv (show 0 < rest.length by omega)
    generalize place dv rest.length = p at *
    have hcell : w''.cell? ⟨g, p, none⟩ = some (.string (rest.getD p default)) := by
      rw [hrow.cell p (by omega)]; simp [hp]
    simp (maxSteps := 1000000) (disch := omega) only [hid1, hid2, optK_some, fzK_false, nilK_ptr, brK_true, brK_false, guardK_tt, guardK_ff, guardK_tf, guardK_ft, takeG_tt, takeG_ff, takeG_tf, takeG_ft, pickK_t, pickK_f, pickT_t, pickT_f, notK, extract2_0, extract2_1, extract3_0, extract3_1, extract3_2, here_load, here_fieldAt, here_indexAt, here_extract, here_un, here_conv, here_slice, here_bin, here_nil, and_here, true_and, Nat.zero_add, Nat.add_assoc, Nat.add_zero, Int.toNat_natCast, size_alloc, World.cell?_drew, World.frozen?_drew, Bool.not_true, Bool.not_false, dec_t, dec_f, int_eq_t, int_eq_f, int_ne_t, int_ne_f, wrap_in, klen23, hlen23, kbgtr3, kbs22_0, kbneq9, kbneq4, klen22, hlen22, kblss3, kia23, kld2, kbgtr2, kbrem2, kia22, kld9, kbs22_1_0, ksl22_010, kbadd3, ksl22_100, kblss2, kia32, kld4, kbsub3, kst4, kbeql3, kbeql4, kbneq3, kbgeq3, kbrem3, kbneq2, kbeql9, kbs22_3_0_1_2, kbs23_2_0_1, kbeql2, klen9, hlen9, kmax3_ft, kmin3_ft, kbs23_1_0, kbeql22n, kbeql22z, kmax2_ft, ksl22_111, ksl22_110, ksl22_011, ksl22_011z, ksl23_011, ksl23_011z, hcell]
    obtain ⟨A2, c2, G2, w2, ha, hoo2, hc2, hf2⟩ := append1_run (P := Try.prog) (w := w'') tyStr hoo (.string (rest.getD p default)) rfl (by omega) (by omega) 22
    refine appK ha ?_
    simp (maxSteps := 1000000) (disch := omega) only [hid1, hid2, optK_some, fzK_false, nilK_ptr, brK_true, brK_false, guardK_tt, guardK_ff, guardK_tf, guardK_ft, takeG_tt, takeG_ff, takeG_tf, takeG_ft, pickK_t, pickK_f, pickT_t, pickT_f, notK, extract2_0, extract2_1, extract3_0, extract3_1, extract3_2, here_load, here_fieldAt, here_indexAt, here_extract, here_un, here_conv, here_slice, here_bin, here_nil, and_here, true_and, Nat.zero_add, Nat.add_assoc, Nat.add_zero, Int.toNat_natCast, size_alloc, World.cell?_drew, World.frozen?_drew, Bool.not_true, Bool.not_false, dec_t, dec_f, int_eq_t, int_eq_f, int_ne_t, int_ne_f, wrap_in, klen23, hlen23, kbgtr3, kbs22_0, kbneq9, kbneq4, klen22, hlen22, kblss3, kia23, kld2, kbgtr2, kbrem2, kia22, kld9, kbs22_1_0, ksl22_010, kbadd3, ksl22_100, kblss2, kia32, kld4, kbsub3, kst4, kbeql3, kbeql4, kbneq3, kbgeq3, kbrem3, kbneq2, kbeql9, kbs22_3_0_1_2, kbs23_2_0_1, kbeql2, klen9, hlen9, kmax3_ft, kmin3_ft, kbs23_1_0, kbeql22n, kbeql22z, kmax2_ft, ksl22_111, ksl22_110, ksl22_011, ksl22_011z, ksl23_011, ksl23_011z]
    have hgF := hF g rfl
    have hrow2 := hrow.chg hc2 (fun h => hFG g rfl h)
    refine cv18 (delStr_lt g rest.length cr p (p + 1) _ (by omega) _ w2 hrow2 (by omega) (by omega) (str_one _)) ?_
    rintro w3 ⟨hrow3, hc3⟩
    have hlen : (rest.take p ++ rest.drop (p + 1)).length = rest.length - (p + 1 - p) := by simp; omega
    have hlt2 : ∀ k, G2 = some k → k ≠ g := fun k hk => by
      rcases hf2 k hk with h | h
      · intro e; subst e; exact hFG k rfl h
      · have := hrow.lt; omega
    simp (maxSteps := 1000000) (disch := omega) only [hid1, hid2, optK_some, fzK_false, nilK_ptr, brK_true, brK_false, guardK_tt, guardK_ff, guardK_tf, guardK_ft, takeG_tt, takeG_ff, takeG_tf, takeG_ft, pickK_t, pickK_f, pickT_t, pickT_f, notK, extract2_0, extract2_1, extract3_0, extract3_1, extract3_2, here_load, here_fieldAt, here_indexAt, here_extract, here_un, here_conv, here_slice, here_bin, here_nil, and_here, true_and, Nat.zero_add, Nat.add_assoc, Nat.add_zero, Int.toNat_natCast, size_alloc, World.cell?_drew, World.frozen?_drew, Bool.not_true, Bool.not_false, dec_t, dec_f, int_eq_t, int_eq_f, int_ne_t, int_ne_f, wrap_in, klen23, hlen23, kbgtr3, kbs22_0, kbneq9, kbneq4, klen22, hlen22, kblss3, kia23, kld2, kbgtr2, kbrem2, kia22, kld9, kbs22_1_0, ksl22_010, kbadd3, ksl22_100, kblss2, kia32, kld4, kbsub3, kst4, kbeql3, kbeql4, kbneq3, kbgeq3, kbrem3, kbneq2, kbeql9, kbs22_3_0_1_2, kbs23_2_0_1, kbeql2, klen9, hlen9, kmax3_ft, kmin3_ft, kbs23_1_0, kbeql22n, kbeql22z, kmax2_ft, ksl22_111, ksl22_110, ksl22_011, ksl22_011z, ksl23_011, ksl23_011z]
    refine ⟨⟨i + 1, rest.take p ++ rest.drop (p + 1), out ++ [rest.getD p default], some g, G2, by go_num, by omega, by rw [hlen]; omega, by simp; omega, ?_, ?_, (hq.then hc2 (fun k hk => hG k hk)).then hc3 (fun k hk => by rw [hk]; exact hgF), hF, ?_, ?_, ?_⟩, by simp [rel, intOf]; omega⟩
    · rw [hlen, List.map_append, List.map_take, List.map_drop]
      simp only [Nat.mul_one] at hrow3
      exact .inr ⟨g, cr, rfl, rfl, hrow3⟩
    · rw [List.length_append, List.map_append]
      exact hoo2.chg hc3 (fun k hk h => hlt2 k hk h)
    · intro k hk
      rcases hf2 k hk with h | h
      · exact hG k h
      · have := hq.size; omega
    · intro k hk h
      cases hk
      exact hlt2 _ h rfl
    · rw [hlen, List.append_assoc, show rest.length - (p + 1 - p) = rest.length - 1 by omega, ← hmix2]
      simp [List.tail_drop]
  · obtain ⟨Ao, co, rfl, hco1, hco2⟩ := hoo.shape
    simp (maxSteps := 1000000) (disch := omega) only [hid1, hid2, optK_some, fzK_false, nilK_ptr, brK_true, brK_false, guardK_tt, guardK_ff, guardK_tf, guardK_ft, takeG_tt, takeG_ff, takeG_tf, takeG_ft, pickK_t, pickK_f, pickT_t, pickT_f, notK, extract2_0, extract2_1, extract3_0, extract3_1, extract3_2, here_load, here_fieldAt, here_indexAt, here_extract, here_un, here_conv, here_slice, here_bin, here_nil, and_here, true_and, Nat.zero_add, Nat.add_assoc, Nat.add_zero, Int.toNat_natCast, size_alloc, World.cell?_drew, World.frozen?_drew, Bool.not_true, Bool.not_false, dec_t, dec_f, int_eq_t, int_eq_f, int_ne_t, int_ne_f, wrap_in, klen23, hlen23, kbgtr3, kbs22_0, kbneq9, kbneq4, klen22, hlen22, kblss3, kia23, kld2, kbgtr2, kbrem2, kia22, kld9, kbs22_1_0, ksl22_010, kbadd3, ksl22_100, kblss2, kia32, kld4, kbsub3, kst4, kbeql3, kbeql4, kbneq3, kbgeq3, kbrem3, kbneq2, kbeql9, kbs22_3_0_1_2, kbs23_2_0_1, kbeql2, klen9, hlen9, kmax3_ft, kmin3_ft, kbs23_1_0, kbeql22n, kbeql22z, kmax2_ft, ksl22_111, ksl22_110, ksl22_011, ksl22_011z, ksl23_011, ksl23_011z]
    have hcl := own_clip hoo
    refine ck19 (clip22_any hcl.1 hcl.2.1 hcl.2.2 ?_)
    simp (maxSteps := 1000000) (disch := omega) only [hid1, hid2, optK_some, fzK_false, nilK_ptr, brK_true, brK_false, guardK_tt, guardK_ff, guardK_tf, guardK_ft, takeG_tt, takeG_ff, takeG_tf, takeG_ft, pickK_t, pickK_f, pickT_t, pickT_f, notK, extract2_0, extract2_1, extract3_0, extract3_1, extract3_2, here_load, here_fieldAt, here_indexAt, here_extract, here_un, here_conv, here_slice, here_bin, here_nil, and_here, true_and, Nat.zero_add, Nat.add_assoc, Nat.add_zero, Int.toNat_natCast, size_alloc, World.cell?_drew, World.frozen?_drew, Bool.not_true, Bool.not_false, dec_t, dec_f, int_eq_t, int_eq_f, int_ne_t, int_ne_f, wrap_in, klen23, hlen23, kbgtr3, kbs22_0, kbneq9, kbneq4, klen22, hlen22, kblss3, kia23, kld2, kbgtr2, kbrem2, kia22, kld9, kbs22_1_0, ksl22_010, kbadd3, ksl22_100, kblss2, kia32, kld4, kbsub3, kst4, kbeql3, kbeql4, kbneq3, kbgeq3, kbrem3, kbneq2, kbeql9, kbs22_3_0_1_2, kbs23_2_0_1, kbeql2, klen9, hlen9, kmax3_ft, kmin3_ft, kbs23_1_0, kbeql22n, kbeql22z, kmax2_ft, ksl22_111, ksl22_110, ksl22_011, ksl22_011z, ksl23_011, ksl23_011z]
    obtain rfl : rest = [] := List.eq_nil_of_length_eq_zero (by omega)
    simp [mixL] at hmix
    rw [hoi, show i = l.length by omega]
    exact hK Ao _ w' (by rw [← hmix]; exact Reads.of_own hoo) hq
/-- The turns that go round. -/
def turnsL (n : Int) (k : Nat) : List Int := (List.range k).map fun i : Nat => (i : Int) % (if n < 1 then 1 else n)
theorem turnsL_len (n : Int) (k : Nat) : (turnsL n k).length = k := by simp [turnsL]
def turnsN (rounds : Int) : Nat := (if 4096 < (if rounds < 0 then 0 else rounds) then 4096 else (if rounds < 0 then 0 else rounds)).toNat
theorem turns_any {n rounds : Int} {w : World} {K : Value → World → Prop} (hn : n ≤ 9223372036854775807)
    (hK : ∀ A' c' w', Reads w' A' ((turnsL n (turnsN rounds)).map (Value.int .i64)) → Qt w w' → K (.slice A' (turnsN rounds) c') w') : CallK Try.prog 14 #[.int .i64 n, .int .i64 rounds] K w := by
  refine F14_calls _ _ _ _ ?_; unfold F14
  obtain ⟨m, hm⟩ : ∃ m, m = turnsN rounds := ⟨_, rfl⟩
  have hm' : (if 4096 < (if rounds < 0 then 0 else rounds) then 4096 else (if rounds < 0 then 0 else rounds)) = (m : Int) := by
    rw [hm]; unfold turnsN; split <;> split <;> omega
  have hm2 : m ≤ 4096 := by rw [hm]; unfold turnsN; split <;> split <;> omega
  rw [← hm] at hK
  simp (maxSteps := 1000000) (disch := omega) only [hid1, hid2, optK_some, fzK_false, nilK_ptr, brK_true, brK_false, guardK_tt, guardK_ff, guardK_tf, guardK_ft, takeG_tt, takeG_ff, takeG_tf, takeG_ft, pickK_t, pickK_f, pickT_t, pickT_f, notK, extract2_0, extract2_1, extract3_0, extract3_1, extract3_2, here_load, here_fieldAt, here_indexAt, here_extract, here_un, here_conv, here_slice, here_bin, here_nil, and_here, true_and, Nat.zero_add, Nat.add_assoc, Nat.add_zero, Int.toNat_natCast, size_alloc, World.cell?_drew, World.frozen?_drew, Bool.not_true, Bool.not_false, dec_t, dec_f, int_eq_t, int_eq_f, int_ne_t, int_ne_f, wrap_in, klen23, hlen23, kbgtr3, kbs22_0, kbneq9, kbneq4, klen22, hlen22, kblss3, kia23, kld2, kbgtr2, kbrem2, kia22, kld9, kbs22_1_0, ksl22_010, kbadd3, ksl22_100, kblss2, kia32, kld4, kbsub3, kst4, kbeql3, kbeql4, kbneq3, kbgeq3, kbrem3, kbneq2, kbeql9, kbs22_3_0_1_2, kbs23_2_0_1, kbeql2, klen9, hlen9, kmax3_ft, kmin3_ft, kbs23_1_0, kbeql22n, kbeql22z, kmax2_ft, ksl22_111, ksl22_110, ksl22_011, ksl22_011z, ksl23_011, ksl23_011z, hm']
  refine loopK2 (fun o v w' => ∃ (i : Nat) (G : Option Nat), v = .int .i64 i ∧ i ≤ m ∧ Own w' 2 1 o i ((turnsL n i).map (Value.int .i64)) G ∧ Qt w w' ∧ (∀ k, G = some k → w.heap.size ≤ k)) (fun _ v _ => m - (intOf v).toNat) ⟨0, none, rfl, by omega, Own.nil _ _ _, Qt.refl, fun _ h => (by cases h)⟩ ?_
  rintro _ o _ w' ⟨i, G, rfl, hi, hoo, hq, hG⟩
  by_cases hlt : i < m
  · have hb : 1 ≤ (if n < 1 then 1 else n) ∧ (if n < 1 then 1 else n) ≤ 9223372036854775807 := by split <;> omega
    simp (maxSteps := 1000000) (disch := omega) only [hid1, hid2, optK_some, fzK_false, nilK_ptr, brK_true, brK_false, guardK_tt, guardK_ff, guardK_tf, guardK_ft, takeG_tt, takeG_ff, takeG_tf, takeG_ft, pickK_t, pickK_f, pickT_t, pickT_f, notK, extract2_0, extract2_1, extract3_0, extract3_1, extract3_2, here_load, here_fieldAt, here_indexAt, here_extract, here_un, here_conv, here_slice, here_bin, here_nil, and_here, true_and, Nat.zero_add, Nat.add_assoc, Nat.add_zero, Int.toNat_natCast, size_alloc, World.cell?_drew, World.frozen?_drew, Bool.not_true, Bool.not_false, dec_t, dec_f, int_eq_t, int_eq_f, int_ne_t, int_ne_f, wrap_in, klen23, hlen23, kbgtr3, kbs22_0, kbneq9, kbneq4, klen22, hlen22, kblss3, kia23, kld2, kbgtr2, kbrem2, kia22, kld9, kbs22_1_0, ksl22_010, kbadd3, ksl22_100, kblss2, kia32, kld4, kbsub3, kst4, kbeql3, kbeql4, kbneq3, kbgeq3, kbrem3, kbneq2, kbeql9, kbs22_3_0_1_2, kbs23_2_0_1, kbeql2, klen9, hlen9, kmax3_ft, kmin3_ft, kbs23_1_0, kbeql22n, kbeql22z, kmax2_ft, ksl22_111, ksl22_110, ksl22_011, ksl22_011z, ksl23_011, ksl23_011z]
    obtain ⟨A2, c2, G2, w2, ha, hoo2, hc2, hf2⟩ := append1_run (P := Try.prog) (w := w') tyI64 hoo (.int .i64 ((i : Int) % (if n < 1 then 1 else n))) rfl (by omega) (by omega) 23
    refine appK ha ?_
    simp (maxSteps := 1000000) (disch := omega) only [hid1, hid2, optK_some, fzK_false, nilK_ptr, brK_true, brK_false, guardK_tt, guardK_ff, guardK_tf, guardK_ft, takeG_tt, takeG_ff, takeG_tf, takeG_ft, pickK_t, pickK_f, pickT_t, pickT_f, notK, extract2_0, extract2_1, extract3_0, extract3_1, extract3_2, here_load, here_fieldAt, here_indexAt, here_extract, here_un, here_conv, here_slice, here_bin, here_nil, and_here, true_and, Nat.zero_add, Nat.add_assoc, Nat.add_zero, Int.toNat_natCast, size_alloc, World.cell?_drew, World.frozen?_drew, Bool.not_true, Bool.not_false, dec_t, dec_f, int_eq_t, int_eq_f, int_ne_t, int_ne_f, wrap_in, klen23, hlen23, kbgtr3, kbs22_0, kbneq9, kbneq4, klen22, hlen22, kblss3, kia23, kld2, kbgtr2, kbrem2, kia22, kld9, kbs22_1_0, ksl22_010, kbadd3, ksl22_100, kblss2, kia32, kld4, kbsub3, kst4, kbeql3, kbeql4, kbneq3, kbgeq3, kbrem3, kbneq2, kbeql9, kbs22_3_0_1_2, kbs23_2_0_1, kbeql2, klen9, hlen9, kmax3_ft, kmin3_ft, kbs23_1_0, kbeql22n, kbeql22z, kmax2_ft, ksl22_111, ksl22_110, ksl22_011, ksl22_011z, ksl23_011, ksl23_011z]
    refine ⟨⟨i + 1, G2, by go_num, by omega, ?_, hq.then hc2 hG, fun k hk => ?_⟩, by simp [rel, intOf]; omega⟩
    · rw [show turnsL n (i + 1) = turnsL n i ++ [(i : Int) % (if n < 1 then 1 else n)] by simp [turnsL, List.range_succ], List.map_append]
      exact hoo2
    · rcases hf2 k hk with h | h
      · exact hG k h
      · have := hq.size; omega
  · obtain ⟨Ao, co, rfl, hco1, hco2⟩ := hoo.shape
    simp (maxSteps := 1000000) (disch := omega) only [hid1, hid2, optK_some, fzK_false, nilK_ptr, brK_true, brK_false, guardK_tt, guardK_ff, guardK_tf, guardK_ft, takeG_tt, takeG_ff, takeG_tf, takeG_ft, pickK_t, pickK_f, pickT_t, pickT_f, notK, extract2_0, extract2_1, extract3_0, extract3_1, extract3_2, here_load, here_fieldAt, here_indexAt, here_extract, here_un, here_conv, here_slice, here_bin, here_nil, and_here, true_and, Nat.zero_add, Nat.add_assoc, Nat.add_zero, Int.toNat_natCast, size_alloc, World.cell?_drew, World.frozen?_drew, Bool.not_true, Bool.not_false, dec_t, dec_f, int_eq_t, int_eq_f, int_ne_t, int_ne_f, wrap_in, klen23, hlen23, kbgtr3, kbs22_0, kbneq9, kbneq4, klen22, hlen22, kblss3, kia23, kld2, kbgtr2, kbrem2, kia22, kld9, kbs22_1_0, ksl22_010, kbadd3, ksl22_100, kblss2, kia32, kld4, kbsub3, kst4, kbeql3, kbeql4, kbneq3, kbgeq3, kbrem3, kbneq2, kbeql9, kbs22_3_0_1_2, kbs23_2_0_1, kbeql2, klen9, hlen9, kmax3_ft, kmin3_ft, kbs23_1_0, kbeql22n, kbeql22z, kmax2_ft, ksl22_111, ksl22_110, ksl22_011, ksl22_011z, ksl23_011, ksl23_011z]
    have hcl := own_clip hoo
    refine ck20 (clip23_any hcl.1 hcl.2.1 hcl.2.2 ?_)
    simp (maxSteps := 1000000) (disch := omega) only [hid1, hid2, optK_some, fzK_false, nilK_ptr, brK_true, brK_false, guardK_tt, guardK_ff, guardK_tf, guardK_ft, takeG_tt, takeG_ff, takeG_tf, takeG_ft, pickK_t, pickK_f, pickT_t, pickT_f, notK, extract2_0, extract2_1, extract3_0, extract3_1, extract3_2, here_load, here_fieldAt, here_indexAt, here_extract, here_un, here_conv, here_slice, here_bin, here_nil, and_here, true_and, Nat.zero_add, Nat.add_assoc, Nat.add_zero, Int.toNat_natCast, size_alloc, World.cell?_drew, World.frozen?_drew, Bool.not_true, Bool.not_false, dec_t, dec_f, int_eq_t, int_eq_f, int_ne_t, int_ne_f, wrap_in, klen23, hlen23, kbgtr3, kbs22_0, kbneq9, kbneq4, klen22, hlen22, kblss3, kia23, kld2, kbgtr2, kbrem2, kia22, kld9, kbs22_1_0, ksl22_010, kbadd3, ksl22_100, kblss2, kia32, kld4, kbsub3, kst4, kbeql3, kbeql4, kbneq3, kbgeq3, kbrem3, kbneq2, kbeql9, kbs22_3_0_1_2, kbs23_2_0_1, kbeql2, klen9, hlen9, kmax3_ft, kmin3_ft, kbs23_1_0, kbeql22n, kbeql22z, kmax2_ft, ksl22_111, ksl22_110, ksl22_011, ksl22_011z, ksl23_011, ksl23_011z]
    have e : i = m := by omega
    rw [e] at hoo ⊢
    exact hK Ao _ w' (Reads.of_own hoo) hq
end Go.Proofs.Ytijoamldocjfhaa
