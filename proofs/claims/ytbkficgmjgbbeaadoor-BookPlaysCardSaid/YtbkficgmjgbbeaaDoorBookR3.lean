/- The document's sweep and Under; texts compared; names by numbers. Conditions: at most 1000 entries. -/
import Derived.Test.YtbkficgmjgbbeaaDoorBookR2
set_option linter.unusedVariables false
set_option linter.unusedSimpArgs false
set_option maxRecDepth 100000
namespace Go.Proofs.YtbkficgmjgbbeaaDoor
open Go.RowKit Go.Cn
theorem strV_eq (l : List ByteArray) : strV l = strs (l.map (fun p => p.data.toList)) := by
  unfold strV strs
  rw [List.map_map]
  apply List.map_congr_left
  intro p _
  show Value.string p = Value.string (txt p.data.toList)
  rw [txt_list]
theorem texts_same {l : List ByteArray} {A B : Option Addr} {c d : Nat} {w : World} {K : Value → World → Prop} (ha : Reads w A (strV l)) (hb : Reads w B (strV l)) (hl : l.length ≤ 100000)
    (hK : ∀ w', Qt w w' → K (.bool true) w') : CallK Tryd.prog 15 #[.slice A l.length c, .slice B l.length d] K w := by
  rw [strV_eq] at ha hb
  have e : l.length = (l.map (fun p => p.data.toList)).length := (List.length_map ..).symm
  rw [e]
  refine texts_any ha hb (by rw [← e]; exact hl) (by rw [← e]; exact hl) ?_
  intro w' q
  rw [decide_eq_true rfl]
  exact hK w' q
set_option maxHeartbeats 1000000 in
theorem sweepR_any {w : World} {A : Option Addr} {c : Nat} {m : EM} {now age : Int} {keep : ByteArray} {K : Value → World → Prop} (hr : Reads w A (rowE m)) (hc : m.length ≤ c) (hA : (A = none ∧ c = 0) ∨ ∃ g o, A = some ⟨g, o, none⟩) (hl : m.length ≤ 1000) (hk : ∀ y ∈ m, y.2.1 = y.1)
    (h0 : -9223372036854775808 ≤ now ∧ now ≤ 1099511627776) (h1 : -9223372036854775808 ≤ age ∧ age ≤ 1099511627776)
    (hK : ∀ A' c' B' d' w', Reads w' A' (rowE (sweepM m now age keep).1) → Reads w' B' (strV (sweepM m now age keep).2) → (sweepM m now age keep).1.length ≤ c' → ((A' = none ∧ c' = 0) ∨ ∃ g o, A' = some ⟨g, o, none⟩) → Qt w w' → (∀ ad, A' = some ad → (A = some ad ∧ (sweepM m now age keep).1 = m) ∨ w.heap.size ≤ ad.block) → (∀ ad, B' = some ad → w.heap.size ≤ ad.block) →
      K (.tuple #[.slice A' (sweepM m now age keep).1.length c', .slice B' (sweepM m now age keep).2.length d']) w') : CallK Tryd.prog 14 #[.slice A m.length c, .int .i64 now, .int .i64 age, .string keep] K w := by
  refine F14_calls _ _ _ _ _ _ ?_; unfold F14
  unfold sweepM at hK
  by_cases hn : now < 0
  · rw [if_pos (.inl hn)] at hK
    simp (maxSteps := 1000000) (disch := omega) only [hid1', hid2', guardK_u, takeG_u, wrap_in64, optK_some', fzK_false', nilK_ptr, brK_true', brK_false', guardK_tt', guardK_ff', guardK_tf', guardK_ft', takeG_tt', takeG_ff', takeG_tf', takeG_ft', pickK_t', pickK_f', pickT_t', pickT_f', notK, extract2_0', extract2_1', extract3_0', extract3_1', extract3_2', here_load, here_fieldAt, here_indexAt, here_extract, here_un, here_conv, here_slice, here_bin, here_nil, and_here, true_and, Nat.zero_add, Nat.add_assoc, Nat.add_zero, Int.toNat_natCast, size_alloc, World.cell?_drew, World.frozen?_drew, Bool.not_true, Bool.not_false, Int.toNat_zero, dec_t, dec_f, int_eq_t, int_eq_f, int_ne_t, int_ne_f, wrap_in, kblss3, kld9, kld2, kia26, kld33, klen26, hlen26, kfa33_0, kbneq9, kbs26_1_0, kbadd3, kblss2, kfa33_2, kbsub2, kbs41_1_0, guardK_u]
    exact hK A c none 0 w hr (.inl rfl) hc hA Qt.refl (fun _ h => .inl ⟨h, rfl⟩) (fun _ h => by cases h)
  by_cases ha : age < 0
  · rw [if_pos (.inr ha)] at hK
    simp (maxSteps := 1000000) (disch := omega) only [hid1', hid2', guardK_u, takeG_u, wrap_in64, optK_some', fzK_false', nilK_ptr, brK_true', brK_false', guardK_tt', guardK_ff', guardK_tf', guardK_ft', takeG_tt', takeG_ff', takeG_tf', takeG_ft', pickK_t', pickK_f', pickT_t', pickT_f', notK, extract2_0', extract2_1', extract3_0', extract3_1', extract3_2', here_load, here_fieldAt, here_indexAt, here_extract, here_un, here_conv, here_slice, here_bin, here_nil, and_here, true_and, Nat.zero_add, Nat.add_assoc, Nat.add_zero, Int.toNat_natCast, size_alloc, World.cell?_drew, World.frozen?_drew, Bool.not_true, Bool.not_false, Int.toNat_zero, dec_t, dec_f, int_eq_t, int_eq_f, int_ne_t, int_ne_f, wrap_in, kblss3, kld9, kld2, kia26, kld33, klen26, hlen26, kfa33_0, kbneq9, kbs26_1_0, kbadd3, kblss2, kfa33_2, kbsub2, kbs41_1_0]
    exact hK A c none 0 w hr (.inl rfl) hc hA Qt.refl (fun _ h => .inl ⟨h, rfl⟩) (fun _ h => by cases h)
  rw [if_neg (by rintro (e | e); exact hn e; exact ha e)] at hK
  simp (maxSteps := 1000000) (disch := omega) only [hid1', hid2', guardK_u, takeG_u, wrap_in64, optK_some', fzK_false', nilK_ptr, brK_true', brK_false', guardK_tt', guardK_ff', guardK_tf', guardK_ft', takeG_tt', takeG_ff', takeG_tf', takeG_ft', pickK_t', pickK_f', pickT_t', pickT_f', notK, extract2_0', extract2_1', extract3_0', extract3_1', extract3_2', here_load, here_fieldAt, here_indexAt, here_extract, here_un, here_conv, here_slice, here_bin, here_nil, and_here, true_and, Nat.zero_add, Nat.add_assoc, Nat.add_zero, Int.toNat_natCast, size_alloc, World.cell?_drew, World.frozen?_drew, Bool.not_true, Bool.not_false, Int.toNat_zero, dec_t, dec_f, int_eq_t, int_eq_f, int_ne_t, int_ne_f, wrap_in, kblss3, kld9, kld2, kia26, kld33, klen26, hlen26, kfa33_0, kbneq9, kbs26_1_0, kbadd3, kblss2, kfa33_2, kbsub2, kbs41_1_0]
  refine loopK3 (fun u v n w' => ∃ (i : Nat) (G H : Option Nat), n = .int .i64 i ∧ i ≤ m.length ∧ Own w' 33 3 u (stayM (m.take i) now age keep).length (rowE (stayM (m.take i) now age keep)) G ∧ Own w' 9 1 v (goneM (m.take i) now age keep).length (strV (goneM (m.take i) now age keep)) H ∧ (∀ k, G = some k → w.heap.size ≤ k) ∧ (∀ k, H = some k → w.heap.size ≤ k ∧ G ≠ some k) ∧ Qt w w') (fun _ _ n _ => m.length - (intOf n).toNat) ⟨0, none, none, rfl, by omega, Own.nil _ _ _, Own.nil _ _ _, fun _ h => (by cases h), fun _ h => (by cases h), Qt.refl⟩ ?_
  rintro u v _ _ w1 ⟨i, G, H, rfl, hi, o1, p1, hG, hH, q1⟩
  obtain ⟨A1, c1, rfl, hc1, hc1'⟩ := o1.shape
  obtain ⟨B1, d1, rfl, hd1, hd1'⟩ := p1.shape
  have hgl := goneM_len (m.take i) now age keep
  have hsl : (stayM (m.take i) now age keep).length ≤ (m.take i).length := List.length_filter_le _ _
  rw [List.length_take] at hgl hsl
  by_cases hlt : i < m.length
  · have hsn := goneM_succ (now := now) (age := age) (keep := keep) hlt
    have hss := stayM_succ (now := now) (age := age) (keep := keep) hlt
    have hkey := hk m[i] (List.getElem_mem hlt)
    obtain ⟨b, o, rfl, _⟩ := ent_at hr hlt
    have T0 : ∀ w', Qt w w' → w'.cell? ⟨b, o + i * 3, none⟩ = some (.string m[i].2.1) ∧ w'.cell? ⟨b, o + (i * 3 + 1), none⟩ = some (.int .i64 m[i].2.2.1) ∧ w'.cell? ⟨b, o + (i * 3 + 2), none⟩ = some (.int .i64 m[i].2.2.2) := fun w' q => by
      obtain ⟨b', o', ee, h⟩ := ent_at (hr.quiet q) hlt
      cases ee; exact h
    have hge : goneE now age keep m[i] = (decide (m[i].2.2.2 < now - age) && decide (m[i].1 ≠ keep)) := rfl
    obtain ⟨c0, c1_, c2⟩ := T0 w1 q1
    rw [hkey] at c0
    generalize m[i] = y at *
    obtain ⟨p, p', n1, n2⟩ := y
    simp only at c0 c1_ c2 hge hsn hss hkey
    subst hkey
    have hz := q1.size
    by_cases hlt2 : n2 < now - age
    · rw [decide_eq_true hlt2, Bool.true_and] at hge
      by_cases hpk : p' = keep
      · have hb : (p'.toList == keep.toList) = true := by rw [hpk]; exact beq_self_eq_true _
        rw [if_neg (by rw [hge, hpk]; simp)] at hsn hss
        rw [List.append_nil] at hsn
        obtain ⟨A4, p4, G4, w4, r4, o4, k4, f4⟩ := push3 (P := Tryd.prog) tyN o1 (p', n1, n2) (by omega) (by omega) 26
        simp (maxSteps := 1000000) (disch := omega) only [hid1', hid2', guardK_u, takeG_u, wrap_in64, optK_some', fzK_false', nilK_ptr, brK_true', brK_false', guardK_tt', guardK_ff', guardK_tf', guardK_ft', takeG_tt', takeG_ff', takeG_tf', takeG_ft', pickK_t', pickK_f', pickT_t', pickT_f', notK, extract2_0', extract2_1', extract3_0', extract3_1', extract3_2', here_load, here_fieldAt, here_indexAt, here_extract, here_un, here_conv, here_slice, here_bin, here_nil, and_here, true_and, Nat.zero_add, Nat.add_assoc, Nat.add_zero, Int.toNat_natCast, size_alloc, World.cell?_drew, World.frozen?_drew, Bool.not_true, Bool.not_false, Int.toNat_zero, dec_t, dec_f, int_eq_t, int_eq_f, int_ne_t, int_ne_f, wrap_in, kblss3, kld9, kld2, kia26, kld33, klen26, hlen26, kfa33_0, kbneq9, kbs26_1_0, kbadd3, kblss2, kfa33_2, kbsub2, kbs41_1_0, c0, c1_, c2, hb, guardK_u]
        refine appK r4 ?_
        have p4' := p1.chg k4 (fun k hk e => (hH k hk).2 e)
        simp (maxSteps := 1000000) (disch := omega) only [hid1', hid2', guardK_u, takeG_u, wrap_in64, optK_some', fzK_false', nilK_ptr, brK_true', brK_false', guardK_tt', guardK_ff', guardK_tf', guardK_ft', takeG_tt', takeG_ff', takeG_tf', takeG_ft', pickK_t', pickK_f', pickT_t', pickT_f', notK, extract2_0', extract2_1', extract3_0', extract3_1', extract3_2', here_load, here_fieldAt, here_indexAt, here_extract, here_un, here_conv, here_slice, here_bin, here_nil, and_here, true_and, Nat.zero_add, Nat.add_assoc, Nat.add_zero, Int.toNat_natCast, size_alloc, World.cell?_drew, World.frozen?_drew, Bool.not_true, Bool.not_false, Int.toNat_zero, dec_t, dec_f, int_eq_t, int_eq_f, int_ne_t, int_ne_f, wrap_in, kblss3, kld9, kld2, kia26, kld33, klen26, hlen26, kfa33_0, kbneq9, kbs26_1_0, kbadd3, kblss2, kfa33_2, kbsub2, kbs41_1_0]
        refine ⟨⟨i + 1, G4, H, by go_num, by omega, ?_, by rw [hsn]; exact p4', fun k hk => (f4 k hk).elim (hG k) (fun h => by omega), fun k hk => ⟨(hH k hk).1, fun e => ?_⟩, Qt.then q1 k4 hG⟩, by simp [rel, intOf]; omega⟩
        · rw [hss, List.length_append, rowE_app]; simpa [rowE] using o4
        · rcases f4 k e with h | h
          · exact (hH k hk).2 h
          · have := p1.lt hk; omega
      · have hb : (p'.toList == keep.toList) = false := by rw [beq_eq_false_iff_ne]; exact fun e => hpk (toList_inj e)
        rw [if_pos (by rw [hge]; exact decide_eq_true hpk)] at hsn hss
        rw [List.append_nil] at hss
        obtain ⟨A4, p4, G4, w4, r4, o4, k4, f4⟩ := push_run (P := Tryd.prog) tyS p1 (.string p') rfl (by omega) (by omega) 41
        simp (maxSteps := 1000000) (disch := omega) only [hid1', hid2', guardK_u, takeG_u, wrap_in64, optK_some', fzK_false', nilK_ptr, brK_true', brK_false', guardK_tt', guardK_ff', guardK_tf', guardK_ft', takeG_tt', takeG_ff', takeG_tf', takeG_ft', pickK_t', pickK_f', pickT_t', pickT_f', notK, extract2_0', extract2_1', extract3_0', extract3_1', extract3_2', here_load, here_fieldAt, here_indexAt, here_extract, here_un, here_conv, here_slice, here_bin, here_nil, and_here, true_and, Nat.zero_add, Nat.add_assoc, Nat.add_zero, Int.toNat_natCast, size_alloc, World.cell?_drew, World.frozen?_drew, Bool.not_true, Bool.not_false, Int.toNat_zero, dec_t, dec_f, int_eq_t, int_eq_f, int_ne_t, int_ne_f, wrap_in, kblss3, kld9, kld2, kia26, kld33, klen26, hlen26, kfa33_0, kbneq9, kbs26_1_0, kbadd3, kblss2, kfa33_2, kbsub2, kbs41_1_0, c0, c1_, c2, hb, guardK_u]
        refine appK r4 ?_
        have o4' := o1.chg k4 (fun k hk e => (hH k e).2 hk)
        simp (maxSteps := 1000000) (disch := omega) only [hid1', hid2', guardK_u, takeG_u, wrap_in64, optK_some', fzK_false', nilK_ptr, brK_true', brK_false', guardK_tt', guardK_ff', guardK_tf', guardK_ft', takeG_tt', takeG_ff', takeG_tf', takeG_ft', pickK_t', pickK_f', pickT_t', pickT_f', notK, extract2_0', extract2_1', extract3_0', extract3_1', extract3_2', here_load, here_fieldAt, here_indexAt, here_extract, here_un, here_conv, here_slice, here_bin, here_nil, and_here, true_and, Nat.zero_add, Nat.add_assoc, Nat.add_zero, Int.toNat_natCast, size_alloc, World.cell?_drew, World.frozen?_drew, Bool.not_true, Bool.not_false, Int.toNat_zero, dec_t, dec_f, int_eq_t, int_eq_f, int_ne_t, int_ne_f, wrap_in, kblss3, kld9, kld2, kia26, kld33, klen26, hlen26, kfa33_0, kbneq9, kbs26_1_0, kbadd3, kblss2, kfa33_2, kbsub2, kbs41_1_0]
        refine ⟨⟨i + 1, G, G4, by go_num, by omega, by rw [hss]; exact o4', ?_, hG, fun k hk => ?_, Qt.then q1 k4 (fun k hk => (hH k hk).1)⟩, by simp [rel, intOf]; omega⟩
        · rw [hsn, List.length_append]
          unfold strV at o4 ⊢
          rw [List.map_append]; exact o4
        · rcases f4 k hk with h | h
          · exact hH k h
          · exact ⟨by omega, fun e => by have := o1.lt e; omega⟩
    · rw [decide_eq_false hlt2, Bool.false_and] at hge
      rw [if_neg (by rw [hge]; decide)] at hsn hss
      rw [List.append_nil] at hsn
      obtain ⟨A4, p4, G4, w4, r4, o4, k4, f4⟩ := push3 (P := Tryd.prog) tyN o1 (p', n1, n2) (by omega) (by omega) 26
      simp (maxSteps := 1000000) (disch := omega) only [hid1', hid2', guardK_u, takeG_u, wrap_in64, optK_some', fzK_false', nilK_ptr, brK_true', brK_false', guardK_tt', guardK_ff', guardK_tf', guardK_ft', takeG_tt', takeG_ff', takeG_tf', takeG_ft', pickK_t', pickK_f', pickT_t', pickT_f', notK, extract2_0', extract2_1', extract3_0', extract3_1', extract3_2', here_load, here_fieldAt, here_indexAt, here_extract, here_un, here_conv, here_slice, here_bin, here_nil, and_here, true_and, Nat.zero_add, Nat.add_assoc, Nat.add_zero, Int.toNat_natCast, size_alloc, World.cell?_drew, World.frozen?_drew, Bool.not_true, Bool.not_false, Int.toNat_zero, dec_t, dec_f, int_eq_t, int_eq_f, int_ne_t, int_ne_f, wrap_in, kblss3, kld9, kld2, kia26, kld33, klen26, hlen26, kfa33_0, kbneq9, kbs26_1_0, kbadd3, kblss2, kfa33_2, kbsub2, kbs41_1_0, c0, c1_, c2, guardK_u]
      refine appK r4 ?_
      have p4' := p1.chg k4 (fun k hk e => (hH k hk).2 e)
      simp (maxSteps := 1000000) (disch := omega) only [hid1', hid2', guardK_u, takeG_u, wrap_in64, optK_some', fzK_false', nilK_ptr, brK_true', brK_false', guardK_tt', guardK_ff', guardK_tf', guardK_ft', takeG_tt', takeG_ff', takeG_tf', takeG_ft', pickK_t', pickK_f', pickT_t', pickT_f', notK, extract2_0', extract2_1', extract3_0', extract3_1', extract3_2', here_load, here_fieldAt, here_indexAt, here_extract, here_un, here_conv, here_slice, here_bin, here_nil, and_here, true_and, Nat.zero_add, Nat.add_assoc, Nat.add_zero, Int.toNat_natCast, size_alloc, World.cell?_drew, World.frozen?_drew, Bool.not_true, Bool.not_false, Int.toNat_zero, dec_t, dec_f, int_eq_t, int_eq_f, int_ne_t, int_ne_f, wrap_in, kblss3, kld9, kld2, kia26, kld33, klen26, hlen26, kfa33_0, kbneq9, kbs26_1_0, kbadd3, kblss2, kfa33_2, kbsub2, kbs41_1_0]
      refine ⟨⟨i + 1, G4, H, by go_num, by omega, ?_, by rw [hsn]; exact p4', fun k hk => (f4 k hk).elim (hG k) (fun h => by omega), fun k hk => ⟨(hH k hk).1, fun e => ?_⟩, Qt.then q1 k4 hG⟩, by simp [rel, intOf]; omega⟩
      · rw [hss, List.length_append, rowE_app]; simpa [rowE] using o4
      · rcases f4 k e with h | h
        · exact (hH k hk).2 h
        · have := p1.lt hk; omega
  · obtain rfl : i = m.length := by omega
    rw [List.take_length] at o1 p1 ⊢
    obtain ⟨h2, h3⟩ := own_shape2 o1
    simp (maxSteps := 1000000) (disch := omega) only [hid1', hid2', guardK_u, takeG_u, wrap_in64, optK_some', fzK_false', nilK_ptr, brK_true', brK_false', guardK_tt', guardK_ff', guardK_tf', guardK_ft', takeG_tt', takeG_ff', takeG_tf', takeG_ft', pickK_t', pickK_f', pickT_t', pickT_f', notK, extract2_0', extract2_1', extract3_0', extract3_1', extract3_2', here_load, here_fieldAt, here_indexAt, here_extract, here_un, here_conv, here_slice, here_bin, here_nil, and_here, true_and, Nat.zero_add, Nat.add_assoc, Nat.add_zero, Int.toNat_natCast, size_alloc, World.cell?_drew, World.frozen?_drew, Bool.not_true, Bool.not_false, Int.toNat_zero, dec_t, dec_f, int_eq_t, int_eq_f, int_ne_t, int_ne_f, wrap_in, kblss3, kld9, kld2, kia26, kld33, klen26, hlen26, kfa33_0, kbneq9, kbs26_1_0, kbadd3, kblss2, kfa33_2, kbsub2, kbs41_1_0]
    exact hK A1 c1 B1 d1 w1 (reads_own o1) (reads_own p1) h2 h3 q1 (fun ad h => .inr (own_block o1 hG ad h)) (own_block p1 (fun k hk => (hH k hk).1))
set_option maxHeartbeats 1000000 in
theorem underR_any2 {w : World} {A : Option Addr} {c : Nat} {m : EM} {z : ByteArray} {K : Value → World → Prop} (hr : Reads w A (rowE m)) (hl : m.length ≤ 1000) (hk : ∀ y ∈ m, y.2.1 = y.1) (hz : z.size ≤ 50000) (hp : ∀ y ∈ m, y.1.size ≤ 50000)
    (hK : ∀ A' c' w', Reads w' A' (strV (underM m z)) → Qt w w' → K (.slice A' (underM m z).length c') w') : CallK Tryd.prog 21 #[.slice A m.length c, .string z] K w := by
  refine F21_calls _ _ _ _ ?_; unfold F21
  refine loopK2 (fun v n w' => ∃ (i : Nat) (G : Option Nat), n = .int .i64 i ∧ i ≤ m.length ∧ Own w' 9 1 v (underM (m.take i) z).length (strV (underM (m.take i) z)) G ∧ (∀ k, G = some k → w.heap.size ≤ k) ∧ Qt w w') (fun _ n _ => m.length - (intOf n).toNat) ⟨0, none, rfl, by omega, Own.nil _ _ _, fun _ h => (by cases h), Qt.refl⟩ ?_
  rintro v _ _ w2 ⟨i, G, rfl, hi, o2, hG, q2⟩
  obtain ⟨A2, p2, rfl, hp1, hp2⟩ := o2.shape
  have hul := underM_len (m.take i) z
  rw [List.length_take] at hul
  by_cases hlt : i < m.length
  · have hsn := underM_succ (z := z) hlt
    have hpi := hp m[i] (List.getElem_mem hlt)
    have hkey := hk m[i] (List.getElem_mem hlt)
    obtain ⟨b, o, rfl, _⟩ := ent_at hr hlt
    have T0 : ∀ w', Qt w w' → w'.cell? ⟨b, o + i * 3, none⟩ = some (.string m[i].1) := fun w' q => by
      obtain ⟨b', o', ee, h, _⟩ := ent_at (hr.quiet q) hlt
      cases ee; rw [h, hkey]
    have hc := T0 w2 q2
    generalize m[i].1 = p at *
    simp (maxSteps := 1000000) (disch := omega) only [hid1', hid2', guardK_u, takeG_u, wrap_in64, optK_some', fzK_false', nilK_ptr, brK_true', brK_false', guardK_tt', guardK_ff', guardK_tf', guardK_ft', takeG_tt', takeG_ff', takeG_tf', takeG_ft', pickK_t', pickK_f', pickT_t', pickT_f', notK, extract2_0', extract2_1', extract3_0', extract3_1', extract3_2', here_load, here_fieldAt, here_indexAt, here_extract, here_un, here_conv, here_slice, here_bin, here_nil, and_here, true_and, Nat.zero_add, Nat.add_assoc, Nat.add_zero, Int.toNat_natCast, size_alloc, World.cell?_drew, World.frozen?_drew, Bool.not_true, Bool.not_false, Int.toNat_zero, dec_t, dec_f, int_eq_t, int_eq_f, int_ne_t, int_ne_f, wrap_in, kblss3, kld9, kia26, klen26, hlen26, kfa33_0, kbadd3, kbs41_1_0, hc]
    refine ck41 (underR_str hpi hz ?_)
    intro w3 q3
    have q13 := q2.trans q3
    have o3 := o2.chg q3 (fun _ _ h => h)
    have hc3 := T0 w3 q13
    cases hu : underB p z with
    | true =>
      rw [hu, if_pos rfl] at hsn
      obtain ⟨A4, p4, G4, w4, r4, o4, k4, f4⟩ := push_run (P := Tryd.prog) tyS o3 (.string p) rfl (by omega) (by omega) 41
      simp (maxSteps := 1000000) (disch := omega) only [hid1', hid2', guardK_u, takeG_u, wrap_in64, optK_some', fzK_false', nilK_ptr, brK_true', brK_false', guardK_tt', guardK_ff', guardK_tf', guardK_ft', takeG_tt', takeG_ff', takeG_tf', takeG_ft', pickK_t', pickK_f', pickT_t', pickT_f', notK, extract2_0', extract2_1', extract3_0', extract3_1', extract3_2', here_load, here_fieldAt, here_indexAt, here_extract, here_un, here_conv, here_slice, here_bin, here_nil, and_here, true_and, Nat.zero_add, Nat.add_assoc, Nat.add_zero, Int.toNat_natCast, size_alloc, World.cell?_drew, World.frozen?_drew, Bool.not_true, Bool.not_false, Int.toNat_zero, dec_t, dec_f, int_eq_t, int_eq_f, int_ne_t, int_ne_f, wrap_in, kblss3, kld9, kia26, klen26, hlen26, kfa33_0, kbadd3, kbs41_1_0, hc3]
      refine appK r4 ?_
      have hz3 := q13.size
      simp (maxSteps := 1000000) (disch := omega) only [hid1', hid2', guardK_u, takeG_u, wrap_in64, optK_some', fzK_false', nilK_ptr, brK_true', brK_false', guardK_tt', guardK_ff', guardK_tf', guardK_ft', takeG_tt', takeG_ff', takeG_tf', takeG_ft', pickK_t', pickK_f', pickT_t', pickT_f', notK, extract2_0', extract2_1', extract3_0', extract3_1', extract3_2', here_load, here_fieldAt, here_indexAt, here_extract, here_un, here_conv, here_slice, here_bin, here_nil, and_here, true_and, Nat.zero_add, Nat.add_assoc, Nat.add_zero, Int.toNat_natCast, size_alloc, World.cell?_drew, World.frozen?_drew, Bool.not_true, Bool.not_false, Int.toNat_zero, dec_t, dec_f, int_eq_t, int_eq_f, int_ne_t, int_ne_f, wrap_in, kblss3, kld9, kia26, klen26, hlen26, kfa33_0, kbadd3, kbs41_1_0]
      refine ⟨⟨i + 1, G4, by go_num, by omega, ?_, fun k hk => (f4 k hk).elim (hG k) (fun h => by omega), Qt.then q13 k4 hG⟩, by simp [rel, intOf]; omega⟩
      rw [hsn, List.length_append]
      unfold strV at o4 ⊢
      rw [List.map_append]; exact o4
    | false =>
      rw [hu, if_neg (by decide), List.append_nil] at hsn
      simp (maxSteps := 1000000) (disch := omega) only [hid1', hid2', guardK_u, takeG_u, wrap_in64, optK_some', fzK_false', nilK_ptr, brK_true', brK_false', guardK_tt', guardK_ff', guardK_tf', guardK_ft', takeG_tt', takeG_ff', takeG_tf', takeG_ft', pickK_t', pickK_f', pickT_t', pickT_f', notK, extract2_0', extract2_1', extract3_0', extract3_1', extract3_2', here_load, here_fieldAt, here_indexAt, here_extract, here_un, here_conv, here_slice, here_bin, here_nil, and_here, true_and, Nat.zero_add, Nat.add_assoc, Nat.add_zero, Int.toNat_natCast, size_alloc, World.cell?_drew, World.frozen?_drew, Bool.not_true, Bool.not_false, Int.toNat_zero, dec_t, dec_f, int_eq_t, int_eq_f, int_ne_t, int_ne_f, wrap_in, kblss3, kld9, kia26, klen26, hlen26, kfa33_0, kbadd3, kbs41_1_0]
      exact ⟨⟨i + 1, G, by go_num, by omega, by rw [hsn]; exact o3, hG, q13⟩, by simp [rel, intOf]; omega⟩
  · obtain rfl : i = m.length := by omega
    rw [List.take_length] at o2 ⊢
    simp (maxSteps := 1000000) (disch := omega) only [hid1', hid2', guardK_u, takeG_u, wrap_in64, optK_some', fzK_false', nilK_ptr, brK_true', brK_false', guardK_tt', guardK_ff', guardK_tf', guardK_ft', takeG_tt', takeG_ff', takeG_tf', takeG_ft', pickK_t', pickK_f', pickT_t', pickT_f', notK, extract2_0', extract2_1', extract3_0', extract3_1', extract3_2', here_load, here_fieldAt, here_indexAt, here_extract, here_un, here_conv, here_slice, here_bin, here_nil, and_here, true_and, Nat.zero_add, Nat.add_assoc, Nat.add_zero, Int.toNat_natCast, size_alloc, World.cell?_drew, World.frozen?_drew, Bool.not_true, Bool.not_false, Int.toNat_zero, dec_t, dec_f, int_eq_t, int_eq_f, int_ne_t, int_ne_f, wrap_in, kblss3, kld9, kia26, klen26, hlen26, kfa33_0, kbadd3, kbs41_1_0]
    exact hK A2 p2 w2 (reads_own o2) q2
end Go.Proofs.YtbkficgmjgbbeaaDoor
