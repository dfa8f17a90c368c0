/- book.Book: its rows, sweeps, and who is under a zone. Conditions: at most 1000 entries. -/
import Derived.Test.YtbkficgmjgbbeaaDoorBook
set_option linter.unusedVariables false
set_option linter.unusedSimpArgs false
set_option maxRecDepth 100000
namespace Go.Proofs.YtbkficgmjgbbeaaDoor
open Go.RowKit Go.Cn
theorem infoE : (Tryd.prog.info? 28).map (fun i => (i.zero, i.size, i.bytes)) = some (some (.agg #[.string ByteArray.empty, .int .i64 0, .int .i64 0]), 3, 32) := by kernel_rfl
theorem tyE : ElemTy Tryd.prog 35 28 (.agg #[.string ByteArray.empty, .int .i64 0, .int .i64 0]) 3 32 := ElemTy.mk' Tryd.underlying35 infoE rfl (by decide)
theorem infoN : (Tryd.prog.info? 33).map (fun i => (i.zero, i.size, i.bytes)) = some (some (.agg #[.string ByteArray.empty, .int .i64 0, .int .i64 0]), 3, 32) := by kernel_rfl
theorem tyN : ElemTy Tryd.prog 26 33 (.agg #[.string ByteArray.empty, .int .i64 0, .int .i64 0]) 3 32 := ElemTy.mk' Tryd.underlying26 infoN rfl (by decide)
theorem own_cases {w : World} {e : TypeId} {sz : Nat} {A : Option Addr} {n c : Nat} {xs : List Value} {F : Option Nat} (h : Own w e sz (.slice A n c) n xs F) : (A = none ∧ n = 0 ∧ c = 0 ∧ xs = []) ∨ ∃ g, A = some ⟨g, 0, none⟩ ∧ F = some g ∧ n ≤ c ∧ c ≤ 9223372036854775807 := by
  obtain ⟨_, _, e, h1, h2⟩ := h.shape
  injection e with ea eb ec
  subst ec
  rcases h with ⟨e, h0, h3, h4⟩ | ⟨g, cap, e, hF, hr⟩
  · injection e with e1 e2 e3
    exact .inl ⟨e1, h0, e3, h3⟩
  · injection e with e1 e2 e3
    exact .inr ⟨g, e1, hF, h1, h2⟩
theorem reads_own {w : World} {e : TypeId} {sz : Nat} {A : Option Addr} {n c : Nat} {xs : List Value} {F : Option Nat} (h : Own w e sz (.slice A n c) n xs F) : Reads w A xs := by
  rcases h with ⟨_, _, rfl, _⟩ | ⟨g, cap, hv, _, hr⟩
  · exact .inl rfl
  · cases hv
    refine .inr ⟨g, 0, rfl, fun j hj => ?_⟩
    have := hr.1
    rw [Nat.zero_add]
    exact hr.cell j (by rw [← this]; exact hj)
theorem cellE_one (e : Ent) : ∀ u ∈ cellE e, u.oneCell' = true := by
  intro u hu
  simp [cellE] at hu
  rcases hu with rfl | rfl | rfl <;> rfl
theorem src_cells (w : World) (xs : List Value) (e : TypeId) : Cn.Src (w.alloc (.cells xs.toArray e)) (some ⟨w.heap.size, 0, none⟩) xs := fun j u hj => ⟨_, rfl, by rw [Addr.add_lit, Nat.zero_add, blk_cell (blk_new _ _)]; simpa using hj⟩
theorem push3 {P : Program} {w : World} {t e : TypeId} {z : Value} {bytes : Nat} (T : ElemTy P t e z 3 bytes) {v : Value} {n : Nat} {xs : List Value} {F : Option Nat} (ho : Own w e 3 v n xs F) (x : Ent) (hb : (n + 1) * bytes ≤ 140737488355328) (hb2 : n + 1 ≤ 9223372036854775807) (ty : TypeId) :
    ∃ A' cap F' w', (Builtin.append_ #[t, t] ty #[v, .slice (some ⟨w.heap.size, 0, none⟩) 1 1]).run P (w.alloc (.cells #[.string x.1, .int .i64 x.2.1, .int .i64 x.2.2] e)) = .ok (.slice A' (n + 1) cap) w' ∧ Own w' e 3 (.slice A' (n + 1) cap) (n + 1) (xs ++ cellE x) F' ∧ Chg (fun k => F = some k) w w' ∧ (∀ k, F' = some k → F = some k ∨ w.heap.size ≤ k) := by
  have q : Qt w (w.alloc (.cells #[.string x.1, .int .i64 x.2.1, .int .i64 x.2.2] e)) := Chg.alloc Qt.refl _
  obtain ⟨A', cap, F', w', p, o, k, f⟩ := app_run T (ho.chg q (fun _ _ h => h)) (some ⟨w.heap.size, 0, none⟩) 1 1 (cellE x) rfl (src_cells w (cellE x) e) (cellE_one x) hb hb2 ty
  refine ⟨A', cap, F', w', p, o, Chg.then (q.mono (fun _ _ h => h.elim)) k (fun i hi => .inl hi), fun j hj => ?_⟩
  rcases f j hj with h | h
  · exact .inl h
  · right; rw [h, size_alloc]; omega
theorem rowE_snoc (m : EM) (i : Nat) (hi : i < m.length) : rowE (m.take (i + 1)) = rowE (m.take i) ++ cellE m[i].2 := by
  unfold rowE
  rw [List.take_succ_eq_append_getElem hi, List.flatMap_append]; simp
theorem clipE_any {w : World} {n c : Nat} {A : Option Addr} {xs : List Value} {F : Option Nat} {K : Value → World → Prop} (o : Own w 28 3 (.slice A n c) n xs F) (hK : K (.slice A n n) w) : CallK Tryd.prog 38 #[.slice A n c] K w := by
  refine F38_calls _ _ _ ?_; unfold F38
  rcases own_cases o with ⟨rfl, rfl, rfl, _⟩ | ⟨g, rfl, _, h1, h2⟩
  · have e0 : ((0 : Nat) : Int) = 0 := rfl
    simp (maxSteps := 1000000) (disch := omega) only [hid1', hid2', guardK_u, takeG_u, wrap_in64, optK_some', fzK_false', nilK_ptr, brK_true', brK_false', guardK_tt', guardK_ff', guardK_tf', guardK_ft', takeG_tt', takeG_ff', takeG_tf', takeG_ft', pickK_t', pickK_f', pickT_t', pickT_f', notK, extract2_0', extract2_1', extract3_0', extract3_1', extract3_2', here_load, here_fieldAt, here_indexAt, here_extract, here_un, here_conv, here_slice, here_bin, here_nil, and_here, true_and, Nat.zero_add, Nat.add_assoc, Nat.add_zero, Int.toNat_natCast, size_alloc, World.cell?_drew, World.frozen?_drew, Bool.not_true, Bool.not_false, Int.toNat_zero, dec_t, dec_f, int_eq_t, int_eq_f, int_ne_t, int_ne_f, wrap_in, klen35, hlen35, ksl35_011, ksl35_011z, e0]
    exact hK
  · simp (maxSteps := 1000000) (disch := omega) only [hid1', hid2', guardK_u, takeG_u, wrap_in64, optK_some', fzK_false', nilK_ptr, brK_true', brK_false', guardK_tt', guardK_ff', guardK_tf', guardK_ft', takeG_tt', takeG_ff', takeG_tf', takeG_ft', pickK_t', pickK_f', pickT_t', pickT_f', notK, extract2_0', extract2_1', extract3_0', extract3_1', extract3_2', here_load, here_fieldAt, here_indexAt, here_extract, here_un, here_conv, here_slice, here_bin, here_nil, and_here, true_and, Nat.zero_add, Nat.add_assoc, Nat.add_zero, Int.toNat_natCast, size_alloc, World.cell?_drew, World.frozen?_drew, Bool.not_true, Bool.not_false, Int.toNat_zero, dec_t, dec_f, int_eq_t, int_eq_f, int_ne_t, int_ne_f, wrap_in, klen35, hlen35, ksl35_011, ksl35_011z]
    exact hK
theorem clipS_any {w : World} {n c : Nat} {A : Option Addr} {xs : List Value} {F : Option Nat} {K : Value → World → Prop} (o : Own w 9 1 (.slice A n c) n xs F) (hK : K (.slice A n n) w) : CallK Tryd.prog 35 #[.slice A n c] K w := by
  refine F35_calls _ _ _ ?_; unfold F35
  rcases own_cases o with ⟨rfl, rfl, rfl, _⟩ | ⟨g, rfl, _, h1, h2⟩
  · have e0 : ((0 : Nat) : Int) = 0 := rfl
    simp (maxSteps := 1000000) (disch := omega) only [hid1', hid2', guardK_u, takeG_u, wrap_in64, optK_some', fzK_false', nilK_ptr, brK_true', brK_false', guardK_tt', guardK_ff', guardK_tf', guardK_ft', takeG_tt', takeG_ff', takeG_tf', takeG_ft', pickK_t', pickK_f', pickT_t', pickT_f', notK, extract2_0', extract2_1', extract3_0', extract3_1', extract3_2', here_load, here_fieldAt, here_indexAt, here_extract, here_un, here_conv, here_slice, here_bin, here_nil, and_here, true_and, Nat.zero_add, Nat.add_assoc, Nat.add_zero, Int.toNat_natCast, size_alloc, World.cell?_drew, World.frozen?_drew, Bool.not_true, Bool.not_false, Int.toNat_zero, dec_t, dec_f, int_eq_t, int_eq_f, int_ne_t, int_ne_f, wrap_in, klen41, hlen41, ksl41_011, ksl41_011z, e0]
    exact hK
  · simp (maxSteps := 1000000) (disch := omega) only [hid1', hid2', guardK_u, takeG_u, wrap_in64, optK_some', fzK_false', nilK_ptr, brK_true', brK_false', guardK_tt', guardK_ff', guardK_tf', guardK_ft', takeG_tt', takeG_ff', takeG_tf', takeG_ft', pickK_t', pickK_f', pickT_t', pickT_f', notK, extract2_0', extract2_1', extract3_0', extract3_1', extract3_2', here_load, here_fieldAt, here_indexAt, here_extract, here_un, here_conv, here_slice, here_bin, here_nil, and_here, true_and, Nat.zero_add, Nat.add_assoc, Nat.add_zero, Int.toNat_natCast, size_alloc, World.cell?_drew, World.frozen?_drew, Bool.not_true, Bool.not_false, Int.toNat_zero, dec_t, dec_f, int_eq_t, int_eq_f, int_ne_t, int_ne_f, wrap_in, klen41, hlen41, ksl41_011, ksl41_011z]
    exact hK
theorem own_block {w : World} {e : TypeId} {sz : Nat} {A : Option Addr} {n c B : Nat} {xs : List Value} {F : Option Nat} (h : Own w e sz (.slice A n c) n xs F) (hF : ∀ k, F = some k → B ≤ k) : ∀ ad, A = some ad → B ≤ ad.block := by
  intro ad ha
  rcases own_cases h with ⟨e, _⟩ | ⟨g, e, hf, _⟩
  · rw [e] at ha; cases ha
  · rw [e] at ha; cases ha; exact hF g hf
set_option maxHeartbeats 1000000 in
theorem row_any {w : World} {x g : Nat} {m : EM} {F : Option Nat} {K : Value → World → Prop} (h : BookAt w x g m F) (hl : m.length ≤ 1000)
    (hK : ∀ A w', Reads w' A (rowE m) → Qt w w' → (∀ ad, A = some ad → w.heap.size ≤ ad.block) → K (.slice A m.length m.length) w') : CallK Tryd.prog 19 #[.pointer (some ⟨x, 0, none⟩)] K w := by
  refine F19_calls _ _ _ ?_; unfold F19
  have c0 := h.cell
  simp (maxSteps := 1000000) (disch := omega) only [hid1', hid2', guardK_u, takeG_u, wrap_in64, optK_some', fzK_false', nilK_ptr, brK_true', brK_false', guardK_tt', guardK_ff', guardK_tf', guardK_ft', takeG_tt', takeG_ff', takeG_tf', takeG_ft', pickK_t', pickK_f', pickT_t', pickT_f', notK, extract2_0', extract2_1', extract3_0', extract3_1', extract3_2', here_load, here_fieldAt, here_indexAt, here_extract, here_un, here_conv, here_slice, here_bin, here_nil, and_here, true_and, Nat.zero_add, Nat.add_assoc, Nat.add_zero, Int.toNat_natCast, size_alloc, World.cell?_drew, World.frozen?_drew, Bool.not_true, Bool.not_false, Int.toNat_zero, dec_t, dec_f, int_eq_t, int_eq_f, int_ne_t, int_ne_f, wrap_in, kblss3, kld28, kbs35_1_0, kal28, kst28f, kbadd3, kfa63_0, kld60, c0]
  refine ck32 (SE.len_any h.2.1 ?_)
  refine loopK2 (fun v n w' => ∃ (i : Nat) (G : Option Nat), n = .int .i64 i ∧ i ≤ m.length ∧ Own w' 28 3 v i (rowE (m.take i)) G ∧ (∀ k, G = some k → w.heap.size ≤ k) ∧ Qt w w') (fun _ n _ => m.length - (intOf n).toNat) ⟨0, none, rfl, by omega, Own.nil _ _ _, fun _ h => (by cases h), Qt.refl⟩ ?_
  rintro v _ _ w1 ⟨i, G, rfl, hi, o1, hG, q1⟩
  have h1 := h.quiet q1
  have c1 := h1.cell
  obtain ⟨A1, p1, rfl, hp1, hp2⟩ := o1.shape
  by_cases hlt : i < m.length
  · have hsn := rowE_snoc m i hlt
    simp (maxSteps := 1000000) (disch := omega) only [hid1', hid2', guardK_u, takeG_u, wrap_in64, optK_some', fzK_false', nilK_ptr, brK_true', brK_false', guardK_tt', guardK_ff', guardK_tf', guardK_ft', takeG_tt', takeG_ff', takeG_tf', takeG_ft', pickK_t', pickK_f', pickT_t', pickT_f', notK, extract2_0', extract2_1', extract3_0', extract3_1', extract3_2', here_load, here_fieldAt, here_indexAt, here_extract, here_un, here_conv, here_slice, here_bin, here_nil, and_here, true_and, Nat.zero_add, Nat.add_assoc, Nat.add_zero, Int.toNat_natCast, size_alloc, World.cell?_drew, World.frozen?_drew, Bool.not_true, Bool.not_false, Int.toNat_zero, dec_t, dec_f, int_eq_t, int_eq_f, int_ne_t, int_ne_f, wrap_in, kblss3, kld28, kbs35_1_0, kal28, kst28f, kbadd3, kfa63_0, kld60, c1]
    refine ck37 (SE.at_any h1.2.1 hlt ?_)
    intro w2 q2
    have o2 := o1.chg q2 (fun _ _ h => h)
    have q12 := q1.trans q2
    generalize m[i].2 = e at *
    have qa : Qt w2 (w2.alloc (.cells #[.string e.1, .int .i64 e.2.1, .int .i64 e.2.2] 28)) := Chg.alloc Qt.refl _
    have ha : (w2.alloc (.cells #[.string e.1, .int .i64 e.2.1, .int .i64 e.2.2] 28)).heap[w2.heap.size]? = some (.cells #[.string e.1, .int .i64 e.2.1, .int .i64 e.2.2] 28 (0, 0)) := blk_new _ _
    obtain ⟨x0, x1, x2⟩ := cell3 ha
    have q13 := q12.trans qa
    have o3 := o2.chg qa (fun _ _ h => h)
    have hs3 : (w2.alloc (.cells #[.string e.1, .int .i64 e.2.1, .int .i64 e.2.2] 28)).heap.size = w2.heap.size + 1 := size_alloc _ _
    simp (maxSteps := 1000000) (disch := omega) only [hid1', hid2', guardK_u, takeG_u, wrap_in64, optK_some', fzK_false', nilK_ptr, brK_true', brK_false', guardK_tt', guardK_ff', guardK_tf', guardK_ft', takeG_tt', takeG_ff', takeG_tf', takeG_ft', pickK_t', pickK_f', pickT_t', pickT_f', notK, extract2_0', extract2_1', extract3_0', extract3_1', extract3_2', here_load, here_fieldAt, here_indexAt, here_extract, here_un, here_conv, here_slice, here_bin, here_nil, and_here, true_and, Nat.zero_add, Nat.add_assoc, Nat.add_zero, Int.toNat_natCast, size_alloc, World.cell?_drew, World.frozen?_drew, Bool.not_true, Bool.not_false, Int.toNat_zero, dec_t, dec_f, int_eq_t, int_eq_f, int_ne_t, int_ne_f, wrap_in, kblss3, kld28, kbs35_1_0, kal28, kst28f, kbadd3, kfa63_0, kld60, x0, x1, x2]
    rw [← hs3]
    generalize (w2.alloc (.cells #[.string e.1, .int .i64 e.2.1, .int .i64 e.2.2] 28)) = w3 at *
    obtain ⟨A4, p4, G4, w4, r4, o4, k4, f4⟩ := push3 (P := Tryd.prog) tyE o3 e (by omega) (by omega) 35
    refine appK r4 ?_
    simp (maxSteps := 1000000) (disch := omega) only [hid1', hid2', guardK_u, takeG_u, wrap_in64, optK_some', fzK_false', nilK_ptr, brK_true', brK_false', guardK_tt', guardK_ff', guardK_tf', guardK_ft', takeG_tt', takeG_ff', takeG_tf', takeG_ft', pickK_t', pickK_f', pickT_t', pickT_f', notK, extract2_0', extract2_1', extract3_0', extract3_1', extract3_2', here_load, here_fieldAt, here_indexAt, here_extract, here_un, here_conv, here_slice, here_bin, here_nil, and_here, true_and, Nat.zero_add, Nat.add_assoc, Nat.add_zero, Int.toNat_natCast, size_alloc, World.cell?_drew, World.frozen?_drew, Bool.not_true, Bool.not_false, Int.toNat_zero, dec_t, dec_f, int_eq_t, int_eq_f, int_ne_t, int_ne_f, wrap_in, kblss3, kld28, kbs35_1_0, kal28, kst28f, kbadd3, kfa63_0, kld60]
    have hz := q13.size
    exact ⟨⟨i + 1, G4, by go_num, by omega, by rw [hsn]; exact o4, fun k hk => (f4 k hk).elim (hG k) (fun h => by omega), Qt.then q13 k4 hG⟩, by simp [rel, intOf]; omega⟩
  · obtain rfl : i = m.length := by omega
    rw [List.take_length] at o1
    simp (maxSteps := 1000000) (disch := omega) only [hid1', hid2', guardK_u, takeG_u, wrap_in64, optK_some', fzK_false', nilK_ptr, brK_true', brK_false', guardK_tt', guardK_ff', guardK_tf', guardK_ft', takeG_tt', takeG_ff', takeG_tf', takeG_ft', pickK_t', pickK_f', pickT_t', pickT_f', notK, extract2_0', extract2_1', extract3_0', extract3_1', extract3_2', here_load, here_fieldAt, here_indexAt, here_extract, here_un, here_conv, here_slice, here_bin, here_nil, and_here, true_and, Nat.zero_add, Nat.add_assoc, Nat.add_zero, Int.toNat_natCast, size_alloc, World.cell?_drew, World.frozen?_drew, Bool.not_true, Bool.not_false, Int.toNat_zero, dec_t, dec_f, int_eq_t, int_eq_f, int_ne_t, int_ne_f, wrap_in, kblss3, kld28, kbs35_1_0, kal28, kst28f, kbadd3, kfa63_0, kld60]
    refine ck38 (clipE_any o1 ?_)
    simp (maxSteps := 1000000) (disch := omega) only [hid1', hid2', guardK_u, takeG_u, wrap_in64, optK_some', fzK_false', nilK_ptr, brK_true', brK_false', guardK_tt', guardK_ff', guardK_tf', guardK_ft', takeG_tt', takeG_ff', takeG_tf', takeG_ft', pickK_t', pickK_f', pickT_t', pickT_f', notK, extract2_0', extract2_1', extract3_0', extract3_1', extract3_2', here_load, here_fieldAt, here_indexAt, here_extract, here_un, here_conv, here_slice, here_bin, here_nil, and_here, true_and, Nat.zero_add, Nat.add_assoc, Nat.add_zero, Int.toNat_natCast, size_alloc, World.cell?_drew, World.frozen?_drew, Bool.not_true, Bool.not_false, Int.toNat_zero, dec_t, dec_f, int_eq_t, int_eq_f, int_ne_t, int_ne_f, wrap_in, kblss3, kld28, kbs35_1_0, kal28, kst28f, kbadd3, kfa63_0, kld60]
    exact hK A1 w1 (reads_own o1) q1 (own_block o1 hG)
def underB (p z : ByteArray) : Bool := underL p.data.toList z.data.toList
theorem under_str {p z : ByteArray} {w : World} {K : Value → World → Prop} (hp : p.size ≤ 50000) (hz : z.size ≤ 50000) (hm : MaxAt w) (hK : ∀ w', Qt w w' → K (.bool (underB p z)) w') : CallK Tryd.prog 40 #[.string p, .string z] K w := by
  rw [← txt_list p, ← txt_list z]
  refine under_any hp hz hm ?_
  intro w' q
  exact hK w' q
theorem underR_str {p z : ByteArray} {w : World} {K : Value → World → Prop} (hp : p.size ≤ 50000) (hz : z.size ≤ 50000) (hK : ∀ w', Qt w w' → K (.bool (underB p z)) w') : CallK Tryd.prog 41 #[.string p, .string z] K w := by
  rw [← txt_list p, ← txt_list z]
  refine underR_any hp hz ?_
  intro w' q
  exact hK w' q
def underM (m : EM) (z : ByteArray) : List ByteArray := (m.filter (fun x => underB x.1 z)).map Prod.fst
def strV (l : List ByteArray) : List Value := l.map Value.string
theorem underM_succ {m : EM} {z : ByteArray} {i : Nat} (hi : i < m.length) : underM (m.take (i + 1)) z = underM (m.take i) z ++ (if underB m[i].1 z = true then [m[i].1] else []) := by
  unfold underM
  rw [List.take_succ_eq_append_getElem hi, List.filter_append, List.map_append]
  congr 1
  split
  · rename_i h; simp [h]
  · rename_i h; simp [h]
theorem underM_len (m : EM) (z : ByteArray) : (underM m z).length ≤ m.length := by
  unfold underM
  rw [List.length_map]
  exact List.length_filter_le _ _
theorem goneM_len (m : EM) (now age : Int) (keep : ByteArray) : (goneM m now age keep).length ≤ m.length := by
  unfold goneM
  rw [List.length_map]
  exact List.length_filter_le _ _
set_option maxHeartbeats 1000000 in
theorem under_book {w : World} {x g : Nat} {m : EM} {F : Option Nat} {z : ByteArray} {K : Value → World → Prop} (h : BookAt w x g m F) (hl : m.length ≤ 1000) (hz : z.size ≤ 50000) (hp : ∀ y ∈ m, y.1.size ≤ 50000) (hm : MaxAt w)
    (hK : ∀ A w', Reads w' A (strV (underM m z)) → Qt w w' → K (.slice A (underM m z).length (underM m z).length) w') : CallK Tryd.prog 20 #[.pointer (some ⟨x, 0, none⟩), .string z] K w := by
  refine F20_calls _ _ _ _ ?_; unfold F20
  have c0 := h.cell
  simp (maxSteps := 1000000) (disch := omega) only [hid1', hid2', guardK_u, takeG_u, wrap_in64, optK_some', fzK_false', nilK_ptr, brK_true', brK_false', guardK_tt', guardK_ff', guardK_tf', guardK_ft', takeG_tt', takeG_ff', takeG_tf', takeG_ft', pickK_t', pickK_f', pickT_t', pickT_f', notK, extract2_0', extract2_1', extract3_0', extract3_1', extract3_2', here_load, here_fieldAt, here_indexAt, here_extract, here_un, here_conv, here_slice, here_bin, here_nil, and_here, true_and, Nat.zero_add, Nat.add_assoc, Nat.add_zero, Int.toNat_natCast, size_alloc, World.cell?_drew, World.frozen?_drew, Bool.not_true, Bool.not_false, Int.toNat_zero, dec_t, dec_f, int_eq_t, int_eq_f, int_ne_t, int_ne_f, wrap_in, kblss3, kld9, kbadd3, klen41, hlen41, kia41, kfa63_0, kld60, kbs41_1_0, c0]
  refine ck39 (SE.keys_any h.2.1 ?_)
  intro A1 p1 F1 w1 o1 q1 hF1
  have r1 := reads_own o1
  simp (maxSteps := 1000000) (disch := omega) only [hid1', hid2', guardK_u, takeG_u, wrap_in64, optK_some', fzK_false', nilK_ptr, brK_true', brK_false', guardK_tt', guardK_ff', guardK_tf', guardK_ft', takeG_tt', takeG_ff', takeG_tf', takeG_ft', pickK_t', pickK_f', pickT_t', pickT_f', notK, extract2_0', extract2_1', extract3_0', extract3_1', extract3_2', here_load, here_fieldAt, here_indexAt, here_extract, here_un, here_conv, here_slice, here_bin, here_nil, and_here, true_and, Nat.zero_add, Nat.add_assoc, Nat.add_zero, Int.toNat_natCast, size_alloc, World.cell?_drew, World.frozen?_drew, Bool.not_true, Bool.not_false, Int.toNat_zero, dec_t, dec_f, int_eq_t, int_eq_f, int_ne_t, int_ne_f, wrap_in, kblss3, kld9, kbadd3, klen41, hlen41, kia41, kfa63_0, kld60, kbs41_1_0]
  refine loopK2 (fun v n w' => ∃ (i : Nat) (G : Option Nat), n = .int .i64 i ∧ i ≤ m.length ∧ Own w' 9 1 v (underM (m.take i) z).length (strV (underM (m.take i) z)) G ∧ (∀ k, G = some k → w1.heap.size ≤ k) ∧ Qt w1 w') (fun _ n _ => m.length - (intOf n).toNat) ⟨0, none, rfl, by omega, Own.nil _ _ _, fun _ h => (by cases h), Qt.refl⟩ ?_
  rintro v _ _ w2 ⟨i, G, rfl, hi, o2, hG, q2⟩
  obtain ⟨A2, p2, rfl, hp1, hp2⟩ := o2.shape
  have hul := underM_len (m.take i) z
  rw [List.length_take] at hul
  by_cases hlt : i < m.length
  · have hsn := underM_succ (z := z) hlt
    have hpi := hp m[i] (List.getElem_mem hlt)
    have T : ∃ b o, A1 = some ⟨b, o, none⟩ ∧ w2.cell? ⟨b, o + i, none⟩ = some (.string m[i].1) := by
      rcases r1.quiet q2 with e | ⟨b, o, e, hc⟩
      · rw [List.map_map, List.map_eq_nil_iff] at e; rw [e] at hlt; simp at hlt
      · refine ⟨b, o, e, ?_⟩
        rw [hc i (by simpa using hlt)]; simp [hlt]
    obtain ⟨b, o, rfl, hc⟩ := T
    generalize m[i].1 = p at *
    simp (maxSteps := 1000000) (disch := omega) only [hid1', hid2', guardK_u, takeG_u, wrap_in64, optK_some', fzK_false', nilK_ptr, brK_true', brK_false', guardK_tt', guardK_ff', guardK_tf', guardK_ft', takeG_tt', takeG_ff', takeG_tf', takeG_ft', pickK_t', pickK_f', pickT_t', pickT_f', notK, extract2_0', extract2_1', extract3_0', extract3_1', extract3_2', here_load, here_fieldAt, here_indexAt, here_extract, here_un, here_conv, here_slice, here_bin, here_nil, and_here, true_and, Nat.zero_add, Nat.add_assoc, Nat.add_zero, Int.toNat_natCast, size_alloc, World.cell?_drew, World.frozen?_drew, Bool.not_true, Bool.not_false, Int.toNat_zero, dec_t, dec_f, int_eq_t, int_eq_f, int_ne_t, int_ne_f, wrap_in, kblss3, kld9, kbadd3, klen41, hlen41, kia41, kfa63_0, kld60, kbs41_1_0, hc]
    refine ck40 (under_str hpi hz ((hm.quiet q1).quiet q2) ?_)
    intro w3 q3
    have q13 := q2.trans q3
    have o3 := o2.chg q3 (fun _ _ h => h)
    cases hu : underB p z with
    | true =>
      rw [hu, if_pos rfl] at hsn
      obtain ⟨A4, p4, G4, w4, r4, o4, k4, f4⟩ := push_run (P := Tryd.prog) tyS o3 (.string p) rfl (by omega) (by omega) 41
      simp (maxSteps := 1000000) (disch := omega) only [hid1', hid2', guardK_u, takeG_u, wrap_in64, optK_some', fzK_false', nilK_ptr, brK_true', brK_false', guardK_tt', guardK_ff', guardK_tf', guardK_ft', takeG_tt', takeG_ff', takeG_tf', takeG_ft', pickK_t', pickK_f', pickT_t', pickT_f', notK, extract2_0', extract2_1', extract3_0', extract3_1', extract3_2', here_load, here_fieldAt, here_indexAt, here_extract, here_un, here_conv, here_slice, here_bin, here_nil, and_here, true_and, Nat.zero_add, Nat.add_assoc, Nat.add_zero, Int.toNat_natCast, size_alloc, World.cell?_drew, World.frozen?_drew, Bool.not_true, Bool.not_false, Int.toNat_zero, dec_t, dec_f, int_eq_t, int_eq_f, int_ne_t, int_ne_f, wrap_in, kblss3, kld9, kbadd3, klen41, hlen41, kia41, kfa63_0, kld60, kbs41_1_0]
      refine appK r4 ?_
      have hz3 := q13.size
      simp (maxSteps := 1000000) (disch := omega) only [hid1', hid2', guardK_u, takeG_u, wrap_in64, optK_some', fzK_false', nilK_ptr, brK_true', brK_false', guardK_tt', guardK_ff', guardK_tf', guardK_ft', takeG_tt', takeG_ff', takeG_tf', takeG_ft', pickK_t', pickK_f', pickT_t', pickT_f', notK, extract2_0', extract2_1', extract3_0', extract3_1', extract3_2', here_load, here_fieldAt, here_indexAt, here_extract, here_un, here_conv, here_slice, here_bin, here_nil, and_here, true_and, Nat.zero_add, Nat.add_assoc, Nat.add_zero, Int.toNat_natCast, size_alloc, World.cell?_drew, World.frozen?_drew, Bool.not_true, Bool.not_false, Int.toNat_zero, dec_t, dec_f, int_eq_t, int_eq_f, int_ne_t, int_ne_f, wrap_in, kblss3, kld9, kbadd3, klen41, hlen41, kia41, kfa63_0, kld60, kbs41_1_0]
      refine ⟨⟨i + 1, G4, by go_num, by omega, ?_, fun k hk => (f4 k hk).elim (hG k) (fun h => by omega), Qt.then q13 k4 hG⟩, by simp [rel, intOf]; omega⟩
      rw [hsn, List.length_append]
      unfold strV at o4 ⊢
      rw [List.map_append]; exact o4
    | false =>
      rw [hu, if_neg (by decide), List.append_nil] at hsn
      simp (maxSteps := 1000000) (disch := omega) only [hid1', hid2', guardK_u, takeG_u, wrap_in64, optK_some', fzK_false', nilK_ptr, brK_true', brK_false', guardK_tt', guardK_ff', guardK_tf', guardK_ft', takeG_tt', takeG_ff', takeG_tf', takeG_ft', pickK_t', pickK_f', pickT_t', pickT_f', notK, extract2_0', extract2_1', extract3_0', extract3_1', extract3_2', here_load, here_fieldAt, here_indexAt, here_extract, here_un, here_conv, here_slice, here_bin, here_nil, and_here, true_and, Nat.zero_add, Nat.add_assoc, Nat.add_zero, Int.toNat_natCast, size_alloc, World.cell?_drew, World.frozen?_drew, Bool.not_true, Bool.not_false, Int.toNat_zero, dec_t, dec_f, int_eq_t, int_eq_f, int_ne_t, int_ne_f, wrap_in, kblss3, kld9, kbadd3, klen41, hlen41, kia41, kfa63_0, kld60, kbs41_1_0]
      exact ⟨⟨i + 1, G, by go_num, by omega, by rw [hsn]; exact o3, hG, q13⟩, by simp [rel, intOf]; omega⟩
  · obtain rfl : i = m.length := by omega
    rw [List.take_length] at o2 ⊢
    simp (maxSteps := 1000000) (disch := omega) only [hid1', hid2', guardK_u, takeG_u, wrap_in64, optK_some', fzK_false', nilK_ptr, brK_true', brK_false', guardK_tt', guardK_ff', guardK_tf', guardK_ft', takeG_tt', takeG_ff', takeG_tf', takeG_ft', pickK_t', pickK_f', pickT_t', pickT_f', notK, extract2_0', extract2_1', extract3_0', extract3_1', extract3_2', here_load, here_fieldAt, here_indexAt, here_extract, here_un, here_conv, here_slice, here_bin, here_nil, and_here, true_and, Nat.zero_add, Nat.add_assoc, Nat.add_zero, Int.toNat_natCast, size_alloc, World.cell?_drew, World.frozen?_drew, Bool.not_true, Bool.not_false, Int.toNat_zero, dec_t, dec_f, int_eq_t, int_eq_f, int_ne_t, int_ne_f, wrap_in, kblss3, kld9, kbadd3, klen41, hlen41, kia41, kfa63_0, kld60, kbs41_1_0]
    refine ck35 (clipS_any o2 ?_)
    simp (maxSteps := 1000000) (disch := omega) only [hid1', hid2', guardK_u, takeG_u, wrap_in64, optK_some', fzK_false', nilK_ptr, brK_true', brK_false', guardK_tt', guardK_ff', guardK_tf', guardK_ft', takeG_tt', takeG_ff', takeG_tf', takeG_ft', pickK_t', pickK_f', pickT_t', pickT_f', notK, extract2_0', extract2_1', extract3_0', extract3_1', extract3_2', here_load, here_fieldAt, here_indexAt, here_extract, here_un, here_conv, here_slice, here_bin, here_nil, and_here, true_and, Nat.zero_add, Nat.add_assoc, Nat.add_zero, Int.toNat_natCast, size_alloc, World.cell?_drew, World.frozen?_drew, Bool.not_true, Bool.not_false, Int.toNat_zero, dec_t, dec_f, int_eq_t, int_eq_f, int_ne_t, int_ne_f, wrap_in, kblss3, kld9, kbadd3, klen41, hlen41, kia41, kfa63_0, kld60, kbs41_1_0]
    exact hK A2 w2 (reads_own o2) (q1.trans q2)
set_option maxHeartbeats 2000000 in
theorem sweep_book {w : World} {x g : Nat} {m : EM} {F : Option Nat} {now age : Int} {keep : ByteArray} {K : Value → World → Prop} (h : BookAt w x g m F) (hl : m.length ≤ 1000) (hs : Rises SE.lt m) (hk : ∀ y ∈ m, y.2.1 = y.1)
    (h0 : -9223372036854775808 ≤ now ∧ now ≤ 1099511627776) (h1 : -9223372036854775808 ≤ age ∧ age ≤ 1099511627776)
    (hK : ∀ A w', Reads w' A (strV (sweepM m now age keep).2) → BookAt w' x g (sweepM m now age keep).1 F → Chg (fun q => q = g ∨ F = some q) w w' → K (.slice A (sweepM m now age keep).2.length (sweepM m now age keep).2.length) w') : CallK Tryd.prog 16 #[.pointer (some ⟨x, 0, none⟩), .int .i64 now, .int .i64 age, .string keep] K w := by
  refine F16_calls _ _ _ _ _ _ ?_; unfold F16
  unfold sweepM at hK
  by_cases hn : now < 0
  · rw [if_pos (.inl hn)] at hK
    simp (maxSteps := 1000000) (disch := omega) only [hid1', hid2', guardK_u, takeG_u, wrap_in64, optK_some', fzK_false', nilK_ptr, brK_true', brK_false', guardK_tt', guardK_ff', guardK_tf', guardK_ft', takeG_tt', takeG_ff', takeG_tf', takeG_ft', pickK_t', pickK_f', pickT_t', pickT_f', notK, extract2_0', extract2_1', extract3_0', extract3_1', extract3_2', here_load, here_fieldAt, here_indexAt, here_extract, here_un, here_conv, here_slice, here_bin, here_nil, and_here, true_and, Nat.zero_add, Nat.add_assoc, Nat.add_zero, Int.toNat_natCast, size_alloc, World.cell?_drew, World.frozen?_drew, Bool.not_true, Bool.not_false, Int.toNat_zero, dec_t, dec_f, int_eq_t, int_eq_f, int_ne_t, int_ne_f, wrap_in, kblss3, kfa28_0, kld9, kld2, kld28, kal28, kst28f, kbneq9, kbadd3, klen35, hlen35, kia35, kblss2, kfa28_2, kfa63_0, kld60, kbsub2, kbs41_1_0, guardK_u]
    exact hK none w (.inl rfl) h (Chg.refl _ _)
  by_cases ha : age < 0
  · rw [if_pos (.inr ha)] at hK
    simp (maxSteps := 1000000) (disch := omega) only [hid1', hid2', guardK_u, takeG_u, wrap_in64, optK_some', fzK_false', nilK_ptr, brK_true', brK_false', guardK_tt', guardK_ff', guardK_tf', guardK_ft', takeG_tt', takeG_ff', takeG_tf', takeG_ft', pickK_t', pickK_f', pickT_t', pickT_f', notK, extract2_0', extract2_1', extract3_0', extract3_1', extract3_2', here_load, here_fieldAt, here_indexAt, here_extract, here_un, here_conv, here_slice, here_bin, here_nil, and_here, true_and, Nat.zero_add, Nat.add_assoc, Nat.add_zero, Int.toNat_natCast, size_alloc, World.cell?_drew, World.frozen?_drew, Bool.not_true, Bool.not_false, Int.toNat_zero, dec_t, dec_f, int_eq_t, int_eq_f, int_ne_t, int_ne_f, wrap_in, kblss3, kfa28_0, kld9, kld2, kld28, kal28, kst28f, kbneq9, kbadd3, klen35, hlen35, kia35, kblss2, kfa28_2, kfa63_0, kld60, kbsub2, kbs41_1_0]
    exact hK none w (.inl rfl) h (Chg.refl _ _)
  rw [if_neg (by rintro (e | e); exact hn e; exact ha e)] at hK
  simp (maxSteps := 1000000) (disch := omega) only [hid1', hid2', guardK_u, takeG_u, wrap_in64, optK_some', fzK_false', nilK_ptr, brK_true', brK_false', guardK_tt', guardK_ff', guardK_tf', guardK_ft', takeG_tt', takeG_ff', takeG_tf', takeG_ft', pickK_t', pickK_f', pickT_t', pickT_f', notK, extract2_0', extract2_1', extract3_0', extract3_1', extract3_2', here_load, here_fieldAt, here_indexAt, here_extract, here_un, here_conv, here_slice, here_bin, here_nil, and_here, true_and, Nat.zero_add, Nat.add_assoc, Nat.add_zero, Int.toNat_natCast, size_alloc, World.cell?_drew, World.frozen?_drew, Bool.not_true, Bool.not_false, Int.toNat_zero, dec_t, dec_f, int_eq_t, int_eq_f, int_ne_t, int_ne_f, wrap_in, kblss3, kfa28_0, kld9, kld2, kld28, kal28, kst28f, kbneq9, kbadd3, klen35, hlen35, kia35, kblss2, kfa28_2, kfa63_0, kld60, kbsub2, kbs41_1_0]
  refine ck19 (row_any h hl ?_)
  intro A1 w1 r1 q1 hA1
  have hb1 := h.quiet q1
  simp (maxSteps := 1000000) (disch := omega) only [hid1', hid2', guardK_u, takeG_u, wrap_in64, optK_some', fzK_false', nilK_ptr, brK_true', brK_false', guardK_tt', guardK_ff', guardK_tf', guardK_ft', takeG_tt', takeG_ff', takeG_tf', takeG_ft', pickK_t', pickK_f', pickT_t', pickT_f', notK, extract2_0', extract2_1', extract3_0', extract3_1', extract3_2', here_load, here_fieldAt, here_indexAt, here_extract, here_un, here_conv, here_slice, here_bin, here_nil, and_here, true_and, Nat.zero_add, Nat.add_assoc, Nat.add_zero, Int.toNat_natCast, size_alloc, World.cell?_drew, World.frozen?_drew, Bool.not_true, Bool.not_false, Int.toNat_zero, dec_t, dec_f, int_eq_t, int_eq_f, int_ne_t, int_ne_f, wrap_in, kblss3, kfa28_0, kld9, kld2, kld28, kal28, kst28f, kbneq9, kbadd3, klen35, hlen35, kia35, kblss2, kfa28_2, kfa63_0, kld60, kbsub2, kbs41_1_0]
  have hlow := h.2.1.low
  have stl : ∀ i, (stM m now age keep i).length ≤ 1000 := fun i => Nat.le_trans (stM_sub m now age keep i).length_le hl
  refine loopK2 (fun v n w' => ∃ (i : Nat) (G : Option Nat), n = .int .i64 i ∧ i ≤ m.length ∧ Own w' 9 1 v (goneM (m.take i) now age keep).length (strV (goneM (m.take i) now age keep)) G ∧ (∀ k, G = some k → w1.heap.size ≤ k) ∧ BookAt w' x g (stM m now age keep i) F ∧ Chg (fun q => q = g ∨ F = some q) w1 w') (fun _ n _ => m.length - (intOf n).toNat) ⟨0, none, rfl, by omega, Own.nil _ _ _, fun _ h => (by cases h), by simpa [stM, stayM] using hb1, Chg.refl _ _⟩ ?_
  rintro v _ _ w2 ⟨i, G, rfl, hi, o2, hG, b2, k2⟩
  obtain ⟨A2, p2, rfl, hp1, hp2⟩ := o2.shape
  have hul := goneM_len (m.take i) now age keep
  rw [List.length_take] at hul
  have hs1 := q1.size
  have hs2 := k2.size
  by_cases hlt : i < m.length
  · have hsn := goneM_succ (now := now) (age := age) (keep := keep) hlt
    have hst := fun hg => stM_gone (keep := keep) (now := now) (age := age) hs hlt hg
    have hst2 := fun hg => stM_stay (m := m) (keep := keep) (now := now) (age := age) hlt hg
    have hkey := hk m[i] (List.getElem_mem hlt)
    have r2 : Reads w2 A1 (rowE m) := r1.chg k2 (fun ad ha e => by
      have := hA1 ad ha
      rcases e with e | e
      · omega
      · have := hlow.2 _ e; omega)
    have T : ∃ b o, A1 = some ⟨b, o, none⟩ ∧ w2.cell? ⟨b, o + i * 3, none⟩ = some (.string m[i].2.1) ∧ w2.cell? ⟨b, o + (i * 3 + 1), none⟩ = some (.int .i64 m[i].2.2.1) ∧ w2.cell? ⟨b, o + (i * 3 + 2), none⟩ = some (.int .i64 m[i].2.2.2) := by
      obtain ⟨b, o, e, hc⟩ := @Reads.at 3 (SE.κ × SE.ν) ⟨m[i]⟩ (fun x => cellE x.2) (fun _ => rfl) w2 A1 m r2 i hlt (by omega)
      have ee : @List.getD (SE.κ × SE.ν) m i (@default _ ⟨m[i]⟩) = m[i] := by simp [hlt]
      rw [ee] at hc
      exact ⟨b, o, e, hc 0 (by omega), hc 1 (by omega), hc 2 (by omega)⟩
    obtain ⟨b, o, rfl, hc0, hc1, hc2⟩ := T
    have hge : goneE now age keep m[i] = (decide (m[i].2.2.2 < now - age) && decide (m[i].1 ≠ keep)) := rfl
    rw [hkey] at hc0
    generalize hy : m[i] = y at *
    obtain ⟨p, p', n1, n2⟩ := y
    simp only at hc0 hc1 hc2 hge hsn hst hkey
    subst hkey
    have qb : Qt w2 (w2.alloc (.cells #[.string p', .int .i64 n1, .int .i64 n2] 28)) := Chg.alloc Qt.refl _
    have hb : (w2.alloc (.cells #[.string p', .int .i64 n1, .int .i64 n2] 28)).heap[w2.heap.size]? = some (.cells #[.string p', .int .i64 n1, .int .i64 n2] 28 (0, 0)) := blk_new _ _
    have hsb : (w2.alloc (.cells #[.string p', .int .i64 n1, .int .i64 n2] 28)).heap.size = w2.heap.size + 1 := size_alloc _ _
    simp (maxSteps := 1000000) (disch := omega) only [hid1', hid2', guardK_u, takeG_u, wrap_in64, optK_some', fzK_false', nilK_ptr, brK_true', brK_false', guardK_tt', guardK_ff', guardK_tf', guardK_ft', takeG_tt', takeG_ff', takeG_tf', takeG_ft', pickK_t', pickK_f', pickT_t', pickT_f', notK, extract2_0', extract2_1', extract3_0', extract3_1', extract3_2', here_load, here_fieldAt, here_indexAt, here_extract, here_un, here_conv, here_slice, here_bin, here_nil, and_here, true_and, Nat.zero_add, Nat.add_assoc, Nat.add_zero, Int.toNat_natCast, size_alloc, World.cell?_drew, World.frozen?_drew, Bool.not_true, Bool.not_false, Int.toNat_zero, dec_t, dec_f, int_eq_t, int_eq_f, int_ne_t, int_ne_f, wrap_in, kblss3, kfa28_0, kld9, kld2, kld28, kal28, kst28f, kbneq9, kbadd3, klen35, hlen35, kia35, kblss2, kfa28_2, kfa63_0, kld60, kbsub2, kbs41_1_0, hc0, hc1, hc2]
    have b3 := b2.quiet qb
    have o3 := o2.chg qb (fun _ _ h => h)
    generalize (w2.alloc (.cells #[.string p', .int .i64 n1, .int .i64 n2] 28)) = w3 at *
    generalize hbo : w2.heap.size = bo at *
    obtain ⟨x0, x1, x2⟩ := cell3 (e := (p', n1, n2)) hb
    simp only at x0 x1 x2
    have k3 : Chg (fun q => q = g ∨ F = some q) w1 w3 := k2.trans (qb.mono (fun _ _ h => h.elim))
    by_cases hpk : p' = keep
    · have hb : (p'.toList == keep.toList) = true := by rw [hpk]; exact beq_self_eq_true _
      rw [if_neg (by rw [hge, hpk]; simp)] at hsn
      have hst2 := hst2 (by rw [hge, hpk]; simp)
      rw [List.append_nil] at hsn
      simp (maxSteps := 1000000) (disch := omega) only [hid1', hid2', guardK_u, takeG_u, wrap_in64, optK_some', fzK_false', nilK_ptr, brK_true', brK_false', guardK_tt', guardK_ff', guardK_tf', guardK_ft', takeG_tt', takeG_ff', takeG_tf', takeG_ft', pickK_t', pickK_f', pickT_t', pickT_f', notK, extract2_0', extract2_1', extract3_0', extract3_1', extract3_2', here_load, here_fieldAt, here_indexAt, here_extract, here_un, here_conv, here_slice, here_bin, here_nil, and_here, true_and, Nat.zero_add, Nat.add_assoc, Nat.add_zero, Int.toNat_natCast, size_alloc, World.cell?_drew, World.frozen?_drew, Bool.not_true, Bool.not_false, Int.toNat_zero, dec_t, dec_f, int_eq_t, int_eq_f, int_ne_t, int_ne_f, wrap_in, kblss3, kfa28_0, kld9, kld2, kld28, kal28, kst28f, kbneq9, kbadd3, klen35, hlen35, kia35, kblss2, kfa28_2, kfa63_0, kld60, kbsub2, kbs41_1_0, x0, hb, guardK_u]
      exact ⟨⟨i + 1, G, by go_num, by omega, by rw [hsn]; exact o3, hG, by rw [← hst2]; exact b3, k3⟩, by simp [rel, intOf]; omega⟩
    have hbf : (p'.toList == keep.toList) = false := by
      rw [beq_eq_false_iff_ne]; exact fun e => hpk (toList_inj e)
    have hdp : decide (p' ≠ keep) = true := decide_eq_true hpk
    rw [hdp, Bool.and_true] at hge
    by_cases hlt2 : n2 < now - age
    · rw [decide_eq_true hlt2] at hge
      rw [if_pos hge] at hsn
      have hst := hst hge
      simp (maxSteps := 1000000) (disch := omega) only [hid1', hid2', guardK_u, takeG_u, wrap_in64, optK_some', fzK_false', nilK_ptr, brK_true', brK_false', guardK_tt', guardK_ff', guardK_tf', guardK_ft', takeG_tt', takeG_ff', takeG_tf', takeG_ft', pickK_t', pickK_f', pickT_t', pickT_f', notK, extract2_0', extract2_1', extract3_0', extract3_1', extract3_2', here_load, here_fieldAt, here_indexAt, here_extract, here_un, here_conv, here_slice, here_bin, here_nil, and_here, true_and, Nat.zero_add, Nat.add_assoc, Nat.add_zero, Int.toNat_natCast, size_alloc, World.cell?_drew, World.frozen?_drew, Bool.not_true, Bool.not_false, Int.toNat_zero, dec_t, dec_f, int_eq_t, int_eq_f, int_ne_t, int_ne_f, wrap_in, kblss3, kfa28_0, kld9, kld2, kld28, kal28, kst28f, kbneq9, kbadd3, klen35, hlen35, kia35, kblss2, kfa28_2, kfa63_0, kld60, kbsub2, kbs41_1_0, x0, x2, hbf]
      obtain ⟨A4, p4, G4, w4, r4, o4, k4, f4⟩ := push_run (P := Tryd.prog) tyS o3 (.string p') rfl (by omega) (by omega) 41
      refine appK r4 ?_
      have hbx4 := k4.heap hb (fun e => by have := hG _ e; have := o2.lt e; omega)
      have hbF : ∀ k, G = some k → ¬ (k = x ∨ k = g ∨ F = some k) := fun k hk e => by
        have := hG k hk
        rcases e with e | e | e
        · have := blk_lt h.1; omega
        · omega
        · have := hlow.2 _ e; omega
      have b4 := b3.chg k4 (fun e => hbF x e (.inl rfl)) (fun e => hbF g e (.inr (.inl rfl))) (fun k hk e => hbF k e (.inr (.inr hk)))
      have kd : Qt w4 w4.drew := Qt.drew Qt.refl
      have k4' : Chg (fun q => q = g ∨ F = some q) w1 w4 := k3.then k4 (fun k hk => .inr (hG k hk))
      have hG4 : ∀ k, G4 = some k → w1.heap.size ≤ k := fun k hk => (f4 k hk).elim (hG k) (fun h => by omega)
      simp (maxSteps := 1000000) (disch := omega) only [hid1', hid2', guardK_u, takeG_u, wrap_in64, optK_some', fzK_false', nilK_ptr, brK_true', brK_false', guardK_tt', guardK_ff', guardK_tf', guardK_ft', takeG_tt', takeG_ff', takeG_tf', takeG_ft', pickK_t', pickK_f', pickT_t', pickT_f', notK, extract2_0', extract2_1', extract3_0', extract3_1', extract3_2', here_load, here_fieldAt, here_indexAt, here_extract, here_un, here_conv, here_slice, here_bin, here_nil, and_here, true_and, Nat.zero_add, Nat.add_assoc, Nat.add_zero, Int.toNat_natCast, size_alloc, World.cell?_drew, World.frozen?_drew, Bool.not_true, Bool.not_false, Int.toNat_zero, dec_t, dec_f, int_eq_t, int_eq_f, int_ne_t, int_ne_f, wrap_in, kblss3, kfa28_0, kld9, kld2, kld28, kal28, kst28f, kbneq9, kbadd3, klen35, hlen35, kia35, kblss2, kfa28_2, kfa63_0, kld60, kbsub2, kbs41_1_0]
      refine drawK_by (fun w' => w'.heap[bo]? = some (.cells #[.string p', .int .i64 n1, .int .i64 n2] 28 (0, 0)) ∧ w'.cell? ⟨x, 0, none⟩ = some (.pointer (some ⟨g, 0, none⟩))) ⟨kd.heap hbx4 (fun h => h), b4.cell⟩ ?_
      refine take_nil ?_
      refine take_field (.pointer (some ⟨x, 0, none⟩)) (fun w' _ => by (simp (maxSteps := 1000000) (disch := omega) only [hid1', hid2', guardK_u, takeG_u, wrap_in64, optK_some', fzK_false', nilK_ptr, brK_true', brK_false', guardK_tt', guardK_ff', guardK_tf', guardK_ft', takeG_tt', takeG_ff', takeG_tf', takeG_ft', pickK_t', pickK_f', pickT_t', pickT_f', notK, extract2_0', extract2_1', extract3_0', extract3_1', extract3_2', here_load, here_fieldAt, here_indexAt, here_extract, here_un, here_conv, here_slice, here_bin, here_nil, and_here, true_and, Nat.zero_add, Nat.add_assoc, Nat.add_zero, Int.toNat_natCast, size_alloc, World.cell?_drew, World.frozen?_drew, Bool.not_true, Bool.not_false, Int.toNat_zero, dec_t, dec_f, int_eq_t, int_eq_f, int_ne_t, int_ne_f, wrap_in, kblss3, kfa28_0, kld9, kld2, kld28, kal28, kst28f, kbneq9, kbadd3, klen35, hlen35, kia35, kblss2, kfa28_2, kfa63_0, kld60, kbsub2, kbs41_1_0]; try (exact ⟨trivial, trivial⟩))) ?_
      refine take_load (.pointer (some ⟨g, 0, none⟩)) (fun w' q => by have h := q.2; (simp (maxSteps := 1000000) (disch := omega) only [hid1', hid2', guardK_u, takeG_u, wrap_in64, optK_some', fzK_false', nilK_ptr, brK_true', brK_false', guardK_tt', guardK_ff', guardK_tf', guardK_ft', takeG_tt', takeG_ff', takeG_tf', takeG_ft', pickK_t', pickK_f', pickT_t', pickT_f', notK, extract2_0', extract2_1', extract3_0', extract3_1', extract3_2', here_load, here_fieldAt, here_indexAt, here_extract, here_un, here_conv, here_slice, here_bin, here_nil, and_here, true_and, Nat.zero_add, Nat.add_assoc, Nat.add_zero, Int.toNat_natCast, size_alloc, World.cell?_drew, World.frozen?_drew, Bool.not_true, Bool.not_false, Int.toNat_zero, dec_t, dec_f, int_eq_t, int_eq_f, int_ne_t, int_ne_f, wrap_in, kblss3, kfa28_0, kld9, kld2, kld28, kal28, kst28f, kbneq9, kbadd3, klen35, hlen35, kia35, kblss2, kfa28_2, kfa63_0, kld60, kbsub2, kbs41_1_0, h]; try (exact ⟨trivial, trivial⟩))) ?_
      refine take_field (.pointer (some ⟨bo, 0, none⟩)) (fun w' _ => by (simp (maxSteps := 1000000) (disch := omega) only [hid1', hid2', guardK_u, takeG_u, wrap_in64, optK_some', fzK_false', nilK_ptr, brK_true', brK_false', guardK_tt', guardK_ff', guardK_tf', guardK_ft', takeG_tt', takeG_ff', takeG_tf', takeG_ft', pickK_t', pickK_f', pickT_t', pickT_f', notK, extract2_0', extract2_1', extract3_0', extract3_1', extract3_2', here_load, here_fieldAt, here_indexAt, here_extract, here_un, here_conv, here_slice, here_bin, here_nil, and_here, true_and, Nat.zero_add, Nat.add_assoc, Nat.add_zero, Int.toNat_natCast, size_alloc, World.cell?_drew, World.frozen?_drew, Bool.not_true, Bool.not_false, Int.toNat_zero, dec_t, dec_f, int_eq_t, int_eq_f, int_ne_t, int_ne_f, wrap_in, kblss3, kfa28_0, kld9, kld2, kld28, kal28, kst28f, kbneq9, kbadd3, klen35, hlen35, kia35, kblss2, kfa28_2, kfa63_0, kld60, kbsub2, kbs41_1_0]; try (exact ⟨trivial, trivial⟩))) ?_
      refine take_load (.string p') (fun w' q => by have h := (cell3 (e := (p', n1, n2)) q.1).1; (simp (maxSteps := 1000000) (disch := omega) only [hid1', hid2', guardK_u, takeG_u, wrap_in64, optK_some', fzK_false', nilK_ptr, brK_true', brK_false', guardK_tt', guardK_ff', guardK_tf', guardK_ft', takeG_tt', takeG_ff', takeG_tf', takeG_ft', pickK_t', pickK_f', pickT_t', pickT_f', notK, extract2_0', extract2_1', extract3_0', extract3_1', extract3_2', here_load, here_fieldAt, here_indexAt, here_extract, here_un, here_conv, here_slice, here_bin, here_nil, and_here, true_and, Nat.zero_add, Nat.add_assoc, Nat.add_zero, Int.toNat_natCast, size_alloc, World.cell?_drew, World.frozen?_drew, Bool.not_true, Bool.not_false, Int.toNat_zero, dec_t, dec_f, int_eq_t, int_eq_f, int_ne_t, int_ne_f, wrap_in, kblss3, kfa28_0, kld9, kld2, kld28, kal28, kst28f, kbneq9, kbadd3, klen35, hlen35, kia35, kblss2, kfa28_2, kfa63_0, kld60, kbsub2, kbs41_1_0, h]; try (exact ⟨trivial, trivial⟩))) ?_
      have b4d := b4.quiet kd
      refine ⟨ck34 (SE.drop_any b4d.2.1 ?_), trivial⟩
      intro w5 m5 k5
      rw [hst] at m5
      have kx : ¬ (x = g ∨ F = some x) := by
        rintro (e | e)
        · exact h.2.2.1 e
        · exact h.2.2.2 e
      have kb : ¬ (bo = g ∨ F = some bo) := by
        rintro (e | e)
        · omega
        · have := hlow.2 _ e; omega
      have hbx5 := k5.heap (kd.heap hbx4 (fun h => h)) kb
      have hx5 := k5.heap b4d.1 kx
      have o5 := (o4.chg kd (fun _ _ h => h)).chg k5 (fun k hk e => by
        have := hG4 k hk
        rcases e with e | e
        · omega
        · have := hlow.2 _ e; omega)
      simp (maxSteps := 1000000) (disch := omega) only [hid1', hid2', guardK_u, takeG_u, wrap_in64, optK_some', fzK_false', nilK_ptr, brK_true', brK_false', guardK_tt', guardK_ff', guardK_tf', guardK_ft', takeG_tt', takeG_ff', takeG_tf', takeG_ft', pickK_t', pickK_f', pickT_t', pickT_f', notK, extract2_0', extract2_1', extract3_0', extract3_1', extract3_2', here_load, here_fieldAt, here_indexAt, here_extract, here_un, here_conv, here_slice, here_bin, here_nil, and_here, true_and, Nat.zero_add, Nat.add_assoc, Nat.add_zero, Int.toNat_natCast, size_alloc, World.cell?_drew, World.frozen?_drew, Bool.not_true, Bool.not_false, Int.toNat_zero, dec_t, dec_f, int_eq_t, int_eq_f, int_ne_t, int_ne_f, wrap_in, kblss3, kfa28_0, kld9, kld2, kld28, kal28, kst28f, kbneq9, kbadd3, klen35, hlen35, kia35, kblss2, kfa28_2, kfa63_0, kld60, kbsub2, kbs41_1_0]
      refine ⟨⟨hbx5, by rw [blk_cell hx5]; rfl⟩, ⟨i + 1, G4, by go_num, by omega, ?_, hG4, ⟨hx5, m5, h.2.2⟩, (k4'.trans (kd.mono (fun _ _ h => h.elim))).trans k5⟩, by simp [rel, intOf]; omega⟩
      rw [hsn, List.length_append]
      unfold strV at o5 ⊢
      rw [List.map_append]; exact o5
    · rw [decide_eq_false hlt2] at hge
      rw [if_neg (by rw [hge]; decide)] at hsn
      have hst2 := hst2 hge
      rw [List.append_nil] at hsn
      simp (maxSteps := 1000000) (disch := omega) only [hid1', hid2', guardK_u, takeG_u, wrap_in64, optK_some', fzK_false', nilK_ptr, brK_true', brK_false', guardK_tt', guardK_ff', guardK_tf', guardK_ft', takeG_tt', takeG_ff', takeG_tf', takeG_ft', pickK_t', pickK_f', pickT_t', pickT_f', notK, extract2_0', extract2_1', extract3_0', extract3_1', extract3_2', here_load, here_fieldAt, here_indexAt, here_extract, here_un, here_conv, here_slice, here_bin, here_nil, and_here, true_and, Nat.zero_add, Nat.add_assoc, Nat.add_zero, Int.toNat_natCast, size_alloc, World.cell?_drew, World.frozen?_drew, Bool.not_true, Bool.not_false, Int.toNat_zero, dec_t, dec_f, int_eq_t, int_eq_f, int_ne_t, int_ne_f, wrap_in, kblss3, kfa28_0, kld9, kld2, kld28, kal28, kst28f, kbneq9, kbadd3, klen35, hlen35, kia35, kblss2, kfa28_2, kfa63_0, kld60, kbsub2, kbs41_1_0, x0, x2, hbf]
      exact ⟨⟨i + 1, G, by go_num, by omega, by rw [hsn]; exact o3, hG, by rw [← hst2]; exact b3, k3⟩, by simp [rel, intOf]; omega⟩
  · obtain rfl : i = m.length := by omega
    rw [List.take_length] at o2 ⊢
    have hend : stM m now age keep m.length = stayM m now age keep := by unfold stM; rw [List.take_length, List.drop_length, List.append_nil]
    rw [hend] at b2
    simp (maxSteps := 1000000) (disch := omega) only [hid1', hid2', guardK_u, takeG_u, wrap_in64, optK_some', fzK_false', nilK_ptr, brK_true', brK_false', guardK_tt', guardK_ff', guardK_tf', guardK_ft', takeG_tt', takeG_ff', takeG_tf', takeG_ft', pickK_t', pickK_f', pickT_t', pickT_f', notK, extract2_0', extract2_1', extract3_0', extract3_1', extract3_2', here_load, here_fieldAt, here_indexAt, here_extract, here_un, here_conv, here_slice, here_bin, here_nil, and_here, true_and, Nat.zero_add, Nat.add_assoc, Nat.add_zero, Int.toNat_natCast, size_alloc, World.cell?_drew, World.frozen?_drew, Bool.not_true, Bool.not_false, Int.toNat_zero, dec_t, dec_f, int_eq_t, int_eq_f, int_ne_t, int_ne_f, wrap_in, kblss3, kfa28_0, kld9, kld2, kld28, kal28, kst28f, kbneq9, kbadd3, klen35, hlen35, kia35, kblss2, kfa28_2, kfa63_0, kld60, kbsub2, kbs41_1_0]
    refine ck35 (clipS_any o2 ?_)
    simp (maxSteps := 1000000) (disch := omega) only [hid1', hid2', guardK_u, takeG_u, wrap_in64, optK_some', fzK_false', nilK_ptr, brK_true', brK_false', guardK_tt', guardK_ff', guardK_tf', guardK_ft', takeG_tt', takeG_ff', takeG_tf', takeG_ft', pickK_t', pickK_f', pickT_t', pickT_f', notK, extract2_0', extract2_1', extract3_0', extract3_1', extract3_2', here_load, here_fieldAt, here_indexAt, here_extract, here_un, here_conv, here_slice, here_bin, here_nil, and_here, true_and, Nat.zero_add, Nat.add_assoc, Nat.add_zero, Int.toNat_natCast, size_alloc, World.cell?_drew, World.frozen?_drew, Bool.not_true, Bool.not_false, Int.toNat_zero, dec_t, dec_f, int_eq_t, int_eq_f, int_ne_t, int_ne_f, wrap_in, kblss3, kfa28_0, kld9, kld2, kld28, kal28, kst28f, kbneq9, kbadd3, klen35, hlen35, kia35, kblss2, kfa28_2, kfa63_0, kld60, kbsub2, kbs41_1_0]
    exact hK A2 w2 (reads_own o2) b2 ((q1.mono (fun _ _ h => h.elim)).trans k2)
end Go.Proofs.YtbkficgmjgbbeaaDoor
