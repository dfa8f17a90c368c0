/- lives.Load: what it reads. Conditions: at most 20000 bytes. -/
import Derived.Test.YtpdhmbbmhomlnaaDoorLivesIO
import Derived.Test.YtpdhmbbmhomlnaaDoorDec
set_option linter.unusedVariables false
set_option linter.unusedSimpArgs false
set_option maxRecDepth 100000
namespace Go.Proofs.YtpdhmbbmhomlnaaDoor
open Go.RowKit Go.Cn Go.Cn.Num
theorem infoF : (Tryd.prog.info? 97).map (fun i => (i.zero, i.size, i.bytes)) = some (some (.agg #[.string ByteArray.empty, .int .i64 0]), 2, 24) := by kernel_rfl
theorem tyF : ElemTy Tryd.prog 95 97 (.agg #[.string ByteArray.empty, .int .i64 0]) 2 24 := ElemTy.mk' Tryd.underlying95 infoF rfl (by decide)
theorem reads_own2 {t : TypeId} {w : World} {A : Option Addr} {n c : Nat} {xs : List Value} {F : Option Nat} (h : Own w t 2 (.slice A n c) n xs F) : Reads w A xs := by
  rcases h with ⟨_, _, rfl, _⟩ | ⟨g, cap, e, _, hl, cur, hb, h1, h2, h3, h4⟩
  · exact .inl rfl
  · injection e with e
    subst e
    right
    refine ⟨g, 0, rfl, fun j hj => ?_⟩
    have hrow : RowAt w t 2 g n cap xs := ⟨hl, cur, hb, h1, h2, h3, h4⟩
    rw [Nat.zero_add]; exact hrow.cell j (by omega)
theorem dec_lt {w : World} {g : Nat} {e : Int} {r : List UInt8} {D : Option Nat} (h : DecAt w g e r D) : g < w.heap.size := by
  obtain ⟨A, c, h1, _⟩ := h
  exact blk_lt h1
theorem of_any2 {l : List UInt8} {A : Option Addr} {c : Nat} {w : World} {K : Value → World → Prop} (hr : Reads w A (l.map vb)) (hl : l.length ≤ 100000)
    (hK : ∀ g D w', DecAt w' g 0 l D → Qt w w' → w.heap.size ≤ g → (∀ k, D = some k → w.heap.size ≤ k ∧ k < w'.heap.size) → K (.pointer (some ⟨g, 0, none⟩)) w') : CallK Tryd.prog 33 #[.slice A l.length c] K w := by
  refine F33_calls _ _ _ ?_; unfold F33
  refine ck43 (clone_any hr hl ?_)
  intro A1 c1 F1 w1 o1 q1 f1
  simp (maxSteps := 1000000) (disch := omega) only [hid1', hid2', guardK_u, takeG_u, wrap_in64, optK_some', fzK_false', nilK_ptr, brK_true', brK_false', guardK_tt', guardK_ff', guardK_tf', guardK_ft', takeG_tt', takeG_ff', takeG_tf', takeG_ft', pickK_t', pickK_f', pickT_t', pickT_f', notK, extract2_0', extract2_1', extract3_0', extract3_1', extract3_2', here_load, here_fieldAt, here_indexAt, here_extract, here_un, here_conv, here_slice, here_bin, here_nil, and_here, true_and, Nat.zero_add, Nat.add_assoc, Nat.add_zero, Int.toNat_natCast, size_alloc, World.cell?_drew, World.frozen?_drew, Bool.not_true, Bool.not_false, Int.toNat_zero, dec_t, dec_f, int_eq_t, int_eq_f, int_ne_t, int_ne_f, wrap_in, kbd99_0, kbx99]
  obtain ⟨A', c', hv, hc1, hc2⟩ := o1.shape
  cases hv
  have hc := (Chg.refl (fun _ => False) w1).alloc (.cells #[.slice A1 l.length c1, .int .i64 0] 99)
  refine hK _ F1 _ ⟨A1, c1, blk_new _ _, Reads.of_own (o1.chg hc (fun _ _ h => h)), hc1, hc2, fun ad e => ?_, fun e => ?_, fun e => ?_⟩ (q1.trans hc) q1.size (fun k hk => ⟨f1 k hk, by have := o1.lt hk; simp; omega⟩)
  · subst e
    rcases o1 with ⟨hv, _⟩ | ⟨g, cap, hv, hF, _⟩
    · cases hv
    · injection hv with e1 e2 e3
      injection e1 with e1
      subst e1
      exact ⟨hF, rfl⟩
  · obtain ⟨h1, h2⟩ := (own_clip o1).1 e
    exact ⟨List.eq_nil_of_length_eq_zero h1, h2⟩
  · have := o1.lt e
    omega
theorem textD_txt (e : Int) (r : List UInt8) : (textD e r).1.length ≤ r.length := by
  have := intD_len e r
  unfold textD
  generalize intD e r = q at *
  split
  · simp
  · split
    · simp
    · split
      · simp
      · simp only [List.length_take]; omega
theorem rowsD_txt : ∀ (n : Nat) (e : Int) (r : List UInt8), ∀ x ∈ (rowsD n e r).1, x.1.size ≤ r.length
  | 0, e, r, x, hx => by simp [rowsD] at hx
  | n + 1, e, r, x, hx => by
    rw [rowsD] at hx
    rcases List.mem_append.1 hx with h | h
    · exact rowsD_txt n e r x h
    · rw [List.mem_singleton] at h
      subst h
      show (txt _).size ≤ _
      rw [txt_size]
      exact Nat.le_trans (textD_txt _ _) (rowsD_le n e r)
theorem rowsD_num : ∀ (n : Nat) (e : Int) (r : List UInt8), ∀ x ∈ (rowsD n e r).1, (-9223372036854775808 : Int) ≤ x.2 ∧ (x.2 : Int) ≤ 9223372036854775807
  | 0, e, r, x, hx => by simp [rowsD] at hx
  | n + 1, e, r, x, hx => by
    rw [rowsD] at hx
    rcases List.mem_append.1 hx with h | h
    · exact rowsD_num n e r x h
    · rw [List.mem_singleton] at h
      subst h
      exact intD_bounds _ _
theorem put_end {l : LM} {p : ByteArray} (h : ∀ x ∈ l, SI.lt x.1 p = true) (v : Int) : putM SI.lt l p v = l ++ [(p, v)] := by
  have hp : pos SI.lt l p = l.length := pos_eq l p l.length (Nat.le_refl _) (fun j hj _ => h _ (List.getElem_mem hj)) (fun h => absurd h (by omega))
  have hf : fnd SI.lt l p = false := by
    cases e : fnd SI.lt l p with
    | false => rfl
    | true => have := fnd_lt e; omega
  rw [put_split, hp, hf, if_neg (by decide)]
  simp
/-- All that is before a place is below what is there, if the one just before it is. -/
theorem below_of {z : LM} {j : Nat} {last p : ByteArray} (hj : j ≤ z.length) (hs : Rises SI.lt (z.take j)) (hl : ∀ h : 0 < j, last = (z[j - 1]'(by omega)).1) (h : SI.lt last p = true) : ∀ x ∈ z.take j, SI.lt x.1 p = true := by
  intro x hx
  obtain ⟨i, hi, rfl⟩ := List.mem_iff_getElem.1 hx
  rw [List.length_take] at hi
  have h0 : 0 < j := by omega
  by_cases e : i = j - 1
  · subst e
    rw [List.getElem_take, ← hl h0]; exact h
  · have := hs.less i (j - 1) (by rw [List.length_take]; omega) (by omega)
    rw [List.getElem_take, List.getElem_take, ← hl h0] at this
    rw [List.getElem_take]
    exact SI.O.tr this h
theorem le_eq (a b : ByteArray) : (Op.bytesLess a.toList b.toList || a.toList == b.toList) = !SI.lt b a := by
  show (ltS a b || a.toList == b.toList) = !ltS b a
  cases h : ltS b a with
  | true =>
    have h1 := ordS.asym h
    have h2 : (a.toList == b.toList) = false := by
      rw [beq_eq_false_iff_ne]
      intro e
      have := toList_inj e
      subst this
      rw [ordS.irr] at h; cases h
    rw [h1, h2]; rfl
  | false =>
    cases h3 : ltS a b with
    | true => rfl
    | false =>
      have := ordS.tri h3 h
      subst this
      simp
set_option maxHeartbeats 2000000 in
theorem read_any {w : World} {x g gd : Nat} {r : List UInt8} {D : Option Nat} {K : Value → World → Prop} (h : LivesAt w x g [] none) (hd : DecAt w gd 0 r D) (hr : r.length ≤ 20000) (hm : MaxAt w) (hgx : gd ≠ x) (hgg : gd ≠ g) (hz : 0 < gd ∧ 0 < g) (hD : ∀ k, D = some k → k ≠ g ∧ k < w.heap.size)
    (hK : ∀ F' w', ((readM r).1 = 0 → LivesAt w' x g (readM r).2 F') → Chg (fun k => k = gd ∨ k = g) w w' → (∀ k, F' = some k → w.heap.size ≤ k) → K (.int .i64 (readM r).1) w') :
    CallK Tryd.prog 32 #[.pointer (some ⟨x, 0, none⟩), .pointer (some ⟨gd, 0, none⟩)] K w := by
  refine F32_calls _ _ _ _ ?_; unfold F32
  have hgl := dec_lt hd
  have hxl := blk_lt h.1
  have hggl := h.2.1.low
  refine ck46 (int_any hd (by omega) ?_)
  intro w1 d1 c1
  have hle := intD_len 0 r
  have hnb := intD_bounds 0 r
  unfold readM at hK
  generalize intD 0 r = q at *
  obtain ⟨n, e1, r1⟩ := q
  simp only at d1 hle hnb hK
  have wk : ∀ {a b : World}, Chg (fun k => k = gd) a b → Chg (fun k => k = gd ∨ k = g) a b := fun c => c.mono (fun _ _ h => .inl h)
  simp (maxSteps := 1000000) (disch := omega) only [hid1', hid2', guardK_u, takeG_u, wrap_in64, optK_some', fzK_false', nilK_ptr, brK_true', brK_false', guardK_tt', guardK_ff', guardK_tf', guardK_ft', takeG_tt', takeG_ff', takeG_tf', takeG_ft', pickK_t', pickK_f', pickT_t', pickT_f', notK, extract2_0', extract2_1', extract3_0', extract3_1', extract3_2', here_load, here_fieldAt, here_indexAt, here_extract, here_un, here_conv, here_slice, here_bin, here_nil, and_here, true_and, Nat.zero_add, Nat.add_assoc, Nat.add_zero, Int.toNat_natCast, size_alloc, World.cell?_drew, World.frozen?_drew, Bool.not_true, Bool.not_false, Int.toNat_zero, dec_t, dec_f, int_eq_t, int_eq_f, int_ne_t, int_ne_f, wrap_in, kbgtr3, kblss3, kld9, kbadd3, kld2, kbadd2, kfa52_0, kld49, kbneq29, kblss2, kbgtr2, kbd97_0_1, kbs95_1_0, klen95, hlen95, kia95, kld97, kal97, kst97f, kfa97_0, kbleq9, kfa97_1]
  refine ck47 (err_any d1 ?_)
  by_cases he : e1 ≠ 0
  · rw [if_pos he] at hK
    simp (maxSteps := 1000000) (disch := omega) only [hid1', hid2', guardK_u, takeG_u, wrap_in64, optK_some', fzK_false', nilK_ptr, brK_true', brK_false', guardK_tt', guardK_ff', guardK_tf', guardK_ft', takeG_tt', takeG_ff', takeG_tf', takeG_ft', pickK_t', pickK_f', pickT_t', pickT_f', notK, extract2_0', extract2_1', extract3_0', extract3_1', extract3_2', here_load, here_fieldAt, here_indexAt, here_extract, here_un, here_conv, here_slice, here_bin, here_nil, and_here, true_and, Nat.zero_add, Nat.add_assoc, Nat.add_zero, Int.toNat_natCast, size_alloc, World.cell?_drew, World.frozen?_drew, Bool.not_true, Bool.not_false, Int.toNat_zero, dec_t, dec_f, int_eq_t, int_eq_f, int_ne_t, int_ne_f, wrap_in, kbgtr3, kblss3, kld9, kbadd3, kld2, kbadd2, kfa52_0, kld49, kbneq29, kblss2, kbgtr2, kbd97_0_1, kbs95_1_0, klen95, hlen95, kia95, kld97, kal97, kst97f, kfa97_0, kbleq9, kfa97_1]
    refine ck47 (err_any d1 ?_)
    simp (maxSteps := 1000000) (disch := omega) only [hid1', hid2', guardK_u, takeG_u, wrap_in64, optK_some', fzK_false', nilK_ptr, brK_true', brK_false', guardK_tt', guardK_ff', guardK_tf', guardK_ft', takeG_tt', takeG_ff', takeG_tf', takeG_ft', pickK_t', pickK_f', pickT_t', pickT_f', notK, extract2_0', extract2_1', extract3_0', extract3_1', extract3_2', here_load, here_fieldAt, here_indexAt, here_extract, here_un, here_conv, here_slice, here_bin, here_nil, and_here, true_and, Nat.zero_add, Nat.add_assoc, Nat.add_zero, Int.toNat_natCast, size_alloc, World.cell?_drew, World.frozen?_drew, Bool.not_true, Bool.not_false, Int.toNat_zero, dec_t, dec_f, int_eq_t, int_eq_f, int_ne_t, int_ne_f, wrap_in, kbgtr3, kblss3, kld9, kbadd3, kld2, kbadd2, kfa52_0, kld49, kbneq29, kblss2, kbgtr2, kbd97_0_1, kbs95_1_0, klen95, hlen95, kia95, kld97, kal97, kst97f, kfa97_0, kbleq9, kfa97_1]
    exact hK none w1 (fun h => absurd h he) (wk c1) (fun _ h => by cases h)
  obtain rfl : e1 = 0 := by omega
  rw [if_neg (by simp)] at hK
  by_cases h256 : 256 < n
  · rw [if_pos h256] at hK
    simp (maxSteps := 1000000) (disch := omega) only [hid1', hid2', guardK_u, takeG_u, wrap_in64, optK_some', fzK_false', nilK_ptr, brK_true', brK_false', guardK_tt', guardK_ff', guardK_tf', guardK_ft', takeG_tt', takeG_ff', takeG_tf', takeG_ft', pickK_t', pickK_f', pickT_t', pickT_f', notK, extract2_0', extract2_1', extract3_0', extract3_1', extract3_2', here_load, here_fieldAt, here_indexAt, here_extract, here_un, here_conv, here_slice, here_bin, here_nil, and_here, true_and, Nat.zero_add, Nat.add_assoc, Nat.add_zero, Int.toNat_natCast, size_alloc, World.cell?_drew, World.frozen?_drew, Bool.not_true, Bool.not_false, Int.toNat_zero, dec_t, dec_f, int_eq_t, int_eq_f, int_ne_t, int_ne_f, wrap_in, kbgtr3, kblss3, kld9, kbadd3, kld2, kbadd2, kfa52_0, kld49, kbneq29, kblss2, kbgtr2, kbd97_0_1, kbs95_1_0, klen95, hlen95, kia95, kld97, kal97, kst97f, kfa97_0, kbleq9, kfa97_1]
    exact hK none w1 (fun h => by cases h) (wk c1) (fun _ h => by cases h)
  rw [if_neg h256] at hK
  by_cases h0 : n < 0
  · rw [if_pos h0] at hK
    simp (maxSteps := 1000000) (disch := omega) only [hid1', hid2', guardK_u, takeG_u, wrap_in64, optK_some', fzK_false', nilK_ptr, brK_true', brK_false', guardK_tt', guardK_ff', guardK_tf', guardK_ft', takeG_tt', takeG_ff', takeG_tf', takeG_ft', pickK_t', pickK_f', pickT_t', pickT_f', notK, extract2_0', extract2_1', extract3_0', extract3_1', extract3_2', here_load, here_fieldAt, here_indexAt, here_extract, here_un, here_conv, here_slice, here_bin, here_nil, and_here, true_and, Nat.zero_add, Nat.add_assoc, Nat.add_zero, Int.toNat_natCast, size_alloc, World.cell?_drew, World.frozen?_drew, Bool.not_true, Bool.not_false, Int.toNat_zero, dec_t, dec_f, int_eq_t, int_eq_f, int_ne_t, int_ne_f, wrap_in, kbgtr3, kblss3, kld9, kbadd3, kld2, kbadd2, kfa52_0, kld49, kbneq29, kblss2, kbgtr2, kbd97_0_1, kbs95_1_0, klen95, hlen95, kia95, kld97, kal97, kst97f, kfa97_0, kbleq9, kfa97_1]
    exact hK none w1 (fun h => by cases h) (wk c1) (fun _ h => by cases h)
  rw [if_neg h0] at hK
  obtain ⟨N, rfl⟩ : ∃ N : Nat, n = (N : Int) := ⟨n.toNat, by omega⟩
  rw [Int.toNat_natCast] at hK
  have hs1 := c1.size
  simp (maxSteps := 1000000) (disch := omega) only [hid1', hid2', guardK_u, takeG_u, wrap_in64, optK_some', fzK_false', nilK_ptr, brK_true', brK_false', guardK_tt', guardK_ff', guardK_tf', guardK_ft', takeG_tt', takeG_ff', takeG_tf', takeG_ft', pickK_t', pickK_f', pickT_t', pickT_f', notK, extract2_0', extract2_1', extract3_0', extract3_1', extract3_2', here_load, here_fieldAt, here_indexAt, here_extract, here_un, here_conv, here_slice, here_bin, here_nil, and_here, true_and, Nat.zero_add, Nat.add_assoc, Nat.add_zero, Int.toNat_natCast, size_alloc, World.cell?_drew, World.frozen?_drew, Bool.not_true, Bool.not_false, Int.toNat_zero, dec_t, dec_f, int_eq_t, int_eq_f, int_ne_t, int_ne_f, wrap_in, kbgtr3, kblss3, kld9, kbadd3, kld2, kbadd2, kfa52_0, kld49, kbneq29, kblss2, kbgtr2, kbd97_0_1, kbs95_1_0, klen95, hlen95, kia95, kld97, kal97, kst97f, kfa97_0, kbleq9, kfa97_1]
  refine loopK2 (fun v i w' => ∃ (j : Nat) (F : Option Nat), i = .int .i64 (j : Int) ∧ j ≤ N ∧ Own w' 97 2 v j ((rowsD j 0 r1).1.flatMap SI.cell2) F ∧ (∀ k, F = some k → w.heap.size ≤ k) ∧ DecAt w' gd (rowsD j 0 r1).2.1 (rowsD j 0 r1).2.2 D ∧ Chg (fun k => k = gd) w w') (fun _ i _ => N - (intOf i).toNat) ⟨0, none, rfl, by omega, Own.nil _ _ _, fun _ h => (by cases h), d1, c1⟩ ?_
  rintro v _ _ w2 ⟨j, F, rfl, hj, o2, hF, d2, c2⟩
  have hrl := rowsD_le j 0 r1
  have hzl := rowsD_len j 0 r1
  obtain ⟨A2, p2, rfl, hp1, hp2⟩ := o2.shape
  by_cases hlt : j < N
  · have hsucc : rowsD (j + 1) 0 r1 = ((rowsD j 0 r1).1 ++ [(txt (textD (rowsD j 0 r1).2.1 (rowsD j 0 r1).2.2).1, (intD (textD (rowsD j 0 r1).2.1 (rowsD j 0 r1).2.2).2.1 (textD (rowsD j 0 r1).2.1 (rowsD j 0 r1).2.2).2.2).1)],
      (intD (textD (rowsD j 0 r1).2.1 (rowsD j 0 r1).2.2).2.1 (textD (rowsD j 0 r1).2.1 (rowsD j 0 r1).2.2).2.2).2) := by rw [rowsD]
    generalize rowsD j 0 r1 = z at *
    obtain ⟨zl, ze, zr⟩ := z
    simp only at o2 d2 hrl hzl hsucc
    simp (maxSteps := 1000000) (disch := omega) only [hid1', hid2', guardK_u, takeG_u, wrap_in64, optK_some', fzK_false', nilK_ptr, brK_true', brK_false', guardK_tt', guardK_ff', guardK_tf', guardK_ft', takeG_tt', takeG_ff', takeG_tf', takeG_ft', pickK_t', pickK_f', pickT_t', pickT_f', notK, extract2_0', extract2_1', extract3_0', extract3_1', extract3_2', here_load, here_fieldAt, here_indexAt, here_extract, here_un, here_conv, here_slice, here_bin, here_nil, and_here, true_and, Nat.zero_add, Nat.add_assoc, Nat.add_zero, Int.toNat_natCast, size_alloc, World.cell?_drew, World.frozen?_drew, Bool.not_true, Bool.not_false, Int.toNat_zero, dec_t, dec_f, int_eq_t, int_eq_f, int_ne_t, int_ne_f, wrap_in, kbgtr3, kblss3, kld9, kbadd3, kld2, kbadd2, kfa52_0, kld49, kbneq29, kblss2, kbgtr2, kbd97_0_1, kbs95_1_0, klen95, hlen95, kia95, kld97, kal97, kst97f, kfa97_0, kbleq9, kfa97_1]
    refine ck48 (text_any d2 (by omega) ?_)
    intro w3 d3 c3
    have htl := textD_le ze zr
    generalize textD ze zr = t at *
    obtain ⟨tt, te, tr⟩ := t
    simp only at d3 hsucc htl ⊢
    simp (maxSteps := 1000000) (disch := omega) only [hid1', hid2', guardK_u, takeG_u, wrap_in64, optK_some', fzK_false', nilK_ptr, brK_true', brK_false', guardK_tt', guardK_ff', guardK_tf', guardK_ft', takeG_tt', takeG_ff', takeG_tf', takeG_ft', pickK_t', pickK_f', pickT_t', pickT_f', notK, extract2_0', extract2_1', extract3_0', extract3_1', extract3_2', here_load, here_fieldAt, here_indexAt, here_extract, here_un, here_conv, here_slice, here_bin, here_nil, and_here, true_and, Nat.zero_add, Nat.add_assoc, Nat.add_zero, Int.toNat_natCast, size_alloc, World.cell?_drew, World.frozen?_drew, Bool.not_true, Bool.not_false, Int.toNat_zero, dec_t, dec_f, int_eq_t, int_eq_f, int_ne_t, int_ne_f, wrap_in, kbgtr3, kblss3, kld9, kbadd3, kld2, kbadd2, kfa52_0, kld49, kbneq29, kblss2, kbgtr2, kbd97_0_1, kbs95_1_0, klen95, hlen95, kia95, kld97, kal97, kst97f, kfa97_0, kbleq9, kfa97_1]
    refine ck46 (int_any d3 (by omega) ?_)
    intro w4 d4 c4
    generalize intD te tr = y at *
    obtain ⟨yn, ye, yr⟩ := y
    simp only at d4 hsucc ⊢
    simp (maxSteps := 1000000) (disch := omega) only [hid1', hid2', guardK_u, takeG_u, wrap_in64, optK_some', fzK_false', nilK_ptr, brK_true', brK_false', guardK_tt', guardK_ff', guardK_tf', guardK_ft', takeG_tt', takeG_ff', takeG_tf', takeG_ft', pickK_t', pickK_f', pickT_t', pickT_f', notK, extract2_0', extract2_1', extract3_0', extract3_1', extract3_2', here_load, here_fieldAt, here_indexAt, here_extract, here_un, here_conv, here_slice, here_bin, here_nil, and_here, true_and, Nat.zero_add, Nat.add_assoc, Nat.add_zero, Int.toNat_natCast, size_alloc, World.cell?_drew, World.frozen?_drew, Bool.not_true, Bool.not_false, Int.toNat_zero, dec_t, dec_f, int_eq_t, int_eq_f, int_ne_t, int_ne_f, wrap_in, kbgtr3, kblss3, kld9, kbadd3, kld2, kbadd2, kfa52_0, kld49, kbneq29, kblss2, kbgtr2, kbd97_0_1, kbs95_1_0, klen95, hlen95, kia95, kld97, kal97, kst97f, kfa97_0, kbleq9, kfa97_1]
    have c24 := c3.trans c4
    have hFg : ∀ k, F = some k → ¬ k = gd := fun k hk e => by have := hF k hk; omega
    have o4 := o2.chg c24 hFg
    have qa : Qt w4 (w4.alloc (.cells #[.string (txt tt), .int .i64 yn] 97)) := Chg.alloc Qt.refl _
    obtain ⟨A6, p6, F6, w6, r6, o6, k6, f6⟩ := app_run (P := Tryd.prog) tyF (o4.chg qa (fun _ _ h => h)) (some ⟨w4.heap.size, 0, none⟩) 1 1 [.string (txt tt), .int .i64 yn] rfl (src_new2 w4 [.string (txt tt), .int .i64 yn] 97) (fun u hu => by simp at hu; rcases hu with rfl | rfl <;> rfl) (by omega) (by omega) 95
    refine appK r6 ?_
    have hsz := (c2.trans c24).size
    have c6 : Chg (fun k => k = gd) w w6 := ((c2.trans c24).trans (qa.mono (fun _ _ h => h.elim))).then k6 (fun k hk => .inr (hF k hk))
    have hF6 : ∀ k, F6 = some k → w.heap.size ≤ k := fun k hk => by
      rcases f6 k hk with h | h
      · exact hF k h
      · rw [size_alloc] at h; omega
    have d6 : DecAt w6 gd ye yr D := (d4.chg qa (fun h => h) (fun _ _ h => h)).chg k6 (fun e => hFg _ e rfl) (fun k hk e => by have := (hD k hk).2; have := hF k e; omega)
    simp (maxSteps := 1000000) (disch := omega) only [hid1', hid2', guardK_u, takeG_u, wrap_in64, optK_some', fzK_false', nilK_ptr, brK_true', brK_false', guardK_tt', guardK_ff', guardK_tf', guardK_ft', takeG_tt', takeG_ff', takeG_tf', takeG_ft', pickK_t', pickK_f', pickT_t', pickT_f', notK, extract2_0', extract2_1', extract3_0', extract3_1', extract3_2', here_load, here_fieldAt, here_indexAt, here_extract, here_un, here_conv, here_slice, here_bin, here_nil, and_here, true_and, Nat.zero_add, Nat.add_assoc, Nat.add_zero, Int.toNat_natCast, size_alloc, World.cell?_drew, World.frozen?_drew, Bool.not_true, Bool.not_false, Int.toNat_zero, dec_t, dec_f, int_eq_t, int_eq_f, int_ne_t, int_ne_f, wrap_in, kbgtr3, kblss3, kld9, kbadd3, kld2, kbadd2, kfa52_0, kld49, kbneq29, kblss2, kbgtr2, kbd97_0_1, kbs95_1_0, klen95, hlen95, kia95, kld97, kal97, kst97f, kfa97_0, kbleq9, kfa97_1]
    refine ⟨⟨j + 1, F6, by go_num, by omega, ?_, hF6, ?_, c6⟩, by simp [rel, intOf]; omega⟩
    · rw [hsucc]
      simp only [List.flatMap_append, List.flatMap_cons, List.flatMap_nil, List.append_nil]
      exact o6
    · rw [hsucc]; exact d6
  obtain rfl : j = N := by omega
  have htx := rowsD_txt j 0 r1
  have hnm := rowsD_num j 0 r1
  generalize rowsD j 0 r1 = z at *
  obtain ⟨zl, ze, zr⟩ := z
  simp only at o2 d2 hrl hzl hK htx hnm
  simp (maxSteps := 1000000) (disch := omega) only [hid1', hid2', guardK_u, takeG_u, wrap_in64, optK_some', fzK_false', nilK_ptr, brK_true', brK_false', guardK_tt', guardK_ff', guardK_tf', guardK_ft', takeG_tt', takeG_ff', takeG_tf', takeG_ft', pickK_t', pickK_f', pickT_t', pickT_f', notK, extract2_0', extract2_1', extract3_0', extract3_1', extract3_2', here_load, here_fieldAt, here_indexAt, here_extract, here_un, here_conv, here_slice, here_bin, here_nil, and_here, true_and, Nat.zero_add, Nat.add_assoc, Nat.add_zero, Int.toNat_natCast, size_alloc, World.cell?_drew, World.frozen?_drew, Bool.not_true, Bool.not_false, Int.toNat_zero, dec_t, dec_f, int_eq_t, int_eq_f, int_ne_t, int_ne_f, wrap_in, kbgtr3, kblss3, kld9, kbadd3, kld2, kbadd2, kfa52_0, kld49, kbneq29, kblss2, kbgtr2, kbd97_0_1, kbs95_1_0, klen95, hlen95, kia95, kld97, kal97, kst97f, kfa97_0, kbleq9, kfa97_1]
  refine ck47 (err_any d2 ?_)
  by_cases he : ze ≠ 0
  · rw [if_pos he] at hK
    simp (maxSteps := 1000000) (disch := omega) only [hid1', hid2', guardK_u, takeG_u, wrap_in64, optK_some', fzK_false', nilK_ptr, brK_true', brK_false', guardK_tt', guardK_ff', guardK_tf', guardK_ft', takeG_tt', takeG_ff', takeG_tf', takeG_ft', pickK_t', pickK_f', pickT_t', pickT_f', notK, extract2_0', extract2_1', extract3_0', extract3_1', extract3_2', here_load, here_fieldAt, here_indexAt, here_extract, here_un, here_conv, here_slice, here_bin, here_nil, and_here, true_and, Nat.zero_add, Nat.add_assoc, Nat.add_zero, Int.toNat_natCast, size_alloc, World.cell?_drew, World.frozen?_drew, Bool.not_true, Bool.not_false, Int.toNat_zero, dec_t, dec_f, int_eq_t, int_eq_f, int_ne_t, int_ne_f, wrap_in, kbgtr3, kblss3, kld9, kbadd3, kld2, kbadd2, kfa52_0, kld49, kbneq29, kblss2, kbgtr2, kbd97_0_1, kbs95_1_0, klen95, hlen95, kia95, kld97, kal97, kst97f, kfa97_0, kbleq9, kfa97_1]
    refine ck47 (err_any d2 ?_)
    simp (maxSteps := 1000000) (disch := omega) only [hid1', hid2', guardK_u, takeG_u, wrap_in64, optK_some', fzK_false', nilK_ptr, brK_true', brK_false', guardK_tt', guardK_ff', guardK_tf', guardK_ft', takeG_tt', takeG_ff', takeG_tf', takeG_ft', pickK_t', pickK_f', pickT_t', pickT_f', notK, extract2_0', extract2_1', extract3_0', extract3_1', extract3_2', here_load, here_fieldAt, here_indexAt, here_extract, here_un, here_conv, here_slice, here_bin, here_nil, and_here, true_and, Nat.zero_add, Nat.add_assoc, Nat.add_zero, Int.toNat_natCast, size_alloc, World.cell?_drew, World.frozen?_drew, Bool.not_true, Bool.not_false, Int.toNat_zero, dec_t, dec_f, int_eq_t, int_eq_f, int_ne_t, int_ne_f, wrap_in, kbgtr3, kblss3, kld9, kbadd3, kld2, kbadd2, kfa52_0, kld49, kbneq29, kblss2, kbgtr2, kbd97_0_1, kbs95_1_0, klen95, hlen95, kia95, kld97, kal97, kst97f, kfa97_0, kbleq9, kfa97_1]
    exact hK none w2 (fun h => absurd h he) (wk c2) (fun _ h => by cases h)
  obtain rfl : ze = 0 := by omega
  rw [if_neg (by simp)] at hK
  simp (maxSteps := 1000000) (disch := omega) only [hid1', hid2', guardK_u, takeG_u, wrap_in64, optK_some', fzK_false', nilK_ptr, brK_true', brK_false', guardK_tt', guardK_ff', guardK_tf', guardK_ft', takeG_tt', takeG_ff', takeG_tf', takeG_ft', pickK_t', pickK_f', pickT_t', pickT_f', notK, extract2_0', extract2_1', extract3_0', extract3_1', extract3_2', here_load, here_fieldAt, here_indexAt, here_extract, here_un, here_conv, here_slice, here_bin, here_nil, and_here, true_and, Nat.zero_add, Nat.add_assoc, Nat.add_zero, Int.toNat_natCast, size_alloc, World.cell?_drew, World.frozen?_drew, Bool.not_true, Bool.not_false, Int.toNat_zero, dec_t, dec_f, int_eq_t, int_eq_f, int_ne_t, int_ne_f, wrap_in, kbgtr3, kblss3, kld9, kbadd3, kld2, kbadd2, kfa52_0, kld49, kbneq29, kblss2, kbgtr2, kbd97_0_1, kbs95_1_0, klen95, hlen95, kia95, kld97, kal97, kst97f, kfa97_0, kbleq9, kfa97_1]
  refine ck49 (left_any d2 ?_)
  by_cases hlf : 0 < leftD 0 zr
  · rw [if_pos hlf] at hK
    generalize leftD 0 zr = lf at *
    simp (maxSteps := 1000000) (disch := omega) only [hid1', hid2', guardK_u, takeG_u, wrap_in64, optK_some', fzK_false', nilK_ptr, brK_true', brK_false', guardK_tt', guardK_ff', guardK_tf', guardK_ft', takeG_tt', takeG_ff', takeG_tf', takeG_ft', pickK_t', pickK_f', pickT_t', pickT_f', notK, extract2_0', extract2_1', extract3_0', extract3_1', extract3_2', here_load, here_fieldAt, here_indexAt, here_extract, here_un, here_conv, here_slice, here_bin, here_nil, and_here, true_and, Nat.zero_add, Nat.add_assoc, Nat.add_zero, Int.toNat_natCast, size_alloc, World.cell?_drew, World.frozen?_drew, Bool.not_true, Bool.not_false, Int.toNat_zero, dec_t, dec_f, int_eq_t, int_eq_f, int_ne_t, int_ne_f, wrap_in, kbgtr3, kblss3, kld9, kbadd3, kld2, kbadd2, kfa52_0, kld49, kbneq29, kblss2, kbgtr2, kbd97_0_1, kbs95_1_0, klen95, hlen95, kia95, kld97, kal97, kst97f, kfa97_0, kbleq9, kfa97_1]
    exact hK none w2 (fun h => by cases h) (wk c2) (fun _ h => by cases h)
  rw [if_neg hlf] at hK
  generalize leftD 0 zr = lf at *
  obtain ⟨mx, hmx⟩ := hm
  have hm2 : w2.cell? ⟨0, 0, none⟩ = some (.int .i64 mx) := c2.cell hmx (fun e => by have := hz.1; simp at e; omega)
  have h2 := h.chg c2 (fun e => hgx e.symm) (fun e => hgg e.symm) (fun _ h => by cases h)
  have hs2 := c2.size
  simp (maxSteps := 1000000) (disch := omega) only [hid1', hid2', guardK_u, takeG_u, wrap_in64, optK_some', fzK_false', nilK_ptr, brK_true', brK_false', guardK_tt', guardK_ff', guardK_tf', guardK_ft', takeG_tt', takeG_ff', takeG_tf', takeG_ft', pickK_t', pickK_f', pickT_t', pickT_f', notK, extract2_0', extract2_1', extract3_0', extract3_1', extract3_2', here_load, here_fieldAt, here_indexAt, here_extract, here_un, here_conv, here_slice, here_bin, here_nil, and_here, true_and, Nat.zero_add, Nat.add_assoc, Nat.add_zero, Int.toNat_natCast, size_alloc, World.cell?_drew, World.frozen?_drew, Bool.not_true, Bool.not_false, Int.toNat_zero, dec_t, dec_f, int_eq_t, int_eq_f, int_ne_t, int_ne_f, wrap_in, kbgtr3, kblss3, kld9, kbadd3, kld2, kbadd2, kfa52_0, kld49, kbneq29, kblss2, kbgtr2, kbd97_0_1, kbs95_1_0, klen95, hlen95, kia95, kld97, kal97, kst97f, kfa97_0, kbleq9, kfa97_1]
  refine loopK2 (fun v i w' => ∃ (k : Nat) (last : ByteArray) (F' : Option Nat), i = .int .i64 (k : Int) ∧ v = .string last ∧ k ≤ zl.length ∧ chkM last (zl.drop k) = chkM ByteArray.empty zl ∧ (∀ h : 0 < k, ∃ h2 : k - 1 < zl.length, last = zl[k - 1].1) ∧ LivesAt w' x g (zl.take k) F' ∧ (∀ k, F' = some k → w2.heap.size ≤ k) ∧ Chg (fun k => k = g) w2 w') (fun _ i _ => zl.length - (intOf i).toNat) ⟨0, ByteArray.empty, none, rfl, rfl, by omega, rfl, fun h => absurd h (by omega), h2, fun _ h => (by cases h), Chg.refl _ _⟩ ?_
  rintro _ _ _ w3 ⟨k, last, F', rfl, rfl, hk, hchk, hlast, h3, hF3, c3⟩
  have o3 := o2.chg c3 (fun q hq e => by have := hF q hq; omega)
  have ra := reads_own2 o3
  have hm3 : MaxAt w3 := ⟨mx, c3.cell hm2 (fun e => by have := hz.2; simp at e; omega)⟩
  by_cases hlt : k < zl.length
  · obtain ⟨b, o, rfl, hc0, hc1⟩ := SI.cells_at ra hlt
    have hp := htx zl[k] (List.getElem_mem hlt)
    have hn' := hnm zl[k] (List.getElem_mem hlt)
    have hdr : zl.drop k = zl[k] :: zl.drop (k + 1) := List.drop_eq_getElem_cons hlt
    rw [hdr, chkM] at hchk
    have htk : zl.take (k + 1) = zl.take k ++ [zl[k]] := List.take_succ_eq_append_getElem hlt
    generalize hy : zl[k] = y at *
    obtain ⟨p, n'⟩ := y
    obtain ⟨n, rfl⟩ : ∃ n : Int, n = n' := ⟨n', rfl⟩
    simp only at hp hn' hchk hc0 hc1
    simp (maxSteps := 1000000) (disch := omega) only [hid1', hid2', guardK_u, takeG_u, wrap_in64, optK_some', fzK_false', nilK_ptr, brK_true', brK_false', guardK_tt', guardK_ff', guardK_tf', guardK_ft', takeG_tt', takeG_ff', takeG_tf', takeG_ft', pickK_t', pickK_f', pickT_t', pickT_f', notK, extract2_0', extract2_1', extract3_0', extract3_1', extract3_2', here_load, here_fieldAt, here_indexAt, here_extract, here_un, here_conv, here_slice, here_bin, here_nil, and_here, true_and, Nat.zero_add, Nat.add_assoc, Nat.add_zero, Int.toNat_natCast, size_alloc, World.cell?_drew, World.frozen?_drew, Bool.not_true, Bool.not_false, Int.toNat_zero, dec_t, dec_f, int_eq_t, int_eq_f, int_ne_t, int_ne_f, wrap_in, kbgtr3, kblss3, kld9, kbadd3, kld2, kbadd2, kfa52_0, kld49, kbneq29, kblss2, kbgtr2, kbd97_0_1, kbs95_1_0, klen95, hlen95, kia95, kld97, kal97, kst97f, kfa97_0, kbleq9, kfa97_1, hc0, hc1]
    have q4 : Qt w3 (w3.alloc (.cells #[.string p, .int .i64 n] 97)) := Chg.alloc Qt.refl _
    have hb4 : (w3.alloc (.cells #[.string p, .int .i64 n] 97)).heap[w3.heap.size]? = some (.cells #[.string p, .int .i64 n] 97 (0, 0)) := blk_new _ _
    generalize w3.alloc (.cells #[.string p, .int .i64 n] 97) = w4 at *
    generalize hb0 : w3.heap.size = bk at *
    have ca : w4.cell? ⟨bk, 0, none⟩ = some (.string p) := by rw [blk_cell hb4]; rfl
    simp (maxSteps := 1000000) (disch := omega) only [hid1', hid2', guardK_u, takeG_u, wrap_in64, optK_some', fzK_false', nilK_ptr, brK_true', brK_false', guardK_tt', guardK_ff', guardK_tf', guardK_ft', takeG_tt', takeG_ff', takeG_tf', takeG_ft', pickK_t', pickK_f', pickT_t', pickT_f', notK, extract2_0', extract2_1', extract3_0', extract3_1', extract3_2', here_load, here_fieldAt, here_indexAt, here_extract, here_un, here_conv, here_slice, here_bin, here_nil, and_here, true_and, Nat.zero_add, Nat.add_assoc, Nat.add_zero, Int.toNat_natCast, size_alloc, World.cell?_drew, World.frozen?_drew, Bool.not_true, Bool.not_false, Int.toNat_zero, dec_t, dec_f, int_eq_t, int_eq_f, int_ne_t, int_ne_f, wrap_in, kbgtr3, kblss3, kld9, kbadd3, kld2, kbadd2, kfa52_0, kld49, kbneq29, kblss2, kbgtr2, kbd97_0_1, kbs95_1_0, klen95, hlen95, kia95, kld97, kal97, kst97f, kfa97_0, kbleq9, kfa97_1, ca]
    have hpl : p.data.toList.length ≤ 50000 := by have : p.data.toList.length = p.size := rfl; omega
    refine ck20 (depth_str hpl (hm3.quiet q4) ?_)
    intro w5 q5
    have hb5 := q5.heap hb4 (fun h => h)
    have q35 := q4.trans q5
    have ca5 : w5.cell? ⟨bk, 0, none⟩ = some (.string p) := by rw [blk_cell hb5]; rfl
    have cb5 : w5.cell? ⟨bk, 1, none⟩ = some (.int .i64 n) := by rw [blk_cell hb5]; rfl
    have hdep := node_depth p.data.toList
    have hs3 := c3.size
    have cfin : ∀ {w' : World}, Qt w3 w' → Chg (fun k => k = gd ∨ k = g) w w' := fun q => ((wk c2).then c3 (fun i hi => .inl (.inr hi))).then q (fun i hi => hi.elim)
    by_cases hnd : nodeB p = false
    · rw [if_pos (.inl hnd)] at hchk
      have hlt1 : depthL p.data.toList < 1 := by
        have : ¬ (1 ≤ depthL p.data.toList) := fun e => by
          have := hdep.2 e
          unfold nodeB at hnd
          rw [hnd] at this; cases this
        omega
      rw [← hchk, if_pos (by decide)] at hK
      generalize depthL p.data.toList = dd at *
      simp (maxSteps := 1000000) (disch := omega) only [hid1', hid2', guardK_u, takeG_u, wrap_in64, optK_some', fzK_false', nilK_ptr, brK_true', brK_false', guardK_tt', guardK_ff', guardK_tf', guardK_ft', takeG_tt', takeG_ff', takeG_tf', takeG_ft', pickK_t', pickK_f', pickT_t', pickT_f', notK, extract2_0', extract2_1', extract3_0', extract3_1', extract3_2', here_load, here_fieldAt, here_indexAt, here_extract, here_un, here_conv, here_slice, here_bin, here_nil, and_here, true_and, Nat.zero_add, Nat.add_assoc, Nat.add_zero, Int.toNat_natCast, size_alloc, World.cell?_drew, World.frozen?_drew, Bool.not_true, Bool.not_false, Int.toNat_zero, dec_t, dec_f, int_eq_t, int_eq_f, int_ne_t, int_ne_f, wrap_in, kbgtr3, kblss3, kld9, kbadd3, kld2, kbadd2, kfa52_0, kld49, kbneq29, kblss2, kbgtr2, kbd97_0_1, kbs95_1_0, klen95, hlen95, kia95, kld97, kal97, kst97f, kfa97_0, kbleq9, kfa97_1, ca5]
      exact hK none w5 (fun h => by cases h) (cfin q35) (fun _ h => by cases h)
    have hge : 1 ≤ depthL p.data.toList := hdep.1 (by unfold nodeB at hnd; simpa using hnd)
    generalize depthL p.data.toList = dd at *
    by_cases hle2 : SI.lt last p = false
    · rw [if_pos (.inr hle2)] at hchk
      rw [← hchk, if_pos (by decide)] at hK
      have hbl : (Op.bytesLess p.toList last.toList || p.toList == last.toList) = true := by rw [le_eq, hle2]; rfl
      simp (maxSteps := 1000000) (disch := omega) only [hid1', hid2', guardK_u, takeG_u, wrap_in64, optK_some', fzK_false', nilK_ptr, brK_true', brK_false', guardK_tt', guardK_ff', guardK_tf', guardK_ft', takeG_tt', takeG_ff', takeG_tf', takeG_ft', pickK_t', pickK_f', pickT_t', pickT_f', notK, extract2_0', extract2_1', extract3_0', extract3_1', extract3_2', here_load, here_fieldAt, here_indexAt, here_extract, here_un, here_conv, here_slice, here_bin, here_nil, and_here, true_and, Nat.zero_add, Nat.add_assoc, Nat.add_zero, Int.toNat_natCast, size_alloc, World.cell?_drew, World.frozen?_drew, Bool.not_true, Bool.not_false, Int.toNat_zero, dec_t, dec_f, int_eq_t, int_eq_f, int_ne_t, int_ne_f, wrap_in, kbgtr3, kblss3, kld9, kbadd3, kld2, kbadd2, kfa52_0, kld49, kbneq29, kblss2, kbgtr2, kbd97_0_1, kbs95_1_0, klen95, hlen95, kia95, kld97, kal97, kst97f, kfa97_0, kbleq9, kfa97_1, ca5, hbl]
      exact hK none w5 (fun h => by cases h) (cfin q35) (fun _ h => by cases h)
    have hlp : SI.lt last p = true := by simpa using hle2
    have hbl : (Op.bytesLess p.toList last.toList || p.toList == last.toList) = false := by rw [le_eq, hlp]; rfl
    rw [if_neg (by rintro (e | e); exact hnd e; exact hle2 e)] at hchk
    by_cases hnn : n < 1 ∨ 1000000000 < n
    · rw [if_pos hnn] at hchk
      rw [← hchk, if_pos (by decide)] at hK
      by_cases hn1 : n < 1
      · simp (maxSteps := 1000000) (disch := omega) only [hid1', hid2', guardK_u, takeG_u, wrap_in64, optK_some', fzK_false', nilK_ptr, brK_true', brK_false', guardK_tt', guardK_ff', guardK_tf', guardK_ft', takeG_tt', takeG_ff', takeG_tf', takeG_ft', pickK_t', pickK_f', pickT_t', pickT_f', notK, extract2_0', extract2_1', extract3_0', extract3_1', extract3_2', here_load, here_fieldAt, here_indexAt, here_extract, here_un, here_conv, here_slice, here_bin, here_nil, and_here, true_and, Nat.zero_add, Nat.add_assoc, Nat.add_zero, Int.toNat_natCast, size_alloc, World.cell?_drew, World.frozen?_drew, Bool.not_true, Bool.not_false, Int.toNat_zero, dec_t, dec_f, int_eq_t, int_eq_f, int_ne_t, int_ne_f, wrap_in, kbgtr3, kblss3, kld9, kbadd3, kld2, kbadd2, kfa52_0, kld49, kbneq29, kblss2, kbgtr2, kbd97_0_1, kbs95_1_0, klen95, hlen95, kia95, kld97, kal97, kst97f, kfa97_0, kbleq9, kfa97_1, ca5, cb5, hbl]
        exact hK none w5 (fun h => by cases h) (cfin q35) (fun _ h => by cases h)
      · simp (maxSteps := 1000000) (disch := omega) only [hid1', hid2', guardK_u, takeG_u, wrap_in64, optK_some', fzK_false', nilK_ptr, brK_true', brK_false', guardK_tt', guardK_ff', guardK_tf', guardK_ft', takeG_tt', takeG_ff', takeG_tf', takeG_ft', pickK_t', pickK_f', pickT_t', pickT_f', notK, extract2_0', extract2_1', extract3_0', extract3_1', extract3_2', here_load, here_fieldAt, here_indexAt, here_extract, here_un, here_conv, here_slice, here_bin, here_nil, and_here, true_and, Nat.zero_add, Nat.add_assoc, Nat.add_zero, Int.toNat_natCast, size_alloc, World.cell?_drew, World.frozen?_drew, Bool.not_true, Bool.not_false, Int.toNat_zero, dec_t, dec_f, int_eq_t, int_eq_f, int_ne_t, int_ne_f, wrap_in, kbgtr3, kblss3, kld9, kbadd3, kld2, kbadd2, kfa52_0, kld49, kbneq29, kblss2, kbgtr2, kbd97_0_1, kbs95_1_0, klen95, hlen95, kia95, kld97, kal97, kst97f, kfa97_0, kbleq9, kfa97_1, ca5, cb5, hbl]
        exact hK none w5 (fun h => by cases h) (cfin q35) (fun _ h => by cases h)
    rw [if_neg hnn] at hchk
    have h5 := h3.quiet q35
    have hx5 := h5.cell
    simp (maxSteps := 1000000) (disch := omega) only [hid1', hid2', guardK_u, takeG_u, wrap_in64, optK_some', fzK_false', nilK_ptr, brK_true', brK_false', guardK_tt', guardK_ff', guardK_tf', guardK_ft', takeG_tt', takeG_ff', takeG_tf', takeG_ft', pickK_t', pickK_f', pickT_t', pickT_f', notK, extract2_0', extract2_1', extract3_0', extract3_1', extract3_2', here_load, here_fieldAt, here_indexAt, here_extract, here_un, here_conv, here_slice, here_bin, here_nil, and_here, true_and, Nat.zero_add, Nat.add_assoc, Nat.add_zero, Int.toNat_natCast, size_alloc, World.cell?_drew, World.frozen?_drew, Bool.not_true, Bool.not_false, Int.toNat_zero, dec_t, dec_f, int_eq_t, int_eq_f, int_ne_t, int_ne_f, wrap_in, kbgtr3, kblss3, kld9, kbadd3, kld2, kbadd2, kfa52_0, kld49, kbneq29, kblss2, kbgtr2, kbd97_0_1, kbs95_1_0, klen95, hlen95, kia95, kld97, kal97, kst97f, kfa97_0, kbleq9, kfa97_1, ca5, cb5, hbl]
    have c35 : Chg (fun k => k = g) w3 w5.drew := (q35.mono (fun _ _ h => h.elim)).drew
    have hb5' := (Qt.drew (Qt.refl (w := w5))).heap hb5 (fun h => h)
    refine drawK_by (fun w'' => w''.heap[bk]? = some (.cells #[.string p, .int .i64 n] 97 (0, 0)) ∧ w''.cell? ⟨x, 0, none⟩ = some (.pointer (some ⟨g, 0, none⟩))) ⟨hb5', hx5⟩ ?_
    refine take_nil ?_
    refine take_field (.pointer (some ⟨x, 0, none⟩)) (fun w'' _ => by (simp (maxSteps := 1000000) (disch := omega) only [hid1', hid2', guardK_u, takeG_u, wrap_in64, optK_some', fzK_false', nilK_ptr, brK_true', brK_false', guardK_tt', guardK_ff', guardK_tf', guardK_ft', takeG_tt', takeG_ff', takeG_tf', takeG_ft', pickK_t', pickK_f', pickT_t', pickT_f', notK, extract2_0', extract2_1', extract3_0', extract3_1', extract3_2', here_load, here_fieldAt, here_indexAt, here_extract, here_un, here_conv, here_slice, here_bin, here_nil, and_here, true_and, Nat.zero_add, Nat.add_assoc, Nat.add_zero, Int.toNat_natCast, size_alloc, World.cell?_drew, World.frozen?_drew, Bool.not_true, Bool.not_false, Int.toNat_zero, dec_t, dec_f, int_eq_t, int_eq_f, int_ne_t, int_ne_f, wrap_in, kbgtr3, kblss3, kld9, kbadd3, kld2, kbadd2, kfa52_0, kld49, kbneq29, kblss2, kbgtr2, kbd97_0_1, kbs95_1_0, klen95, hlen95, kia95, kld97, kal97, kst97f, kfa97_0, kbleq9, kfa97_1]; try (exact ⟨trivial, trivial⟩))) ?_
    refine take_load (.pointer (some ⟨g, 0, none⟩)) (fun w'' hw => by have := hw.2; (simp (maxSteps := 1000000) (disch := omega) only [hid1', hid2', guardK_u, takeG_u, wrap_in64, optK_some', fzK_false', nilK_ptr, brK_true', brK_false', guardK_tt', guardK_ff', guardK_tf', guardK_ft', takeG_tt', takeG_ff', takeG_tf', takeG_ft', pickK_t', pickK_f', pickT_t', pickT_f', notK, extract2_0', extract2_1', extract3_0', extract3_1', extract3_2', here_load, here_fieldAt, here_indexAt, here_extract, here_un, here_conv, here_slice, here_bin, here_nil, and_here, true_and, Nat.zero_add, Nat.add_assoc, Nat.add_zero, Int.toNat_natCast, size_alloc, World.cell?_drew, World.frozen?_drew, Bool.not_true, Bool.not_false, Int.toNat_zero, dec_t, dec_f, int_eq_t, int_eq_f, int_ne_t, int_ne_f, wrap_in, kbgtr3, kblss3, kld9, kbadd3, kld2, kbadd2, kfa52_0, kld49, kbneq29, kblss2, kbgtr2, kbd97_0_1, kbs95_1_0, klen95, hlen95, kia95, kld97, kal97, kst97f, kfa97_0, kbleq9, kfa97_1, this]; try (exact ⟨trivial, trivial⟩))) ?_
    refine take_field (.pointer (some ⟨bk, 0, none⟩)) (fun w'' _ => by (simp (maxSteps := 1000000) (disch := omega) only [hid1', hid2', guardK_u, takeG_u, wrap_in64, optK_some', fzK_false', nilK_ptr, brK_true', brK_false', guardK_tt', guardK_ff', guardK_tf', guardK_ft', takeG_tt', takeG_ff', takeG_tf', takeG_ft', pickK_t', pickK_f', pickT_t', pickT_f', notK, extract2_0', extract2_1', extract3_0', extract3_1', extract3_2', here_load, here_fieldAt, here_indexAt, here_extract, here_un, here_conv, here_slice, here_bin, here_nil, and_here, true_and, Nat.zero_add, Nat.add_assoc, Nat.add_zero, Int.toNat_natCast, size_alloc, World.cell?_drew, World.frozen?_drew, Bool.not_true, Bool.not_false, Int.toNat_zero, dec_t, dec_f, int_eq_t, int_eq_f, int_ne_t, int_ne_f, wrap_in, kbgtr3, kblss3, kld9, kbadd3, kld2, kbadd2, kfa52_0, kld49, kbneq29, kblss2, kbgtr2, kbd97_0_1, kbs95_1_0, klen95, hlen95, kia95, kld97, kal97, kst97f, kfa97_0, kbleq9, kfa97_1]; try (exact ⟨trivial, trivial⟩))) ?_
    refine take_load (.string p) (fun w'' hw => by have h := hw.1; have : w''.cell? ⟨bk, 0, none⟩ = some (.string p) := by rw [blk_cell h]; rfl
                                                   (simp (maxSteps := 1000000) (disch := omega) only [hid1', hid2', guardK_u, takeG_u, wrap_in64, optK_some', fzK_false', nilK_ptr, brK_true', brK_false', guardK_tt', guardK_ff', guardK_tf', guardK_ft', takeG_tt', takeG_ff', takeG_tf', takeG_ft', pickK_t', pickK_f', pickT_t', pickT_f', notK, extract2_0', extract2_1', extract3_0', extract3_1', extract3_2', here_load, here_fieldAt, here_indexAt, here_extract, here_un, here_conv, here_slice, here_bin, here_nil, and_here, true_and, Nat.zero_add, Nat.add_assoc, Nat.add_zero, Int.toNat_natCast, size_alloc, World.cell?_drew, World.frozen?_drew, Bool.not_true, Bool.not_false, Int.toNat_zero, dec_t, dec_f, int_eq_t, int_eq_f, int_ne_t, int_ne_f, wrap_in, kbgtr3, kblss3, kld9, kbadd3, kld2, kbadd2, kfa52_0, kld49, kbneq29, kblss2, kbgtr2, kbd97_0_1, kbs95_1_0, klen95, hlen95, kia95, kld97, kal97, kst97f, kfa97_0, kbleq9, kfa97_1, this]; try (exact ⟨trivial, trivial⟩))) ?_
    refine take_field (.pointer (some ⟨bk, 1, none⟩)) (fun w'' _ => by (simp (maxSteps := 1000000) (disch := omega) only [hid1', hid2', guardK_u, takeG_u, wrap_in64, optK_some', fzK_false', nilK_ptr, brK_true', brK_false', guardK_tt', guardK_ff', guardK_tf', guardK_ft', takeG_tt', takeG_ff', takeG_tf', takeG_ft', pickK_t', pickK_f', pickT_t', pickT_f', notK, extract2_0', extract2_1', extract3_0', extract3_1', extract3_2', here_load, here_fieldAt, here_indexAt, here_extract, here_un, here_conv, here_slice, here_bin, here_nil, and_here, true_and, Nat.zero_add, Nat.add_assoc, Nat.add_zero, Int.toNat_natCast, size_alloc, World.cell?_drew, World.frozen?_drew, Bool.not_true, Bool.not_false, Int.toNat_zero, dec_t, dec_f, int_eq_t, int_eq_f, int_ne_t, int_ne_f, wrap_in, kbgtr3, kblss3, kld9, kbadd3, kld2, kbadd2, kfa52_0, kld49, kbneq29, kblss2, kbgtr2, kbd97_0_1, kbs95_1_0, klen95, hlen95, kia95, kld97, kal97, kst97f, kfa97_0, kbleq9, kfa97_1]; try (exact ⟨trivial, trivial⟩))) ?_
    refine take_load (.int .i64 n) (fun w'' hw => by have h := hw.1; have : w''.cell? ⟨bk, 1, none⟩ = some (.int .i64 n) := by rw [blk_cell h]; rfl
                                                     (simp (maxSteps := 1000000) (disch := omega) only [hid1', hid2', guardK_u, takeG_u, wrap_in64, optK_some', fzK_false', nilK_ptr, brK_true', brK_false', guardK_tt', guardK_ff', guardK_tf', guardK_ft', takeG_tt', takeG_ff', takeG_tf', takeG_ft', pickK_t', pickK_f', pickT_t', pickT_f', notK, extract2_0', extract2_1', extract3_0', extract3_1', extract3_2', here_load, here_fieldAt, here_indexAt, here_extract, here_un, here_conv, here_slice, here_bin, here_nil, and_here, true_and, Nat.zero_add, Nat.add_assoc, Nat.add_zero, Int.toNat_natCast, size_alloc, World.cell?_drew, World.frozen?_drew, Bool.not_true, Bool.not_false, Int.toNat_zero, dec_t, dec_f, int_eq_t, int_eq_f, int_ne_t, int_ne_f, wrap_in, kbgtr3, kblss3, kld9, kbadd3, kld2, kbadd2, kfa52_0, kld49, kbneq29, kblss2, kbgtr2, kbd97_0_1, kbs95_1_0, klen95, hlen95, kia95, kld97, kal97, kst97f, kfa97_0, kbleq9, kfa97_1, this]; try (exact ⟨trivial, trivial⟩))) ?_
    have hbk := blk_lt hb5
    have hlw : (zl.take k).length < 100000 := by rw [List.length_take]; omega
    obtain ⟨_, _, _, _, hup, _⟩ := id h3.2.1
    have hbel := below_of hk hup (fun h0 => by obtain ⟨_, e⟩ := hlast h0; exact e) hlp
    have hput := put_end hbel n
    refine ⟨ck23 (SI.put_any (h5.quiet (Qt.drew Qt.refl)).2.1 hlw ?_), trivial⟩
    intro F6 w6 h6 k6 f6
    rw [hput] at h6
    have hgl3 := h3.2.1.low
    have kx : ¬ (x = g ∨ F' = some x) := by
      rintro (e | e)
      · exact h3.2.2.1 e
      · exact h3.2.2.2 e
    have kb : ¬ (bk = g ∨ F' = some bk) := by
      rintro (e | e)
      · omega
      · have := hgl3.2 _ e; omega
    have hb6 := k6.heap hb5' kb
    have hx6 := k6.heap (h5.quiet (Qt.drew Qt.refl)).1 kx
    have ca6 : w6.cell? ⟨bk, 0, none⟩ = some (.string p) := by rw [blk_cell hb6]; rfl
    have hs5 : w2.heap.size ≤ w5.drew.heap.size := (c3.trans c35).size
    simp (maxSteps := 1000000) (disch := omega) only [hid1', hid2', guardK_u, takeG_u, wrap_in64, optK_some', fzK_false', nilK_ptr, brK_true', brK_false', guardK_tt', guardK_ff', guardK_tf', guardK_ft', takeG_tt', takeG_ff', takeG_tf', takeG_ft', pickK_t', pickK_f', pickT_t', pickT_f', notK, extract2_0', extract2_1', extract3_0', extract3_1', extract3_2', here_load, here_fieldAt, here_indexAt, here_extract, here_un, here_conv, here_slice, here_bin, here_nil, and_here, true_and, Nat.zero_add, Nat.add_assoc, Nat.add_zero, Int.toNat_natCast, size_alloc, World.cell?_drew, World.frozen?_drew, Bool.not_true, Bool.not_false, Int.toNat_zero, dec_t, dec_f, int_eq_t, int_eq_f, int_ne_t, int_ne_f, wrap_in, kbgtr3, kblss3, kld9, kbadd3, kld2, kbadd2, kfa52_0, kld49, kbneq29, kblss2, kbgtr2, kbd97_0_1, kbs95_1_0, klen95, hlen95, kia95, kld97, kal97, kst97f, kfa97_0, kbleq9, kfa97_1, ca6]
    refine ⟨⟨hb6, by rw [blk_cell hx6]; rfl⟩, ?_⟩
    refine ⟨⟨k + 1, p, F6, by go_num, rfl, by omega, hchk, fun _ => ⟨by omega, ?_⟩, ⟨hx6, by rw [htk]; exact h6, h3.2.2.1, ?_⟩, fun q hq => ?_, (c3.trans c35).then k6 (fun i hi => ?_)⟩, by simp [rel, intOf]; omega⟩
    · show p = (zl[k]).1
      rw [hy]
    · intro e
      rcases f6 x e with e | e
      · exact h3.2.2.2 e
      · omega
    · rcases f6 q hq with e | e
      · exact hF3 q e
      · omega
    · rcases hi with e | e
      · exact .inl e
      · exact .inr (hF3 i e)
  · obtain rfl : k = zl.length := by omega
    rw [List.take_length] at h3
    have h0 : chkM ByteArray.empty zl = 0 := by rw [← hchk, List.drop_length]; rfl
    rw [h0, if_neg (by decide)] at hK
    simp (maxSteps := 1000000) (disch := omega) only [hid1', hid2', guardK_u, takeG_u, wrap_in64, optK_some', fzK_false', nilK_ptr, brK_true', brK_false', guardK_tt', guardK_ff', guardK_tf', guardK_ft', takeG_tt', takeG_ff', takeG_tf', takeG_ft', pickK_t', pickK_f', pickT_t', pickT_f', notK, extract2_0', extract2_1', extract3_0', extract3_1', extract3_2', here_load, here_fieldAt, here_indexAt, here_extract, here_un, here_conv, here_slice, here_bin, here_nil, and_here, true_and, Nat.zero_add, Nat.add_assoc, Nat.add_zero, Int.toNat_natCast, size_alloc, World.cell?_drew, World.frozen?_drew, Bool.not_true, Bool.not_false, Int.toNat_zero, dec_t, dec_f, int_eq_t, int_eq_f, int_ne_t, int_ne_f, wrap_in, kbgtr3, kblss3, kld9, kbadd3, kld2, kbadd2, kfa52_0, kld49, kbneq29, kblss2, kbgtr2, kbd97_0_1, kbs95_1_0, klen95, hlen95, kia95, kld97, kal97, kst97f, kfa97_0, kbleq9, kfa97_1]
    exact hK F' w3 (fun _ => h3) ((wk c2).then c3 (fun i hi => .inl (.inr hi))) (fun q hq => by have := hF3 q hq; omega)
theorem cell_lt {w : World} {b i : Nat} {v : Value} (h : w.cell? ⟨b, i, none⟩ = some v) : b < w.heap.size := by
  unfold World.cell? at h
  cases e : w.heap[b]? with
  | none => simp [e] at h
  | some o => exact (Array.getElem?_eq_some_iff.1 e).1
theorem load_any {w : World} {A : Option Addr} {c : Nat} {b : List UInt8} {K : Value → World → Prop} (hr : Reads w A (b.map vb)) (hl : b.length ≤ 20000) (hc : b.length ≤ c) (hm : MaxAt w)
    (h0 : (loadM b).1 ≠ 0 → ∀ w', Qt w w' → K (.tuple #[.pointer none, .int .i64 (loadM b).1]) w')
    (hK : (loadM b).1 = 0 → ∀ x g F w', LivesAt w' x g (loadM b).2 F → Qt w w' → w.heap.size ≤ x → w.heap.size ≤ g → (∀ k, F = some k → w.heap.size ≤ k) → K (.tuple #[.pointer (some ⟨x, 0, none⟩), .int .i64 0]) w') :
    CallK Tryd.prog 13 #[.slice A b.length c] K w := by
  refine F13_calls _ _ _ ?_; unfold F13
  refine ck31 (open_any hr (by omega) hc ?_)
  intro A1 n1 c1 w1 hn1 r1 q1
  subst hn1
  unfold loadM at h0 hK
  have hol : (openL b).2.length ≤ b.length := by
    unfold openL
    split
    · simp
    · split
      · simp
      · simp
  generalize openL b = o at *
  obtain ⟨oe, ob⟩ := o
  simp only at r1 h0 hK hol ⊢
  by_cases he : oe ≠ 0
  · rw [if_pos he] at h0
    simp (maxSteps := 1000000) (disch := omega) only [hid1', hid2', guardK_u, takeG_u, wrap_in64, optK_some', fzK_false', nilK_ptr, brK_true', brK_false', guardK_tt', guardK_ff', guardK_tf', guardK_ft', takeG_tt', takeG_ff', takeG_tf', takeG_ft', pickK_t', pickK_f', pickT_t', pickT_f', notK, extract2_0', extract2_1', extract3_0', extract3_1', extract3_2', here_load, here_fieldAt, here_indexAt, here_extract, here_un, here_conv, here_slice, here_bin, here_nil, and_here, true_and, Nat.zero_add, Nat.add_assoc, Nat.add_zero, Int.toNat_natCast, size_alloc, World.cell?_drew, World.frozen?_drew, Bool.not_true, Bool.not_false, Int.toNat_zero, dec_t, dec_f, int_eq_t, int_eq_f, int_ne_t, int_ne_f, wrap_in, kbneq29]
    exact h0 he w1 q1
  obtain rfl : oe = 0 := by omega
  rw [if_neg (by simp)] at h0 hK
  simp (maxSteps := 1000000) (disch := omega) only [hid1', hid2', guardK_u, takeG_u, wrap_in64, optK_some', fzK_false', nilK_ptr, brK_true', brK_false', guardK_tt', guardK_ff', guardK_tf', guardK_ft', takeG_tt', takeG_ff', takeG_tf', takeG_ft', pickK_t', pickK_f', pickT_t', pickT_f', notK, extract2_0', extract2_1', extract3_0', extract3_1', extract3_2', here_load, here_fieldAt, here_indexAt, here_extract, here_un, here_conv, here_slice, here_bin, here_nil, and_here, true_and, Nat.zero_add, Nat.add_assoc, Nat.add_zero, Int.toNat_natCast, size_alloc, World.cell?_drew, World.frozen?_drew, Bool.not_true, Bool.not_false, Int.toNat_zero, dec_t, dec_f, int_eq_t, int_eq_f, int_ne_t, int_ne_f, wrap_in, kbneq29]
  refine ck8 (new_lives ?_)
  intro x g w2 h2 q2 hx hg
  have q12 := q1.trans q2
  have hs1 := q1.size
  obtain ⟨mx, hmx⟩ := hm
  have hpos := cell_lt hmx
  simp (maxSteps := 1000000) (disch := omega) only [hid1', hid2', guardK_u, takeG_u, wrap_in64, optK_some', fzK_false', nilK_ptr, brK_true', brK_false', guardK_tt', guardK_ff', guardK_tf', guardK_ft', takeG_tt', takeG_ff', takeG_tf', takeG_ft', pickK_t', pickK_f', pickT_t', pickT_f', notK, extract2_0', extract2_1', extract3_0', extract3_1', extract3_2', here_load, here_fieldAt, here_indexAt, here_extract, here_un, here_conv, here_slice, here_bin, here_nil, and_here, true_and, Nat.zero_add, Nat.add_assoc, Nat.add_zero, Int.toNat_natCast, size_alloc, World.cell?_drew, World.frozen?_drew, Bool.not_true, Bool.not_false, Int.toNat_zero, dec_t, dec_f, int_eq_t, int_eq_f, int_ne_t, int_ne_f, wrap_in, kbneq29]
  refine ck33 (of_any2 (r1.quiet q2) (by omega) ?_)
  intro gd D w3 d3 q3 hgd hD
  have q13 := q12.trans q3
  have h3 := h2.quiet q3
  have hxl := blk_lt h2.1
  have hgl := h2.2.1.low.1
  simp (maxSteps := 1000000) (disch := omega) only [hid1', hid2', guardK_u, takeG_u, wrap_in64, optK_some', fzK_false', nilK_ptr, brK_true', brK_false', guardK_tt', guardK_ff', guardK_tf', guardK_ft', takeG_tt', takeG_ff', takeG_tf', takeG_ft', pickK_t', pickK_f', pickT_t', pickT_f', notK, extract2_0', extract2_1', extract3_0', extract3_1', extract3_2', here_load, here_fieldAt, here_indexAt, here_extract, here_un, here_conv, here_slice, here_bin, here_nil, and_here, true_and, Nat.zero_add, Nat.add_assoc, Nat.add_zero, Int.toNat_natCast, size_alloc, World.cell?_drew, World.frozen?_drew, Bool.not_true, Bool.not_false, Int.toNat_zero, dec_t, dec_f, int_eq_t, int_eq_f, int_ne_t, int_ne_f, wrap_in, kbneq29]
  refine ck32 (read_any h3 d3 (by omega) ⟨mx, q13.cell hmx (fun h => h)⟩ (by omega) (by omega) ⟨by omega, by omega⟩ (fun k hk => ⟨by have := (hD k hk).1; omega, (hD k hk).2⟩) ?_)
  intro F4 w4 h4 c4 f4
  have q4 : Qt w w4 := q13.then c4 (fun k hk => by omega)
  have hs3 := q13.size
  generalize readM ob = z at *
  obtain ⟨ze, zm⟩ := z
  simp only at h0 hK h4 ⊢
  by_cases hz : ze ≠ 0
  · simp (maxSteps := 1000000) (disch := omega) only [hid1', hid2', guardK_u, takeG_u, wrap_in64, optK_some', fzK_false', nilK_ptr, brK_true', brK_false', guardK_tt', guardK_ff', guardK_tf', guardK_ft', takeG_tt', takeG_ff', takeG_tf', takeG_ft', pickK_t', pickK_f', pickT_t', pickT_f', notK, extract2_0', extract2_1', extract3_0', extract3_1', extract3_2', here_load, here_fieldAt, here_indexAt, here_extract, here_un, here_conv, here_slice, here_bin, here_nil, and_here, true_and, Nat.zero_add, Nat.add_assoc, Nat.add_zero, Int.toNat_natCast, size_alloc, World.cell?_drew, World.frozen?_drew, Bool.not_true, Bool.not_false, Int.toNat_zero, dec_t, dec_f, int_eq_t, int_eq_f, int_ne_t, int_ne_f, wrap_in, kbneq29]
    exact h0 hz w4 q4
  obtain rfl : ze = 0 := by omega
  simp (maxSteps := 1000000) (disch := omega) only [hid1', hid2', guardK_u, takeG_u, wrap_in64, optK_some', fzK_false', nilK_ptr, brK_true', brK_false', guardK_tt', guardK_ff', guardK_tf', guardK_ft', takeG_tt', takeG_ff', takeG_tf', takeG_ft', pickK_t', pickK_f', pickT_t', pickT_f', notK, extract2_0', extract2_1', extract3_0', extract3_1', extract3_2', here_load, here_fieldAt, here_indexAt, here_extract, here_un, here_conv, here_slice, here_bin, here_nil, and_here, true_and, Nat.zero_add, Nat.add_assoc, Nat.add_zero, Int.toNat_natCast, size_alloc, World.cell?_drew, World.frozen?_drew, Bool.not_true, Bool.not_false, Int.toNat_zero, dec_t, dec_f, int_eq_t, int_eq_f, int_ne_t, int_ne_f, wrap_in, kbneq29]
  exact hK rfl x g F4 w4 (h4 rfl) q4 (by omega) (by omega) (fun k hk => by have := f4 k hk; omega)
end Go.Proofs.YtpdhmbbmhomlnaaDoor
