/- The document's Begin and Of. -/
import Derived.Test.YtpdhmbbmhomlnaaDoorLive
set_option linter.unusedVariables false
set_option linter.unusedSimpArgs false
set_option maxRecDepth 100000
namespace Go.Proofs.YtpdhmbbmhomlnaaDoor
open Go.RowKit Go.Cn Go.Cn.Num
theorem infoL : (Tryd.prog.info? 39).map (fun i => (i.zero, i.size, i.bytes)) = some (some (.agg #[.string ByteArray.empty, .int .i64 0]), 2, 24) := by kernel_rfl
theorem tyL : ElemTy Tryd.prog 26 39 (.agg #[.string ByteArray.empty, .int .i64 0]) 2 24 := ElemTy.mk' Tryd.underlying26 infoL rfl (by decide)
theorem put_split (m : LM) (p : ByteArray) (v : Int) : putM SI.lt m p v = m.take (pos SI.lt m p) ++ [(p, v)] ++ m.drop (if fnd SI.lt m p = true then pos SI.lt m p + 1 else pos SI.lt m p) := by
  unfold putM
  by_cases h : fnd SI.lt m p = true
  · have hlt := fnd_lt h
    rw [if_pos h, if_pos h, List.set_eq_take_append_cons_drop, if_pos hlt]
    simp
  · rw [if_neg h, if_neg h]; simp
theorem lm_len (m : LM) : (m.flatMap SI.cell2).length = m.length * 2 := flat_len (sz := 2) (fun _ => rfl) m
theorem reads_drop2 {w : World} {g o c n : Nat} {m : LM} (hr : Reads w (some ⟨g, o, none⟩) (m.flatMap SI.cell2)) (hc : m.length ≤ c) (i : Nat) (hi : i ≤ m.length) : Cn.Src w (if c = i then some ⟨g, o, none⟩ else some ⟨g, o + i * 2, none⟩) ((m.drop i).flatMap SI.cell2) := by
  by_cases h : c = i
  · have : m.drop i = [] := List.drop_eq_nil_of_le (by omega)
    rw [this]; exact Src.nil _ _
  · rw [if_neg h, SI.flat_drop]
    intro j u hj
    refine ⟨_, rfl, ?_⟩
    rw [Addr.add_lit]
    rw [List.getElem?_drop] at hj
    rcases hr with e | ⟨g', o', e, hcell⟩
    · rw [e] at hj; simp at hj
    · cases e
      have hlt := (List.getElem?_eq_some_iff.1 hj).1
      have := hcell (i * 2 + j) hlt
      rw [hj] at this
      rw [← this]; congr 2; omega
theorem nodeR_str {p : ByteArray} {w : World} {K : Value → World → Prop} (hl : p.size ≤ 2000000)
    (hK : ∀ w', Qt w w' → K (.bool (nodeB p)) w') : CallK Tryd.prog 18 #[.string p] K w := by
  rw [← txt_list p]; exact nodeR_any hl hK
theorem src_new2 (w : World) (xs : List Value) (e : TypeId) : Cn.Src (w.alloc (.cells xs.toArray e)) (some ⟨w.heap.size, 0, none⟩) xs := fun j u hj => ⟨_, rfl, by rw [Addr.add_lit, Nat.zero_add, blk_cell (blk_new _ _)]; simpa using hj⟩
theorem getN_at {m : LM} {p : ByteArray} (hf : fnd SI.lt m p = true) {i : Nat} (hi : pos SI.lt m p = i) (hlt : i < m.length) : getN m p = m[i].2 := by
  unfold getN SI.getM
  rw [if_pos hf, hi, List.getElem?_eq_getElem hlt]; rfl
theorem reads_take2 {w : World} {A : Option Addr} {m : LM} (hr : Reads w A (m.flatMap SI.cell2)) (i : Nat) (hi : i ≤ m.length) : Cn.Src w A ((m.take i).flatMap SI.cell2) := by
  intro j u hj
  refine hr.src j u ?_
  rw [SI.flat_take] at hj
  rw [List.getElem?_take] at hj
  split at hj
  · exact hj
  · cases hj
theorem SI_reads2 {w : World} {A : Option Addr} {n c : Nat} {xs : List Value} {F : Option Nat} (h : Own w 39 2 (.slice A n c) n xs F) : Reads w A xs := by
  rcases h with ⟨_, _, rfl, _⟩ | ⟨g, cap, e, _, hl, cur, hb, h1, h2, h3, h4⟩
  · exact .inl rfl
  · injection e with e
    subst e
    right
    refine ⟨g, 0, rfl, fun j hj => ?_⟩
    have hrow : RowAt w 39 2 g n cap xs := ⟨hl, cur, hb, h1, h2, h3, h4⟩
    rw [Nat.zero_add]; exact hrow.cell j (by omega)
theorem sl_n (K : Value → World → Prop) (w : World) (h : K (.slice none 0 0) w) : SliceK Tryd.prog 26 (.slice none 0 0) (some (.int .i64 0)) none none K w := by
  unfold SliceK; go_simp; exact h
set_option maxHeartbeats 4000000 in
theorem beginR_any {w : World} {A : Option Addr} {c : Nat} {m : LM} {p : ByteArray} {K : Value → World → Prop} (hr : Reads w A (m.flatMap SI.cell2)) (hc : m.length ≤ c) (hA : (A = none ∧ c = 0) ∨ ∃ g o, A = some ⟨g, o, none⟩) (hs : Rises SI.lt m) (hp : p.size ≤ 1000) (hl : m.length ≤ 1000) (hv : Vals m)
    (hK : ∀ A' c' w', Reads w' A' ((beginM m p).1.flatMap SI.cell2) → (beginM m p).1.length ≤ c' → ((A' = none ∧ c' = 0) ∨ ∃ g o, A' = some ⟨g, o, none⟩) → Qt w w' → (∀ ad, A' = some ad → (A = some ad ∧ (beginM m p).1 = m) ∨ w.heap.size ≤ ad.block) → K (.tuple #[.slice A' (beginM m p).1.length c', .int .i64 (beginM m p).2.1, .int .i64 (beginM m p).2.2]) w') :
    CallK Tryd.prog 9 #[.slice A m.length c, .string p] K w := by
  refine F9_calls _ _ _ _ ?_; unfold F9
  have hbd := getM_bd hv p
  refine ck18 (nodeR_str (by omega) ?_)
  intro w1 q1
  have r1 := hr.quiet q1
  unfold beginM at hK
  by_cases hn : nodeB p = false
  · rw [if_pos hn] at hK
    rw [hn]
    simp (maxSteps := 1000000) (disch := omega) only [hid1', hid2', guardK_u, takeG_u, wrap_in64, optK_some', fzK_false', nilK_ptr, brK_true', brK_false', guardK_tt', guardK_ff', guardK_tf', guardK_ft', takeG_tt', takeG_ff', takeG_tf', takeG_ft', pickK_t', pickK_f', pickT_t', pickT_f', notK, extract2_0', extract2_1', extract3_0', extract3_1', extract3_2', here_load, here_fieldAt, here_indexAt, here_extract, here_un, here_conv, here_slice, here_bin, here_nil, and_here, true_and, Nat.zero_add, Nat.add_assoc, Nat.add_zero, Int.toNat_natCast, size_alloc, World.cell?_drew, World.frozen?_drew, Bool.not_true, Bool.not_false, Int.toNat_zero, dec_t, dec_f, int_eq_t, int_eq_f, int_ne_t, int_ne_f, wrap_in, kblss3, kld9, kbadd3, klen26, hlen26, kia26, kfa39_0, kfa39_1, kld2, kbgeq3, kblss9, kbeql9, kbgeq2, kbd39_0_1, kal39, kst39f, kbs26_0, ksl26_010z, ksl26_010, kbadd2, kst2, kld39, kbs26_1_0, ksl26_100z, ksl26_100]
    exact hK A c w1 r1 hc hA q1 (fun _ h => .inl ⟨h, rfl⟩)
  rw [if_neg hn] at hK
  have hn' : nodeB p = true := by simpa using hn
  rw [hn']
  simp (maxSteps := 1000000) (disch := omega) only [hid1', hid2', guardK_u, takeG_u, wrap_in64, optK_some', fzK_false', nilK_ptr, brK_true', brK_false', guardK_tt', guardK_ff', guardK_tf', guardK_ft', takeG_tt', takeG_ff', takeG_tf', takeG_ft', pickK_t', pickK_f', pickT_t', pickT_f', notK, extract2_0', extract2_1', extract3_0', extract3_1', extract3_2', here_load, here_fieldAt, here_indexAt, here_extract, here_un, here_conv, here_slice, here_bin, here_nil, and_here, true_and, Nat.zero_add, Nat.add_assoc, Nat.add_zero, Int.toNat_natCast, size_alloc, World.cell?_drew, World.frozen?_drew, Bool.not_true, Bool.not_false, Int.toNat_zero, dec_t, dec_f, int_eq_t, int_eq_f, int_ne_t, int_ne_f, wrap_in, kblss3, kld9, kbadd3, klen26, hlen26, kia26, kfa39_0, kfa39_1, kld2, kbgeq3, kblss9, kbeql9, kbgeq2, kbd39_0_1, kal39, kst39f, kbs26_0, ksl26_010z, ksl26_010, kbadd2, kst2, kld39, kbs26_1_0, ksl26_100z, ksl26_100]
  refine loopK1 (fun v w' => w' = w1 ∧ ∃ i : Nat, v = .int .i64 i ∧ i ≤ m.length ∧ ∀ j (h : j < m.length), j < i → SI.lt m[j].1 p = true) (fun v _ => m.length - (intOf v).toNat) ⟨rfl, 0, rfl, by omega, fun j h hj => by omega⟩ ?_
  rintro _ _ w' ⟨hw, i, rfl, hi, hlo⟩
  obtain rfl : w' = w1 := hw
  have body : ∀ (hx : ∀ h : i < m.length, SI.lt m[i].1 p = false), pos SI.lt m p = i := fun hx => pos_eq m p i hi hlo hx
  by_cases hlt : i < m.length
  · obtain ⟨g, o, rfl, hc0, hc1⟩ := SI.cells_at r1 hlt
    cases hb : SI.lt m[i].1 p with
    | true =>
      have hb' : Op.bytesLess m[i].1.toList p.toList = true := hb
      have next : ∀ j (h : j < m.length), j < i + 1 → SI.lt m[j].1 p = true := fun j h hj => by
        by_cases e : j = i
        · subst e; exact hb
        · exact hlo j h (by omega)
      generalize m[i].1 = key at *
      simp (maxSteps := 1000000) (disch := omega) only [hid1', hid2', guardK_u, takeG_u, wrap_in64, optK_some', fzK_false', nilK_ptr, brK_true', brK_false', guardK_tt', guardK_ff', guardK_tf', guardK_ft', takeG_tt', takeG_ff', takeG_tf', takeG_ft', pickK_t', pickK_f', pickT_t', pickT_f', notK, extract2_0', extract2_1', extract3_0', extract3_1', extract3_2', here_load, here_fieldAt, here_indexAt, here_extract, here_un, here_conv, here_slice, here_bin, here_nil, and_here, true_and, Nat.zero_add, Nat.add_assoc, Nat.add_zero, Int.toNat_natCast, size_alloc, World.cell?_drew, World.frozen?_drew, Bool.not_true, Bool.not_false, Int.toNat_zero, dec_t, dec_f, int_eq_t, int_eq_f, int_ne_t, int_ne_f, wrap_in, kblss3, kld9, kbadd3, klen26, hlen26, kia26, kfa39_0, kfa39_1, kld2, kbgeq3, kblss9, kbeql9, kbgeq2, kbd39_0_1, kal39, kst39f, kbs26_0, ksl26_010z, ksl26_010, kbadd2, kst2, kld39, kbs26_1_0, ksl26_100z, ksl26_100, hc0, hc1, hb']
      exact ⟨⟨rfl, i + 1, by go_num, by omega, next⟩, by simp [rel, intOf]; omega⟩
    | false =>
      have hb' : Op.bytesLess m[i].1.toList p.toList = false := hb
      have hpos := body (fun h => hb)
      have refuse : (fnd SI.lt m p = false ∧ 256 ≤ m.length) ∨ 1000000000 ≤ getN m p → K (.tuple #[.slice (some ⟨g, o, none⟩) m.length c, .int .i64 0, .int .i64 9]) w' := fun h => by
        rw [if_pos h] at hK
        exact hK _ c w' r1 hc hA q1 (fun _ h => .inl ⟨h, rfl⟩)
      by_cases he : m[i].1 = p
      · have hf : fnd SI.lt m p = true := fnd_iff.2 ⟨by omega, by simp only [hpos]; exact he⟩
        have hn2 := getN_at hf hpos hlt
        have hd : (m[i].1.toList == p.toList) = true := by rw [he]; simp
        rw [← hn2] at hc1
        generalize hk : m[i].1 = key at *
        by_cases hbig : 1000000000 ≤ getN m p
        · simp (maxSteps := 1000000) (disch := omega) only [hid1', hid2', guardK_u, takeG_u, wrap_in64, optK_some', fzK_false', nilK_ptr, brK_true', brK_false', guardK_tt', guardK_ff', guardK_tf', guardK_ft', takeG_tt', takeG_ff', takeG_tf', takeG_ft', pickK_t', pickK_f', pickT_t', pickT_f', notK, extract2_0', extract2_1', extract3_0', extract3_1', extract3_2', here_load, here_fieldAt, here_indexAt, here_extract, here_un, here_conv, here_slice, here_bin, here_nil, and_here, true_and, Nat.zero_add, Nat.add_assoc, Nat.add_zero, Int.toNat_natCast, size_alloc, World.cell?_drew, World.frozen?_drew, Bool.not_true, Bool.not_false, Int.toNat_zero, dec_t, dec_f, int_eq_t, int_eq_f, int_ne_t, int_ne_f, wrap_in, kblss3, kld9, kbadd3, klen26, hlen26, kia26, kfa39_0, kfa39_1, kld2, kbgeq3, kblss9, kbeql9, kbgeq2, kbd39_0_1, kal39, kst39f, kbs26_0, ksl26_010z, ksl26_010, kbadd2, kst2, kld39, kbs26_1_0, ksl26_100z, ksl26_100, hc0, hc1, hb', hd, guardK_u]
          exact refuse (.inr hbig)
        · rw [if_neg (by
            intro e
            rcases e with e | e
            · rw [hf] at e; cases e.1
            · exact hbig e)] at hK
          simp (maxSteps := 1000000) (disch := omega) only [hid1', hid2', guardK_u, takeG_u, wrap_in64, optK_some', fzK_false', nilK_ptr, brK_true', brK_false', guardK_tt', guardK_ff', guardK_tf', guardK_ft', takeG_tt', takeG_ff', takeG_tf', takeG_ft', pickK_t', pickK_f', pickT_t', pickT_f', notK, extract2_0', extract2_1', extract3_0', extract3_1', extract3_2', here_load, here_fieldAt, here_indexAt, here_extract, here_un, here_conv, here_slice, here_bin, here_nil, and_here, true_and, Nat.zero_add, Nat.add_assoc, Nat.add_zero, Int.toNat_natCast, size_alloc, World.cell?_drew, World.frozen?_drew, Bool.not_true, Bool.not_false, Int.toNat_zero, dec_t, dec_f, int_eq_t, int_eq_f, int_ne_t, int_ne_f, wrap_in, kblss3, kld9, kbadd3, klen26, hlen26, kia26, kfa39_0, kfa39_1, kld2, kbgeq3, kblss9, kbeql9, kbgeq2, kbd39_0_1, kal39, kst39f, kbs26_0, ksl26_010z, ksl26_010, kbadd2, kst2, kld39, kbs26_1_0, ksl26_100z, ksl26_100, hc0, hc1, hb', hd, guardK_u]
          obtain ⟨A4, c4, F4, w4, p4, o4, k4, f4⟩ := apart_run (P := Tryd.prog) (w := w'.alloc (.cells #[.string p, .int .i64 1] 39)) tyL (some ⟨g, o, none⟩) i c ((m.take i).flatMap SI.cell2) (by rw [lm_len, List.length_take]; omega) (reads_take2 (r1.quiet (Chg.alloc Qt.refl _)) i hi) (SI.one2 _) (by omega) (by omega) 26
          rw [size_alloc] at p4; refine appK p4 ?_
          have hx4 : w4.heap[w'.heap.size]? = some (.cells #[.string p, .int .i64 1] 39 (0, 0)) := k4.heap (blk_new _ _) (fun h => h)
          have q4 : Qt w' w4 := (Chg.alloc Qt.refl _).trans k4
          have fx : F4 ≠ some w'.heap.size := fun e => by have := f4 _ e; rw [size_alloc] at this; omega
          have cx1 : w4.cell? ⟨w'.heap.size, 1, none⟩ = some (.int .i64 1) := by rw [blk_cell hx4]; rfl
          have zx1 := blk_frozen hx4 1
          have hc1' := q4.cell hc1 (fun h => h)
          refine cutK1 (fun v w5 => v = .int .i64 ((i : Int) + 1) ∧ w5 = w4.setCell ⟨w'.heap.size, 1, none⟩ (.int .i64 (getN m p + 1))) ?_ ?_
          · simp (maxSteps := 1000000) (disch := omega) only [hid1', hid2', guardK_u, takeG_u, wrap_in64, optK_some', fzK_false', nilK_ptr, brK_true', brK_false', guardK_tt', guardK_ff', guardK_tf', guardK_ft', takeG_tt', takeG_ff', takeG_tf', takeG_ft', pickK_t', pickK_f', pickT_t', pickT_f', notK, extract2_0', extract2_1', extract3_0', extract3_1', extract3_2', here_load, here_fieldAt, here_indexAt, here_extract, here_un, here_conv, here_slice, here_bin, here_nil, and_here, true_and, Nat.zero_add, Nat.add_assoc, Nat.add_zero, Int.toNat_natCast, size_alloc, World.cell?_drew, World.frozen?_drew, Bool.not_true, Bool.not_false, Int.toNat_zero, dec_t, dec_f, int_eq_t, int_eq_f, int_ne_t, int_ne_f, wrap_in, kblss3, kld9, kbadd3, klen26, hlen26, kia26, kfa39_0, kfa39_1, kld2, kbgeq3, kblss9, kbeql9, kbgeq2, kbd39_0_1, kal39, kst39f, kbs26_0, ksl26_010z, ksl26_010, kbadd2, kst2, kld39, kbs26_1_0, ksl26_100z, ksl26_100, hc1', cx1, zx1]
            exact ⟨rfl, rfl⟩
          rintro _ _ w5 ⟨rfl, hw5⟩
          have hx5 : w5.heap[w'.heap.size]? = some (.cells #[.string p, .int .i64 (getN m p + 1)] 39 (0, 0)) := by rw [hw5, blk_set hx4]; rfl
          have k45 : Chg (fun k => k = w'.heap.size) w4 w5 := by rw [hw5]; exact (Chg.refl (fun k => k = w'.heap.size) w4).setCell (p := ⟨w'.heap.size, 1, none⟩) (.inl rfl) _
          clear hw5
          have o5 := o4.chg k45 (fun k hk e => fx (by rw [hk, e]))
          have q5 : Qt w' w5 := Qt.then q4 k45 (fun k hk => by omega)
          have cx50 : w5.cell? ⟨w'.heap.size, 0, none⟩ = some (.string p) := by rw [blk_cell hx5]; rfl
          have cx51 : w5.cell? ⟨w'.heap.size, 1, none⟩ = some (.int .i64 (getN m p + 1)) := by rw [blk_cell hx5]; rfl
          generalize hN : getN m p + 1 = N at *
          simp (maxSteps := 1000000) (disch := omega) only [hid1', hid2', guardK_u, takeG_u, wrap_in64, optK_some', fzK_false', nilK_ptr, brK_true', brK_false', guardK_tt', guardK_ff', guardK_tf', guardK_ft', takeG_tt', takeG_ff', takeG_tf', takeG_ft', pickK_t', pickK_f', pickT_t', pickT_f', notK, extract2_0', extract2_1', extract3_0', extract3_1', extract3_2', here_load, here_fieldAt, here_indexAt, here_extract, here_un, here_conv, here_slice, here_bin, here_nil, and_here, true_and, Nat.zero_add, Nat.add_assoc, Nat.add_zero, Int.toNat_natCast, size_alloc, World.cell?_drew, World.frozen?_drew, Bool.not_true, Bool.not_false, Int.toNat_zero, dec_t, dec_f, int_eq_t, int_eq_f, int_ne_t, int_ne_f, wrap_in, kblss3, kld9, kbadd3, klen26, hlen26, kia26, kfa39_0, kfa39_1, kld2, kbgeq3, kblss9, kbeql9, kbgeq2, kbd39_0_1, kal39, kst39f, kbs26_0, ksl26_010z, ksl26_010, kbadd2, kst2, kld39, kbs26_1_0, ksl26_100z, ksl26_100, cx50, cx51]
          have qa : Qt w5 (w5.alloc (.cells #[.string p, .int .i64 N] 39)) := Chg.alloc Qt.refl _
          obtain ⟨A6, c6, F6, w6, p6, o6, k6, f6⟩ := app_run (P := Tryd.prog) tyL (o5.chg qa (fun _ _ h => h)) (some ⟨w5.heap.size, 0, none⟩) 1 1 [.string p, .int .i64 N] rfl (src_new2 w5 [.string p, .int .i64 N] 39) (fun u hu => by simp at hu; rcases hu with rfl | rfl <;> rfl) (by omega) (by omega) 26
          refine appK p6 ?_
          have q6 : Qt w' w6 := Qt.then (q5.trans qa) k6 (fun k hk => by have := f4 k hk; rw [size_alloc] at this; omega)
          have hx6 : w6.heap[w'.heap.size]? = some (.cells #[.string p, .int .i64 N] 39 (0, 0)) := k6.heap (qa.heap hx5 (fun h => h)) (fun e => fx e)
          have cx6 : w6.cell? ⟨w'.heap.size, 1, none⟩ = some (.int .i64 N) := by rw [blk_cell hx6]; rfl
          have hF6 : ∀ k, F6 = some k → w'.heap.size < k := fun k hk => by
            rcases f6 k hk with h | h
            · have := f4 k h; rw [size_alloc] at this; omega
            · have := q5.size; have := blk_lt hx5; rw [size_alloc] at h; omega
          have o6' := o6.chg (S := fun _ => False) (Qt.drew Qt.refl) (fun _ _ h => h)
          have r6 := (r1.quiet q6).quiet (Qt.drew Qt.refl)
          simp (maxSteps := 1000000) (disch := omega) only [hid1', hid2', guardK_u, takeG_u, wrap_in64, optK_some', fzK_false', nilK_ptr, brK_true', brK_false', guardK_tt', guardK_ff', guardK_tf', guardK_ft', takeG_tt', takeG_ff', takeG_tf', takeG_ft', pickK_t', pickK_f', pickT_t', pickT_f', notK, extract2_0', extract2_1', extract3_0', extract3_1', extract3_2', here_load, here_fieldAt, here_indexAt, here_extract, here_un, here_conv, here_slice, here_bin, here_nil, and_here, true_and, Nat.zero_add, Nat.add_assoc, Nat.add_zero, Int.toNat_natCast, size_alloc, World.cell?_drew, World.frozen?_drew, Bool.not_true, Bool.not_false, Int.toNat_zero, dec_t, dec_f, int_eq_t, int_eq_f, int_ne_t, int_ne_f, wrap_in, kblss3, kld9, kbadd3, klen26, hlen26, kia26, kfa39_0, kfa39_1, kld2, kbgeq3, kblss9, kbeql9, kbgeq2, kbd39_0_1, kal39, kst39f, kbs26_0, ksl26_010z, ksl26_010, kbadd2, kst2, kld39, kbs26_1_0, ksl26_100z, ksl26_100]
          refine drawK_by (fun w'' => w''.cell? ⟨w'.heap.size, 1, none⟩ = some (.int .i64 N)) cx6 ?_
          have hT : (((i : Int) + 1 : Int)).toNat = (i + 1) := by omega
          refine take_slice (.slice (if c = (i + 1) then some ⟨g, o, none⟩ else some ⟨g, o + (i + 1) * 2, none⟩) (m.length - (i + 1)) (c - (i + 1))) (fun w'' _ => by (simp (maxSteps := 1000000) (disch := omega) only [hid1', hid2', guardK_u, takeG_u, wrap_in64, optK_some', fzK_false', nilK_ptr, brK_true', brK_false', guardK_tt', guardK_ff', guardK_tf', guardK_ft', takeG_tt', takeG_ff', takeG_tf', takeG_ft', pickK_t', pickK_f', pickT_t', pickT_f', notK, extract2_0', extract2_1', extract3_0', extract3_1', extract3_2', here_load, here_fieldAt, here_indexAt, here_extract, here_un, here_conv, here_slice, here_bin, here_nil, and_here, true_and, Nat.zero_add, Nat.add_assoc, Nat.add_zero, Int.toNat_natCast, size_alloc, World.cell?_drew, World.frozen?_drew, Bool.not_true, Bool.not_false, Int.toNat_zero, dec_t, dec_f, int_eq_t, int_eq_f, int_ne_t, int_ne_f, wrap_in, kblss3, kld9, kbadd3, klen26, hlen26, kia26, kfa39_0, kfa39_1, kld2, kbgeq3, kblss9, kbeql9, kbgeq2, kbd39_0_1, kal39, kst39f, kbs26_0, ksl26_010z, ksl26_010, kbadd2, kst2, kld39, kbs26_1_0, ksl26_100z, ksl26_100, hT]; try (exact ⟨trivial, trivial⟩))) ?_
          refine take_field (.pointer (some ⟨w'.heap.size, 1, none⟩)) (fun w'' _ => by (simp (maxSteps := 1000000) (disch := omega) only [hid1', hid2', guardK_u, takeG_u, wrap_in64, optK_some', fzK_false', nilK_ptr, brK_true', brK_false', guardK_tt', guardK_ff', guardK_tf', guardK_ft', takeG_tt', takeG_ff', takeG_tf', takeG_ft', pickK_t', pickK_f', pickT_t', pickT_f', notK, extract2_0', extract2_1', extract3_0', extract3_1', extract3_2', here_load, here_fieldAt, here_indexAt, here_extract, here_un, here_conv, here_slice, here_bin, here_nil, and_here, true_and, Nat.zero_add, Nat.add_assoc, Nat.add_zero, Int.toNat_natCast, size_alloc, World.cell?_drew, World.frozen?_drew, Bool.not_true, Bool.not_false, Int.toNat_zero, dec_t, dec_f, int_eq_t, int_eq_f, int_ne_t, int_ne_f, wrap_in, kblss3, kld9, kbadd3, klen26, hlen26, kia26, kfa39_0, kfa39_1, kld2, kbgeq3, kblss9, kbeql9, kbgeq2, kbd39_0_1, kal39, kst39f, kbs26_0, ksl26_010z, ksl26_010, kbadd2, kst2, kld39, kbs26_1_0, ksl26_100z, ksl26_100]; try (exact ⟨trivial, trivial⟩))) ?_
          refine take_load (.int .i64 N) (fun w'' hw => by (simp (maxSteps := 1000000) (disch := omega) only [hid1', hid2', guardK_u, takeG_u, wrap_in64, optK_some', fzK_false', nilK_ptr, brK_true', brK_false', guardK_tt', guardK_ff', guardK_tf', guardK_ft', takeG_tt', takeG_ff', takeG_tf', takeG_ft', pickK_t', pickK_f', pickT_t', pickT_f', notK, extract2_0', extract2_1', extract3_0', extract3_1', extract3_2', here_load, here_fieldAt, here_indexAt, here_extract, here_un, here_conv, here_slice, here_bin, here_nil, and_here, true_and, Nat.zero_add, Nat.add_assoc, Nat.add_zero, Int.toNat_natCast, size_alloc, World.cell?_drew, World.frozen?_drew, Bool.not_true, Bool.not_false, Int.toNat_zero, dec_t, dec_f, int_eq_t, int_eq_f, int_ne_t, int_ne_f, wrap_in, kblss3, kld9, kbadd3, klen26, hlen26, kia26, kfa39_0, kfa39_1, kld2, kbgeq3, kblss9, kbeql9, kbgeq2, kbd39_0_1, kal39, kst39f, kbs26_0, ksl26_010z, ksl26_010, kbadd2, kst2, kld39, kbs26_1_0, ksl26_100z, ksl26_100, hw]; try (exact ⟨trivial, trivial⟩))) ?_
          obtain ⟨A7, c7, F7, w7, p7, o7, k7, f7⟩ := app_run (P := Tryd.prog) tyL o6' (if c = (i + 1) then some ⟨g, o, none⟩ else some ⟨g, o + (i + 1) * 2, none⟩) (m.length - (i + 1)) (c - (i + 1)) ((m.drop (i + 1)).flatMap SI.cell2) (by rw [lm_len, List.length_drop]) (reads_drop2 (n := 0) r6 hc (i + 1) (by omega)) (SI.one2 _) (by omega) (by omega) 26
          refine ⟨appK p7 ?_, trivial⟩
          have cx7 : w7.cell? ⟨w'.heap.size, 1, none⟩ = some (.int .i64 N) := k7.cell cx6 (fun e => by have := hF6 _ e; simp at this)
          simp (maxSteps := 1000000) (disch := omega) only [hid1', hid2', guardK_u, takeG_u, wrap_in64, optK_some', fzK_false', nilK_ptr, brK_true', brK_false', guardK_tt', guardK_ff', guardK_tf', guardK_ft', takeG_tt', takeG_ff', takeG_tf', takeG_ft', pickK_t', pickK_f', pickT_t', pickT_f', notK, extract2_0', extract2_1', extract3_0', extract3_1', extract3_2', here_load, here_fieldAt, here_indexAt, here_extract, here_un, here_conv, here_slice, here_bin, here_nil, and_here, true_and, Nat.zero_add, Nat.add_assoc, Nat.add_zero, Int.toNat_natCast, size_alloc, World.cell?_drew, World.frozen?_drew, Bool.not_true, Bool.not_false, Int.toNat_zero, dec_t, dec_f, int_eq_t, int_eq_f, int_ne_t, int_ne_f, wrap_in, kblss3, kld9, kbadd3, klen26, hlen26, kia26, kfa39_0, kfa39_1, kld2, kbgeq3, kblss9, kbeql9, kbgeq2, kbd39_0_1, kal39, kst39f, kbs26_0, ksl26_010z, ksl26_010, kbadd2, kst2, kld39, kbs26_1_0, ksl26_100z, ksl26_100]
          refine ⟨cx7, ?_⟩
          have q7 : Qt w' w7 := Qt.then (q6.trans (Qt.drew Qt.refl)) k7 (fun k hk => by have := hF6 k hk; omega)
          have er : (m.take i).flatMap SI.cell2 ++ [.string p, .int .i64 N] ++ (m.drop (i + 1)).flatMap SI.cell2 = (putM SI.lt m p N).flatMap SI.cell2 := by
            rw [put_split, hpos, hf, if_pos rfl, List.flatMap_append, List.flatMap_append]; rfl
          have el : (putM SI.lt m p N).length = i + 1 + (m.length - (i + 1)) := by
            rw [put_split, hpos, hf, if_pos rfl, List.length_append, List.length_append, List.length_take, List.length_drop]; simp; omega
          rw [er, ← el] at o7
          rw [show i + (1 + (m.length - (i + 1))) = (putM SI.lt m p N).length by omega]
          have sh7 := o7.shape
          refine hK A7 c7 w7 (SI_reads2 o7) ?_ ?_ (q1.trans q7) ?_
          · show (putM SI.lt m p N).length ≤ c7
            obtain ⟨_, _, e, h, _⟩ := sh7
            injection e with _ _ e
            omega
          · rcases o7 with ⟨e2, _⟩ | ⟨g7, _, e2, _⟩
            · injection e2 with e2 _ e3; exact .inl ⟨e2, e3⟩
            · injection e2 with e2; exact .inr ⟨g7, 0, e2⟩
          · intro ad had
            have hsq := (q6.trans (Qt.drew Qt.refl)).size
            have hs1 := q1.size
            right
            rcases o7 with ⟨e2, _⟩ | ⟨g7, _, e2, hF7, _⟩
            · injection e2 with e2; rw [e2] at had; cases had
            · injection e2 with e2; rw [e2] at had; cases had
              show w.heap.size ≤ g7
              rcases f7 _ hF7 with h | h
              · have := hF6 _ h; omega
              · rw [h]; omega
      · have hf : fnd SI.lt m p = false := by
          cases h : fnd SI.lt m p with
          | false => rfl
          | true => exact absurd (by have := (fnd_iff.1 h).2; simp only [hpos] at this; exact this) he
        have hg0 := getM_no hf
        have hd : (m[i].1.toList == p.toList) = false := by
          rw [beq_eq_false_iff_ne]; exact fun e => he (toList_inj e)
        generalize hk : m[i].1 = key at *
        by_cases h256 : 256 ≤ m.length
        · simp (maxSteps := 1000000) (disch := omega) only [hid1', hid2', guardK_u, takeG_u, wrap_in64, optK_some', fzK_false', nilK_ptr, brK_true', brK_false', guardK_tt', guardK_ff', guardK_tf', guardK_ft', takeG_tt', takeG_ff', takeG_tf', takeG_ft', pickK_t', pickK_f', pickT_t', pickT_f', notK, extract2_0', extract2_1', extract3_0', extract3_1', extract3_2', here_load, here_fieldAt, here_indexAt, here_extract, here_un, here_conv, here_slice, here_bin, here_nil, and_here, true_and, Nat.zero_add, Nat.add_assoc, Nat.add_zero, Int.toNat_natCast, size_alloc, World.cell?_drew, World.frozen?_drew, Bool.not_true, Bool.not_false, Int.toNat_zero, dec_t, dec_f, int_eq_t, int_eq_f, int_ne_t, int_ne_f, wrap_in, kblss3, kld9, kbadd3, klen26, hlen26, kia26, kfa39_0, kfa39_1, kld2, kbgeq3, kblss9, kbeql9, kbgeq2, kbd39_0_1, kal39, kst39f, kbs26_0, ksl26_010z, ksl26_010, kbadd2, kst2, kld39, kbs26_1_0, ksl26_100z, ksl26_100, hc0, hc1, hb', hd, guardK_u]
          exact refuse (.inl ⟨hf, h256⟩)
        · rw [if_neg (by omega)] at hK
          simp (maxSteps := 1000000) (disch := omega) only [hid1', hid2', guardK_u, takeG_u, wrap_in64, optK_some', fzK_false', nilK_ptr, brK_true', brK_false', guardK_tt', guardK_ff', guardK_tf', guardK_ft', takeG_tt', takeG_ff', takeG_tf', takeG_ft', pickK_t', pickK_f', pickT_t', pickT_f', notK, extract2_0', extract2_1', extract3_0', extract3_1', extract3_2', here_load, here_fieldAt, here_indexAt, here_extract, here_un, here_conv, here_slice, here_bin, here_nil, and_here, true_and, Nat.zero_add, Nat.add_assoc, Nat.add_zero, Int.toNat_natCast, size_alloc, World.cell?_drew, World.frozen?_drew, Bool.not_true, Bool.not_false, Int.toNat_zero, dec_t, dec_f, int_eq_t, int_eq_f, int_ne_t, int_ne_f, wrap_in, kblss3, kld9, kbadd3, klen26, hlen26, kia26, kfa39_0, kfa39_1, kld2, kbgeq3, kblss9, kbeql9, kbgeq2, kbd39_0_1, kal39, kst39f, kbs26_0, ksl26_010z, ksl26_010, kbadd2, kst2, kld39, kbs26_1_0, ksl26_100z, ksl26_100, hc0, hc1, hb', hd, guardK_u]
          obtain ⟨A4, c4, F4, w4, p4, o4, k4, f4⟩ := apart_run (P := Tryd.prog) (w := w'.alloc (.cells #[.string p, .int .i64 1] 39)) tyL (some ⟨g, o, none⟩) i c ((m.take i).flatMap SI.cell2) (by rw [lm_len, List.length_take]; omega) (reads_take2 (r1.quiet (Chg.alloc Qt.refl _)) i hi) (SI.one2 _) (by omega) (by omega) 26
          rw [size_alloc] at p4; refine appK p4 ?_
          have hx4 : w4.heap[w'.heap.size]? = some (.cells #[.string p, .int .i64 1] 39 (0, 0)) := k4.heap (blk_new _ _) (fun h => h)
          have q4 : Qt w' w4 := (Chg.alloc Qt.refl _).trans k4
          have fx : F4 ≠ some w'.heap.size := fun e => by have := f4 _ e; rw [size_alloc] at this; omega
          have cx1 : w4.cell? ⟨w'.heap.size, 1, none⟩ = some (.int .i64 1) := by rw [blk_cell hx4]; rfl
          have zx1 := blk_frozen hx4 1
          refine cutK1 (fun v w5 => v = .int .i64 (i : Int) ∧ w5 = w4) ?_ ?_
          · simp (maxSteps := 1000000) (disch := omega) only [hid1', hid2', guardK_u, takeG_u, wrap_in64, optK_some', fzK_false', nilK_ptr, brK_true', brK_false', guardK_tt', guardK_ff', guardK_tf', guardK_ft', takeG_tt', takeG_ff', takeG_tf', takeG_ft', pickK_t', pickK_f', pickT_t', pickT_f', notK, extract2_0', extract2_1', extract3_0', extract3_1', extract3_2', here_load, here_fieldAt, here_indexAt, here_extract, here_un, here_conv, here_slice, here_bin, here_nil, and_here, true_and, Nat.zero_add, Nat.add_assoc, Nat.add_zero, Int.toNat_natCast, size_alloc, World.cell?_drew, World.frozen?_drew, Bool.not_true, Bool.not_false, Int.toNat_zero, dec_t, dec_f, int_eq_t, int_eq_f, int_ne_t, int_ne_f, wrap_in, kblss3, kld9, kbadd3, klen26, hlen26, kia26, kfa39_0, kfa39_1, kld2, kbgeq3, kblss9, kbeql9, kbgeq2, kbd39_0_1, kal39, kst39f, kbs26_0, ksl26_010z, ksl26_010, kbadd2, kst2, kld39, kbs26_1_0, ksl26_100z, ksl26_100]
            exact ⟨rfl, rfl⟩
          rintro _ _ w5 ⟨rfl, hw5⟩
          have hx5 : w5.heap[w'.heap.size]? = some (.cells #[.string p, .int .i64 (getN m p + 1)] 39 (0, 0)) := by rw [hw5, hx4, hg0]; rfl
          have k45 : Chg (fun k => k = w'.heap.size) w4 w5 := by rw [hw5]; exact Chg.refl _ _
          clear hw5
          have o5 := o4.chg k45 (fun k hk e => fx (by rw [hk, e]))
          have q5 : Qt w' w5 := Qt.then q4 k45 (fun k hk => by omega)
          have cx50 : w5.cell? ⟨w'.heap.size, 0, none⟩ = some (.string p) := by rw [blk_cell hx5]; rfl
          have cx51 : w5.cell? ⟨w'.heap.size, 1, none⟩ = some (.int .i64 (getN m p + 1)) := by rw [blk_cell hx5]; rfl
          generalize hN : getN m p + 1 = N at *
          simp (maxSteps := 1000000) (disch := omega) only [hid1', hid2', guardK_u, takeG_u, wrap_in64, optK_some', fzK_false', nilK_ptr, brK_true', brK_false', guardK_tt', guardK_ff', guardK_tf', guardK_ft', takeG_tt', takeG_ff', takeG_tf', takeG_ft', pickK_t', pickK_f', pickT_t', pickT_f', notK, extract2_0', extract2_1', extract3_0', extract3_1', extract3_2', here_load, here_fieldAt, here_indexAt, here_extract, here_un, here_conv, here_slice, here_bin, here_nil, and_here, true_and, Nat.zero_add, Nat.add_assoc, Nat.add_zero, Int.toNat_natCast, size_alloc, World.cell?_drew, World.frozen?_drew, Bool.not_true, Bool.not_false, Int.toNat_zero, dec_t, dec_f, int_eq_t, int_eq_f, int_ne_t, int_ne_f, wrap_in, kblss3, kld9, kbadd3, klen26, hlen26, kia26, kfa39_0, kfa39_1, kld2, kbgeq3, kblss9, kbeql9, kbgeq2, kbd39_0_1, kal39, kst39f, kbs26_0, ksl26_010z, ksl26_010, kbadd2, kst2, kld39, kbs26_1_0, ksl26_100z, ksl26_100, cx50, cx51]
          have qa : Qt w5 (w5.alloc (.cells #[.string p, .int .i64 N] 39)) := Chg.alloc Qt.refl _
          obtain ⟨A6, c6, F6, w6, p6, o6, k6, f6⟩ := app_run (P := Tryd.prog) tyL (o5.chg qa (fun _ _ h => h)) (some ⟨w5.heap.size, 0, none⟩) 1 1 [.string p, .int .i64 N] rfl (src_new2 w5 [.string p, .int .i64 N] 39) (fun u hu => by simp at hu; rcases hu with rfl | rfl <;> rfl) (by omega) (by omega) 26
          refine appK p6 ?_
          have q6 : Qt w' w6 := Qt.then (q5.trans qa) k6 (fun k hk => by have := f4 k hk; rw [size_alloc] at this; omega)
          have hx6 : w6.heap[w'.heap.size]? = some (.cells #[.string p, .int .i64 N] 39 (0, 0)) := k6.heap (qa.heap hx5 (fun h => h)) (fun e => fx e)
          have cx6 : w6.cell? ⟨w'.heap.size, 1, none⟩ = some (.int .i64 N) := by rw [blk_cell hx6]; rfl
          have hF6 : ∀ k, F6 = some k → w'.heap.size < k := fun k hk => by
            rcases f6 k hk with h | h
            · have := f4 k h; rw [size_alloc] at this; omega
            · have := q5.size; have := blk_lt hx5; rw [size_alloc] at h; omega
          have o6' := o6.chg (S := fun _ => False) (Qt.drew Qt.refl) (fun _ _ h => h)
          have r6 := (r1.quiet q6).quiet (Qt.drew Qt.refl)
          simp (maxSteps := 1000000) (disch := omega) only [hid1', hid2', guardK_u, takeG_u, wrap_in64, optK_some', fzK_false', nilK_ptr, brK_true', brK_false', guardK_tt', guardK_ff', guardK_tf', guardK_ft', takeG_tt', takeG_ff', takeG_tf', takeG_ft', pickK_t', pickK_f', pickT_t', pickT_f', notK, extract2_0', extract2_1', extract3_0', extract3_1', extract3_2', here_load, here_fieldAt, here_indexAt, here_extract, here_un, here_conv, here_slice, here_bin, here_nil, and_here, true_and, Nat.zero_add, Nat.add_assoc, Nat.add_zero, Int.toNat_natCast, size_alloc, World.cell?_drew, World.frozen?_drew, Bool.not_true, Bool.not_false, Int.toNat_zero, dec_t, dec_f, int_eq_t, int_eq_f, int_ne_t, int_ne_f, wrap_in, kblss3, kld9, kbadd3, klen26, hlen26, kia26, kfa39_0, kfa39_1, kld2, kbgeq3, kblss9, kbeql9, kbgeq2, kbd39_0_1, kal39, kst39f, kbs26_0, ksl26_010z, ksl26_010, kbadd2, kst2, kld39, kbs26_1_0, ksl26_100z, ksl26_100]
          refine drawK_by (fun w'' => w''.cell? ⟨w'.heap.size, 1, none⟩ = some (.int .i64 N)) cx6 ?_
          have hT : (((i : Int) : Int)).toNat = i := by omega
          refine take_slice (.slice (if c = i then some ⟨g, o, none⟩ else some ⟨g, o + i * 2, none⟩) (m.length - i) (c - i)) (fun w'' _ => by (simp (maxSteps := 1000000) (disch := omega) only [hid1', hid2', guardK_u, takeG_u, wrap_in64, optK_some', fzK_false', nilK_ptr, brK_true', brK_false', guardK_tt', guardK_ff', guardK_tf', guardK_ft', takeG_tt', takeG_ff', takeG_tf', takeG_ft', pickK_t', pickK_f', pickT_t', pickT_f', notK, extract2_0', extract2_1', extract3_0', extract3_1', extract3_2', here_load, here_fieldAt, here_indexAt, here_extract, here_un, here_conv, here_slice, here_bin, here_nil, and_here, true_and, Nat.zero_add, Nat.add_assoc, Nat.add_zero, Int.toNat_natCast, size_alloc, World.cell?_drew, World.frozen?_drew, Bool.not_true, Bool.not_false, Int.toNat_zero, dec_t, dec_f, int_eq_t, int_eq_f, int_ne_t, int_ne_f, wrap_in, kblss3, kld9, kbadd3, klen26, hlen26, kia26, kfa39_0, kfa39_1, kld2, kbgeq3, kblss9, kbeql9, kbgeq2, kbd39_0_1, kal39, kst39f, kbs26_0, ksl26_010z, ksl26_010, kbadd2, kst2, kld39, kbs26_1_0, ksl26_100z, ksl26_100, hT]; try (exact ⟨trivial, trivial⟩))) ?_
          refine take_field (.pointer (some ⟨w'.heap.size, 1, none⟩)) (fun w'' _ => by (simp (maxSteps := 1000000) (disch := omega) only [hid1', hid2', guardK_u, takeG_u, wrap_in64, optK_some', fzK_false', nilK_ptr, brK_true', brK_false', guardK_tt', guardK_ff', guardK_tf', guardK_ft', takeG_tt', takeG_ff', takeG_tf', takeG_ft', pickK_t', pickK_f', pickT_t', pickT_f', notK, extract2_0', extract2_1', extract3_0', extract3_1', extract3_2', here_load, here_fieldAt, here_indexAt, here_extract, here_un, here_conv, here_slice, here_bin, here_nil, and_here, true_and, Nat.zero_add, Nat.add_assoc, Nat.add_zero, Int.toNat_natCast, size_alloc, World.cell?_drew, World.frozen?_drew, Bool.not_true, Bool.not_false, Int.toNat_zero, dec_t, dec_f, int_eq_t, int_eq_f, int_ne_t, int_ne_f, wrap_in, kblss3, kld9, kbadd3, klen26, hlen26, kia26, kfa39_0, kfa39_1, kld2, kbgeq3, kblss9, kbeql9, kbgeq2, kbd39_0_1, kal39, kst39f, kbs26_0, ksl26_010z, ksl26_010, kbadd2, kst2, kld39, kbs26_1_0, ksl26_100z, ksl26_100]; try (exact ⟨trivial, trivial⟩))) ?_
          refine take_load (.int .i64 N) (fun w'' hw => by (simp (maxSteps := 1000000) (disch := omega) only [hid1', hid2', guardK_u, takeG_u, wrap_in64, optK_some', fzK_false', nilK_ptr, brK_true', brK_false', guardK_tt', guardK_ff', guardK_tf', guardK_ft', takeG_tt', takeG_ff', takeG_tf', takeG_ft', pickK_t', pickK_f', pickT_t', pickT_f', notK, extract2_0', extract2_1', extract3_0', extract3_1', extract3_2', here_load, here_fieldAt, here_indexAt, here_extract, here_un, here_conv, here_slice, here_bin, here_nil, and_here, true_and, Nat.zero_add, Nat.add_assoc, Nat.add_zero, Int.toNat_natCast, size_alloc, World.cell?_drew, World.frozen?_drew, Bool.not_true, Bool.not_false, Int.toNat_zero, dec_t, dec_f, int_eq_t, int_eq_f, int_ne_t, int_ne_f, wrap_in, kblss3, kld9, kbadd3, klen26, hlen26, kia26, kfa39_0, kfa39_1, kld2, kbgeq3, kblss9, kbeql9, kbgeq2, kbd39_0_1, kal39, kst39f, kbs26_0, ksl26_010z, ksl26_010, kbadd2, kst2, kld39, kbs26_1_0, ksl26_100z, ksl26_100, hw]; try (exact ⟨trivial, trivial⟩))) ?_
          obtain ⟨A7, c7, F7, w7, p7, o7, k7, f7⟩ := app_run (P := Tryd.prog) tyL o6' (if c = i then some ⟨g, o, none⟩ else some ⟨g, o + i * 2, none⟩) (m.length - i) (c - i) ((m.drop i).flatMap SI.cell2) (by rw [lm_len, List.length_drop]) (reads_drop2 (n := 0) r6 hc i (by omega)) (SI.one2 _) (by omega) (by omega) 26
          refine ⟨appK p7 ?_, trivial⟩
          have cx7 : w7.cell? ⟨w'.heap.size, 1, none⟩ = some (.int .i64 N) := k7.cell cx6 (fun e => by have := hF6 _ e; simp at this)
          simp (maxSteps := 1000000) (disch := omega) only [hid1', hid2', guardK_u, takeG_u, wrap_in64, optK_some', fzK_false', nilK_ptr, brK_true', brK_false', guardK_tt', guardK_ff', guardK_tf', guardK_ft', takeG_tt', takeG_ff', takeG_tf', takeG_ft', pickK_t', pickK_f', pickT_t', pickT_f', notK, extract2_0', extract2_1', extract3_0', extract3_1', extract3_2', here_load, here_fieldAt, here_indexAt, here_extract, here_un, here_conv, here_slice, here_bin, here_nil, and_here, true_and, Nat.zero_add, Nat.add_assoc, Nat.add_zero, Int.toNat_natCast, size_alloc, World.cell?_drew, World.frozen?_drew, Bool.not_true, Bool.not_false, Int.toNat_zero, dec_t, dec_f, int_eq_t, int_eq_f, int_ne_t, int_ne_f, wrap_in, kblss3, kld9, kbadd3, klen26, hlen26, kia26, kfa39_0, kfa39_1, kld2, kbgeq3, kblss9, kbeql9, kbgeq2, kbd39_0_1, kal39, kst39f, kbs26_0, ksl26_010z, ksl26_010, kbadd2, kst2, kld39, kbs26_1_0, ksl26_100z, ksl26_100]
          refine ⟨cx7, ?_⟩
          have q7 : Qt w' w7 := Qt.then (q6.trans (Qt.drew Qt.refl)) k7 (fun k hk => by have := hF6 k hk; omega)
          have er : (m.take i).flatMap SI.cell2 ++ [.string p, .int .i64 N] ++ (m.drop i).flatMap SI.cell2 = (putM SI.lt m p N).flatMap SI.cell2 := by
            rw [put_split, hpos, hf, if_neg (by decide), List.flatMap_append, List.flatMap_append]; rfl
          have el : (putM SI.lt m p N).length = i + 1 + (m.length - i) := by
            rw [put_split, hpos, hf, if_neg (by decide), List.length_append, List.length_append, List.length_take, List.length_drop]; simp; omega
          rw [er, ← el] at o7
          rw [show i + (1 + (m.length - i)) = (putM SI.lt m p N).length by omega]
          have sh7 := o7.shape
          refine hK A7 c7 w7 (SI_reads2 o7) ?_ ?_ (q1.trans q7) ?_
          · show (putM SI.lt m p N).length ≤ c7
            obtain ⟨_, _, e, h, _⟩ := sh7
            injection e with _ _ e
            omega
          · rcases o7 with ⟨e2, _⟩ | ⟨g7, _, e2, _⟩
            · injection e2 with e2 _ e3; exact .inl ⟨e2, e3⟩
            · injection e2 with e2; exact .inr ⟨g7, 0, e2⟩
          · intro ad had
            have hsq := (q6.trans (Qt.drew Qt.refl)).size
            have hs1 := q1.size
            right
            rcases o7 with ⟨e2, _⟩ | ⟨g7, _, e2, hF7, _⟩
            · injection e2 with e2; rw [e2] at had; cases had
            · injection e2 with e2; rw [e2] at had; cases had
              show w.heap.size ≤ g7
              rcases f7 _ hF7 with h | h
              · have := hF6 _ h; omega
              · rw [h]; omega
  · have hpos := body (fun h => absurd h hlt)
    have hf : fnd SI.lt m p = false := by
      cases h : fnd SI.lt m p with
      | false => rfl
      | true => have := fnd_lt h; omega
    have hg0 := getM_no hf
    have hin : i = m.length := by omega
    by_cases h256 : 256 ≤ m.length
    · rw [if_pos (.inl ⟨hf, h256⟩)] at hK
      simp (maxSteps := 1000000) (disch := omega) only [hid1', hid2', guardK_u, takeG_u, wrap_in64, optK_some', fzK_false', nilK_ptr, brK_true', brK_false', guardK_tt', guardK_ff', guardK_tf', guardK_ft', takeG_tt', takeG_ff', takeG_tf', takeG_ft', pickK_t', pickK_f', pickT_t', pickT_f', notK, extract2_0', extract2_1', extract3_0', extract3_1', extract3_2', here_load, here_fieldAt, here_indexAt, here_extract, here_un, here_conv, here_slice, here_bin, here_nil, and_here, true_and, Nat.zero_add, Nat.add_assoc, Nat.add_zero, Int.toNat_natCast, size_alloc, World.cell?_drew, World.frozen?_drew, Bool.not_true, Bool.not_false, Int.toNat_zero, dec_t, dec_f, int_eq_t, int_eq_f, int_ne_t, int_ne_f, wrap_in, kblss3, kld9, kbadd3, klen26, hlen26, kia26, kfa39_0, kfa39_1, kld2, kbgeq3, kblss9, kbeql9, kbgeq2, kbd39_0_1, kal39, kst39f, kbs26_0, ksl26_010z, ksl26_010, kbadd2, kst2, kld39, kbs26_1_0, ksl26_100z, ksl26_100, guardK_u]
      exact hK A c w' r1 hc hA q1 (fun _ h => .inl ⟨h, rfl⟩)
    rw [if_neg (by omega)] at hK
    rcases hA with ⟨rfl, rfl⟩ | ⟨g, o, rfl⟩
    · obtain rfl : m = [] := List.eq_nil_of_length_eq_zero (by omega)
      have hi0 : i = 0 := by simpa using hin
      have e00 : ((0 : Nat) : Int) = 0 := rfl
      subst hi0
      simp (maxSteps := 1000000) (disch := omega) only [hid1', hid2', guardK_u, takeG_u, wrap_in64, optK_some', fzK_false', nilK_ptr, brK_true', brK_false', guardK_tt', guardK_ff', guardK_tf', guardK_ft', takeG_tt', takeG_ff', takeG_tf', takeG_ft', pickK_t', pickK_f', pickT_t', pickT_f', notK, extract2_0', extract2_1', extract3_0', extract3_1', extract3_2', here_load, here_fieldAt, here_indexAt, here_extract, here_un, here_conv, here_slice, here_bin, here_nil, and_here, true_and, Nat.zero_add, Nat.add_assoc, Nat.add_zero, Int.toNat_natCast, size_alloc, World.cell?_drew, World.frozen?_drew, Bool.not_true, Bool.not_false, Int.toNat_zero, dec_t, dec_f, int_eq_t, int_eq_f, int_ne_t, int_ne_f, wrap_in, kblss3, kld9, kbadd3, klen26, hlen26, kia26, kfa39_0, kfa39_1, kld2, kbgeq3, kblss9, kbeql9, kbgeq2, kbd39_0_1, kal39, kst39f, kbs26_0, ksl26_010z, ksl26_010, kbadd2, kst2, kld39, kbs26_1_0, ksl26_100z, ksl26_100, e00, guardK_u, List.length_nil]
      obtain ⟨A4, c4, F4, w4, p4, o4, k4, f4⟩ := apart_run (P := Tryd.prog) (w := w'.alloc (.cells #[.string p, .int .i64 1] 39)) tyL none 0 0 ((([] : LM).take 0).flatMap SI.cell2) (by rw [lm_len, List.length_take]; omega) (reads_take2 (r1.quiet (Chg.alloc Qt.refl _)) 0 hi) (SI.one2 _) (by omega) (by omega) 26
      rw [size_alloc] at p4; refine appK p4 ?_
      have hx4 : w4.heap[w'.heap.size]? = some (.cells #[.string p, .int .i64 1] 39 (0, 0)) := k4.heap (blk_new _ _) (fun h => h)
      have q4 : Qt w' w4 := (Chg.alloc Qt.refl _).trans k4
      have fx : F4 ≠ some w'.heap.size := fun e => by have := f4 _ e; rw [size_alloc] at this; omega
      have cx1 : w4.cell? ⟨w'.heap.size, 1, none⟩ = some (.int .i64 1) := by rw [blk_cell hx4]; rfl
      have zx1 := blk_frozen hx4 1
      refine cutK1 (fun v w5 => v = .int .i64 (0 : Int) ∧ w5 = w4) ?_ ?_
      · simp (maxSteps := 1000000) (disch := omega) only [hid1', hid2', guardK_u, takeG_u, wrap_in64, optK_some', fzK_false', nilK_ptr, brK_true', brK_false', guardK_tt', guardK_ff', guardK_tf', guardK_ft', takeG_tt', takeG_ff', takeG_tf', takeG_ft', pickK_t', pickK_f', pickT_t', pickT_f', notK, extract2_0', extract2_1', extract3_0', extract3_1', extract3_2', here_load, here_fieldAt, here_indexAt, here_extract, here_un, here_conv, here_slice, here_bin, here_nil, and_here, true_and, Nat.zero_add, Nat.add_assoc, Nat.add_zero, Int.toNat_natCast, size_alloc, World.cell?_drew, World.frozen?_drew, Bool.not_true, Bool.not_false, Int.toNat_zero, dec_t, dec_f, int_eq_t, int_eq_f, int_ne_t, int_ne_f, wrap_in, kblss3, kld9, kbadd3, klen26, hlen26, kia26, kfa39_0, kfa39_1, kld2, kbgeq3, kblss9, kbeql9, kbgeq2, kbd39_0_1, kal39, kst39f, kbs26_0, ksl26_010z, ksl26_010, kbadd2, kst2, kld39, kbs26_1_0, ksl26_100z, ksl26_100]
        exact ⟨rfl, rfl⟩
      rintro _ _ w5 ⟨rfl, hw5⟩
      have hx5 : w5.heap[w'.heap.size]? = some (.cells #[.string p, .int .i64 (getN ([] : LM) p + 1)] 39 (0, 0)) := by rw [hw5, hx4, hg0]; rfl
      have k45 : Chg (fun k => k = w'.heap.size) w4 w5 := by rw [hw5]; exact Chg.refl _ _
      clear hw5
      have o5 := o4.chg k45 (fun k hk e => fx (by rw [hk, e]))
      have q5 : Qt w' w5 := Qt.then q4 k45 (fun k hk => by omega)
      have cx50 : w5.cell? ⟨w'.heap.size, 0, none⟩ = some (.string p) := by rw [blk_cell hx5]; rfl
      have cx51 : w5.cell? ⟨w'.heap.size, 1, none⟩ = some (.int .i64 (getN ([] : LM) p + 1)) := by rw [blk_cell hx5]; rfl
      generalize hN : getN ([] : LM) p + 1 = N at *
      simp (maxSteps := 1000000) (disch := omega) only [hid1', hid2', guardK_u, takeG_u, wrap_in64, optK_some', fzK_false', nilK_ptr, brK_true', brK_false', guardK_tt', guardK_ff', guardK_tf', guardK_ft', takeG_tt', takeG_ff', takeG_tf', takeG_ft', pickK_t', pickK_f', pickT_t', pickT_f', notK, extract2_0', extract2_1', extract3_0', extract3_1', extract3_2', here_load, here_fieldAt, here_indexAt, here_extract, here_un, here_conv, here_slice, here_bin, here_nil, and_here, true_and, Nat.zero_add, Nat.add_assoc, Nat.add_zero, Int.toNat_natCast, size_alloc, World.cell?_drew, World.frozen?_drew, Bool.not_true, Bool.not_false, Int.toNat_zero, dec_t, dec_f, int_eq_t, int_eq_f, int_ne_t, int_ne_f, wrap_in, kblss3, kld9, kbadd3, klen26, hlen26, kia26, kfa39_0, kfa39_1, kld2, kbgeq3, kblss9, kbeql9, kbgeq2, kbd39_0_1, kal39, kst39f, kbs26_0, ksl26_010z, ksl26_010, kbadd2, kst2, kld39, kbs26_1_0, ksl26_100z, ksl26_100, cx50, cx51]
      have qa : Qt w5 (w5.alloc (.cells #[.string p, .int .i64 N] 39)) := Chg.alloc Qt.refl _
      obtain ⟨A6, c6, F6, w6, p6, o6, k6, f6⟩ := app_run (P := Tryd.prog) tyL (o5.chg qa (fun _ _ h => h)) (some ⟨w5.heap.size, 0, none⟩) 1 1 [.string p, .int .i64 N] rfl (src_new2 w5 [.string p, .int .i64 N] 39) (fun u hu => by simp at hu; rcases hu with rfl | rfl <;> rfl) (by omega) (by omega) 26
      refine appK p6 ?_
      have q6 : Qt w' w6 := Qt.then (q5.trans qa) k6 (fun k hk => by have := f4 k hk; rw [size_alloc] at this; omega)
      have hx6 : w6.heap[w'.heap.size]? = some (.cells #[.string p, .int .i64 N] 39 (0, 0)) := k6.heap (qa.heap hx5 (fun h => h)) (fun e => fx e)
      have cx6 : w6.cell? ⟨w'.heap.size, 1, none⟩ = some (.int .i64 N) := by rw [blk_cell hx6]; rfl
      have hF6 : ∀ k, F6 = some k → w'.heap.size < k := fun k hk => by
        rcases f6 k hk with h | h
        · have := f4 k h; rw [size_alloc] at this; omega
        · have := q5.size; have := blk_lt hx5; rw [size_alloc] at h; omega
      have o6' := o6.chg (S := fun _ => False) (Qt.drew Qt.refl) (fun _ _ h => h)
      have r6 := (r1.quiet q6).quiet (Qt.drew Qt.refl)
      simp (maxSteps := 1000000) (disch := omega) only [hid1', hid2', guardK_u, takeG_u, wrap_in64, optK_some', fzK_false', nilK_ptr, brK_true', brK_false', guardK_tt', guardK_ff', guardK_tf', guardK_ft', takeG_tt', takeG_ff', takeG_tf', takeG_ft', pickK_t', pickK_f', pickT_t', pickT_f', notK, extract2_0', extract2_1', extract3_0', extract3_1', extract3_2', here_load, here_fieldAt, here_indexAt, here_extract, here_un, here_conv, here_slice, here_bin, here_nil, and_here, true_and, Nat.zero_add, Nat.add_assoc, Nat.add_zero, Int.toNat_natCast, size_alloc, World.cell?_drew, World.frozen?_drew, Bool.not_true, Bool.not_false, Int.toNat_zero, dec_t, dec_f, int_eq_t, int_eq_f, int_ne_t, int_ne_f, wrap_in, kblss3, kld9, kbadd3, klen26, hlen26, kia26, kfa39_0, kfa39_1, kld2, kbgeq3, kblss9, kbeql9, kbgeq2, kbd39_0_1, kal39, kst39f, kbs26_0, ksl26_010z, ksl26_010, kbadd2, kst2, kld39, kbs26_1_0, ksl26_100z, ksl26_100]
      refine drawK_by (fun w'' => w''.cell? ⟨w'.heap.size, 1, none⟩ = some (.int .i64 N)) cx6 ?_
      refine take_slice (.slice none 0 0) (fun w'' _ => sl_n _ _ ⟨rfl, rfl⟩) ?_
      refine take_field (.pointer (some ⟨w'.heap.size, 1, none⟩)) (fun w'' _ => by (simp (maxSteps := 1000000) (disch := omega) only [hid1', hid2', guardK_u, takeG_u, wrap_in64, optK_some', fzK_false', nilK_ptr, brK_true', brK_false', guardK_tt', guardK_ff', guardK_tf', guardK_ft', takeG_tt', takeG_ff', takeG_tf', takeG_ft', pickK_t', pickK_f', pickT_t', pickT_f', notK, extract2_0', extract2_1', extract3_0', extract3_1', extract3_2', here_load, here_fieldAt, here_indexAt, here_extract, here_un, here_conv, here_slice, here_bin, here_nil, and_here, true_and, Nat.zero_add, Nat.add_assoc, Nat.add_zero, Int.toNat_natCast, size_alloc, World.cell?_drew, World.frozen?_drew, Bool.not_true, Bool.not_false, Int.toNat_zero, dec_t, dec_f, int_eq_t, int_eq_f, int_ne_t, int_ne_f, wrap_in, kblss3, kld9, kbadd3, klen26, hlen26, kia26, kfa39_0, kfa39_1, kld2, kbgeq3, kblss9, kbeql9, kbgeq2, kbd39_0_1, kal39, kst39f, kbs26_0, ksl26_010z, ksl26_010, kbadd2, kst2, kld39, kbs26_1_0, ksl26_100z, ksl26_100]; try (exact ⟨trivial, trivial⟩))) ?_
      refine take_load (.int .i64 N) (fun w'' hw => by (simp (maxSteps := 1000000) (disch := omega) only [hid1', hid2', guardK_u, takeG_u, wrap_in64, optK_some', fzK_false', nilK_ptr, brK_true', brK_false', guardK_tt', guardK_ff', guardK_tf', guardK_ft', takeG_tt', takeG_ff', takeG_tf', takeG_ft', pickK_t', pickK_f', pickT_t', pickT_f', notK, extract2_0', extract2_1', extract3_0', extract3_1', extract3_2', here_load, here_fieldAt, here_indexAt, here_extract, here_un, here_conv, here_slice, here_bin, here_nil, and_here, true_and, Nat.zero_add, Nat.add_assoc, Nat.add_zero, Int.toNat_natCast, size_alloc, World.cell?_drew, World.frozen?_drew, Bool.not_true, Bool.not_false, Int.toNat_zero, dec_t, dec_f, int_eq_t, int_eq_f, int_ne_t, int_ne_f, wrap_in, kblss3, kld9, kbadd3, klen26, hlen26, kia26, kfa39_0, kfa39_1, kld2, kbgeq3, kblss9, kbeql9, kbgeq2, kbd39_0_1, kal39, kst39f, kbs26_0, ksl26_010z, ksl26_010, kbadd2, kst2, kld39, kbs26_1_0, ksl26_100z, ksl26_100, hw]; try (exact ⟨trivial, trivial⟩))) ?_
      obtain ⟨A7, c7, F7, w7, p7, o7, k7, f7⟩ := app_run (P := Tryd.prog) tyL o6' none 0 0 ((([] : LM).drop 0).flatMap SI.cell2) (by rfl) (by rw [List.drop_eq_nil_of_le (by omega)]; exact Src.nil _ _) (SI.one2 _) (by omega) (by omega) 26
      refine ⟨appK p7 ?_, trivial⟩
      have cx7 : w7.cell? ⟨w'.heap.size, 1, none⟩ = some (.int .i64 N) := k7.cell cx6 (fun e => by have := hF6 _ e; simp at this)
      simp (maxSteps := 1000000) (disch := omega) only [hid1', hid2', guardK_u, takeG_u, wrap_in64, optK_some', fzK_false', nilK_ptr, brK_true', brK_false', guardK_tt', guardK_ff', guardK_tf', guardK_ft', takeG_tt', takeG_ff', takeG_tf', takeG_ft', pickK_t', pickK_f', pickT_t', pickT_f', notK, extract2_0', extract2_1', extract3_0', extract3_1', extract3_2', here_load, here_fieldAt, here_indexAt, here_extract, here_un, here_conv, here_slice, here_bin, here_nil, and_here, true_and, Nat.zero_add, Nat.add_assoc, Nat.add_zero, Int.toNat_natCast, size_alloc, World.cell?_drew, World.frozen?_drew, Bool.not_true, Bool.not_false, Int.toNat_zero, dec_t, dec_f, int_eq_t, int_eq_f, int_ne_t, int_ne_f, wrap_in, kblss3, kld9, kbadd3, klen26, hlen26, kia26, kfa39_0, kfa39_1, kld2, kbgeq3, kblss9, kbeql9, kbgeq2, kbd39_0_1, kal39, kst39f, kbs26_0, ksl26_010z, ksl26_010, kbadd2, kst2, kld39, kbs26_1_0, ksl26_100z, ksl26_100]
      refine ⟨cx7, ?_⟩
      have q7 : Qt w' w7 := Qt.then (q6.trans (Qt.drew Qt.refl)) k7 (fun k hk => by have := hF6 k hk; omega)
      have er : (([] : LM).take 0).flatMap SI.cell2 ++ [.string p, .int .i64 N] ++ (([] : LM).drop 0).flatMap SI.cell2 = (putM SI.lt ([] : LM) p N).flatMap SI.cell2 := by
        rw [put_split, hpos, hf, if_neg (by decide), List.flatMap_append, List.flatMap_append]; rfl
      have el : (putM SI.lt ([] : LM) p N).length = 0 + 1 + 0 := by rw [put_split]; simp
      rw [er, ← el] at o7
      rw [show (1 : Nat) = (putM SI.lt [] p N).length by rw [el]]
      have sh7 := o7.shape
      refine hK A7 c7 w7 (SI_reads2 o7) ?_ ?_ (q1.trans q7) ?_
      · show (putM SI.lt ([] : LM) p N).length ≤ c7
        obtain ⟨_, _, e, h, _⟩ := sh7
        injection e with _ _ e
        omega
      · rcases o7 with ⟨e2, _⟩ | ⟨g7, _, e2, _⟩
        · injection e2 with e2 _ e3; exact .inl ⟨e2, e3⟩
        · injection e2 with e2; exact .inr ⟨g7, 0, e2⟩
      · intro ad had
        have hsq := (q6.trans (Qt.drew Qt.refl)).size
        have hs1 := q1.size
        right
        rcases o7 with ⟨e2, _⟩ | ⟨g7, _, e2, hF7, _⟩
        · injection e2 with e2; rw [e2] at had; cases had
        · injection e2 with e2; rw [e2] at had; cases had
          show w.heap.size ≤ g7
          rcases f7 _ hF7 with h | h
          · have := hF6 _ h; omega
          · rw [h]; omega
    · simp (maxSteps := 1000000) (disch := omega) only [hid1', hid2', guardK_u, takeG_u, wrap_in64, optK_some', fzK_false', nilK_ptr, brK_true', brK_false', guardK_tt', guardK_ff', guardK_tf', guardK_ft', takeG_tt', takeG_ff', takeG_tf', takeG_ft', pickK_t', pickK_f', pickT_t', pickT_f', notK, extract2_0', extract2_1', extract3_0', extract3_1', extract3_2', here_load, here_fieldAt, here_indexAt, here_extract, here_un, here_conv, here_slice, here_bin, here_nil, and_here, true_and, Nat.zero_add, Nat.add_assoc, Nat.add_zero, Int.toNat_natCast, size_alloc, World.cell?_drew, World.frozen?_drew, Bool.not_true, Bool.not_false, Int.toNat_zero, dec_t, dec_f, int_eq_t, int_eq_f, int_ne_t, int_ne_f, wrap_in, kblss3, kld9, kbadd3, klen26, hlen26, kia26, kfa39_0, kfa39_1, kld2, kbgeq3, kblss9, kbeql9, kbgeq2, kbd39_0_1, kal39, kst39f, kbs26_0, ksl26_010z, ksl26_010, kbadd2, kst2, kld39, kbs26_1_0, ksl26_100z, ksl26_100, guardK_u]
      obtain ⟨A4, c4, F4, w4, p4, o4, k4, f4⟩ := apart_run (P := Tryd.prog) (w := w'.alloc (.cells #[.string p, .int .i64 1] 39)) tyL (some ⟨g, o, none⟩) i c ((m.take i).flatMap SI.cell2) (by rw [lm_len, List.length_take]; omega) (reads_take2 (r1.quiet (Chg.alloc Qt.refl _)) i hi) (SI.one2 _) (by omega) (by omega) 26
      rw [size_alloc] at p4; refine appK p4 ?_
      have hx4 : w4.heap[w'.heap.size]? = some (.cells #[.string p, .int .i64 1] 39 (0, 0)) := k4.heap (blk_new _ _) (fun h => h)
      have q4 : Qt w' w4 := (Chg.alloc Qt.refl _).trans k4
      have fx : F4 ≠ some w'.heap.size := fun e => by have := f4 _ e; rw [size_alloc] at this; omega
      have cx1 : w4.cell? ⟨w'.heap.size, 1, none⟩ = some (.int .i64 1) := by rw [blk_cell hx4]; rfl
      have zx1 := blk_frozen hx4 1
      refine cutK1 (fun v w5 => v = .int .i64 (i : Int) ∧ w5 = w4) ?_ ?_
      · simp (maxSteps := 1000000) (disch := omega) only [hid1', hid2', guardK_u, takeG_u, wrap_in64, optK_some', fzK_false', nilK_ptr, brK_true', brK_false', guardK_tt', guardK_ff', guardK_tf', guardK_ft', takeG_tt', takeG_ff', takeG_tf', takeG_ft', pickK_t', pickK_f', pickT_t', pickT_f', notK, extract2_0', extract2_1', extract3_0', extract3_1', extract3_2', here_load, here_fieldAt, here_indexAt, here_extract, here_un, here_conv, here_slice, here_bin, here_nil, and_here, true_and, Nat.zero_add, Nat.add_assoc, Nat.add_zero, Int.toNat_natCast, size_alloc, World.cell?_drew, World.frozen?_drew, Bool.not_true, Bool.not_false, Int.toNat_zero, dec_t, dec_f, int_eq_t, int_eq_f, int_ne_t, int_ne_f, wrap_in, kblss3, kld9, kbadd3, klen26, hlen26, kia26, kfa39_0, kfa39_1, kld2, kbgeq3, kblss9, kbeql9, kbgeq2, kbd39_0_1, kal39, kst39f, kbs26_0, ksl26_010z, ksl26_010, kbadd2, kst2, kld39, kbs26_1_0, ksl26_100z, ksl26_100]
        exact ⟨rfl, rfl⟩
      rintro _ _ w5 ⟨rfl, hw5⟩
      have hx5 : w5.heap[w'.heap.size]? = some (.cells #[.string p, .int .i64 (getN m p + 1)] 39 (0, 0)) := by rw [hw5, hx4, hg0]; rfl
      have k45 : Chg (fun k => k = w'.heap.size) w4 w5 := by rw [hw5]; exact Chg.refl _ _
      clear hw5
      have o5 := o4.chg k45 (fun k hk e => fx (by rw [hk, e]))
      have q5 : Qt w' w5 := Qt.then q4 k45 (fun k hk => by omega)
      have cx50 : w5.cell? ⟨w'.heap.size, 0, none⟩ = some (.string p) := by rw [blk_cell hx5]; rfl
      have cx51 : w5.cell? ⟨w'.heap.size, 1, none⟩ = some (.int .i64 (getN m p + 1)) := by rw [blk_cell hx5]; rfl
      generalize hN : getN m p + 1 = N at *
      simp (maxSteps := 1000000) (disch := omega) only [hid1', hid2', guardK_u, takeG_u, wrap_in64, optK_some', fzK_false', nilK_ptr, brK_true', brK_false', guardK_tt', guardK_ff', guardK_tf', guardK_ft', takeG_tt', takeG_ff', takeG_tf', takeG_ft', pickK_t', pickK_f', pickT_t', pickT_f', notK, extract2_0', extract2_1', extract3_0', extract3_1', extract3_2', here_load, here_fieldAt, here_indexAt, here_extract, here_un, here_conv, here_slice, here_bin, here_nil, and_here, true_and, Nat.zero_add, Nat.add_assoc, Nat.add_zero, Int.toNat_natCast, size_alloc, World.cell?_drew, World.frozen?_drew, Bool.not_true, Bool.not_false, Int.toNat_zero, dec_t, dec_f, int_eq_t, int_eq_f, int_ne_t, int_ne_f, wrap_in, kblss3, kld9, kbadd3, klen26, hlen26, kia26, kfa39_0, kfa39_1, kld2, kbgeq3, kblss9, kbeql9, kbgeq2, kbd39_0_1, kal39, kst39f, kbs26_0, ksl26_010z, ksl26_010, kbadd2, kst2, kld39, kbs26_1_0, ksl26_100z, ksl26_100, cx50, cx51]
      have qa : Qt w5 (w5.alloc (.cells #[.string p, .int .i64 N] 39)) := Chg.alloc Qt.refl _
      obtain ⟨A6, c6, F6, w6, p6, o6, k6, f6⟩ := app_run (P := Tryd.prog) tyL (o5.chg qa (fun _ _ h => h)) (some ⟨w5.heap.size, 0, none⟩) 1 1 [.string p, .int .i64 N] rfl (src_new2 w5 [.string p, .int .i64 N] 39) (fun u hu => by simp at hu; rcases hu with rfl | rfl <;> rfl) (by omega) (by omega) 26
      refine appK p6 ?_
      have q6 : Qt w' w6 := Qt.then (q5.trans qa) k6 (fun k hk => by have := f4 k hk; rw [size_alloc] at this; omega)
      have hx6 : w6.heap[w'.heap.size]? = some (.cells #[.string p, .int .i64 N] 39 (0, 0)) := k6.heap (qa.heap hx5 (fun h => h)) (fun e => fx e)
      have cx6 : w6.cell? ⟨w'.heap.size, 1, none⟩ = some (.int .i64 N) := by rw [blk_cell hx6]; rfl
      have hF6 : ∀ k, F6 = some k → w'.heap.size < k := fun k hk => by
        rcases f6 k hk with h | h
        · have := f4 k h; rw [size_alloc] at this; omega
        · have := q5.size; have := blk_lt hx5; rw [size_alloc] at h; omega
      have o6' := o6.chg (S := fun _ => False) (Qt.drew Qt.refl) (fun _ _ h => h)
      have r6 := (r1.quiet q6).quiet (Qt.drew Qt.refl)
      simp (maxSteps := 1000000) (disch := omega) only [hid1', hid2', guardK_u, takeG_u, wrap_in64, optK_some', fzK_false', nilK_ptr, brK_true', brK_false', guardK_tt', guardK_ff', guardK_tf', guardK_ft', takeG_tt', takeG_ff', takeG_tf', takeG_ft', pickK_t', pickK_f', pickT_t', pickT_f', notK, extract2_0', extract2_1', extract3_0', extract3_1', extract3_2', here_load, here_fieldAt, here_indexAt, here_extract, here_un, here_conv, here_slice, here_bin, here_nil, and_here, true_and, Nat.zero_add, Nat.add_assoc, Nat.add_zero, Int.toNat_natCast, size_alloc, World.cell?_drew, World.frozen?_drew, Bool.not_true, Bool.not_false, Int.toNat_zero, dec_t, dec_f, int_eq_t, int_eq_f, int_ne_t, int_ne_f, wrap_in, kblss3, kld9, kbadd3, klen26, hlen26, kia26, kfa39_0, kfa39_1, kld2, kbgeq3, kblss9, kbeql9, kbgeq2, kbd39_0_1, kal39, kst39f, kbs26_0, ksl26_010z, ksl26_010, kbadd2, kst2, kld39, kbs26_1_0, ksl26_100z, ksl26_100]
      refine drawK_by (fun w'' => w''.cell? ⟨w'.heap.size, 1, none⟩ = some (.int .i64 N)) cx6 ?_
      have hT : (((i : Int) : Int)).toNat = i := by omega
      refine take_slice (.slice (if c = i then some ⟨g, o, none⟩ else some ⟨g, o + i * 2, none⟩) (m.length - i) (c - i)) (fun w'' _ => by (simp (maxSteps := 1000000) (disch := omega) only [hid1', hid2', guardK_u, takeG_u, wrap_in64, optK_some', fzK_false', nilK_ptr, brK_true', brK_false', guardK_tt', guardK_ff', guardK_tf', guardK_ft', takeG_tt', takeG_ff', takeG_tf', takeG_ft', pickK_t', pickK_f', pickT_t', pickT_f', notK, extract2_0', extract2_1', extract3_0', extract3_1', extract3_2', here_load, here_fieldAt, here_indexAt, here_extract, here_un, here_conv, here_slice, here_bin, here_nil, and_here, true_and, Nat.zero_add, Nat.add_assoc, Nat.add_zero, Int.toNat_natCast, size_alloc, World.cell?_drew, World.frozen?_drew, Bool.not_true, Bool.not_false, Int.toNat_zero, dec_t, dec_f, int_eq_t, int_eq_f, int_ne_t, int_ne_f, wrap_in, kblss3, kld9, kbadd3, klen26, hlen26, kia26, kfa39_0, kfa39_1, kld2, kbgeq3, kblss9, kbeql9, kbgeq2, kbd39_0_1, kal39, kst39f, kbs26_0, ksl26_010z, ksl26_010, kbadd2, kst2, kld39, kbs26_1_0, ksl26_100z, ksl26_100, hT]; try (exact ⟨trivial, trivial⟩))) ?_
      refine take_field (.pointer (some ⟨w'.heap.size, 1, none⟩)) (fun w'' _ => by (simp (maxSteps := 1000000) (disch := omega) only [hid1', hid2', guardK_u, takeG_u, wrap_in64, optK_some', fzK_false', nilK_ptr, brK_true', brK_false', guardK_tt', guardK_ff', guardK_tf', guardK_ft', takeG_tt', takeG_ff', takeG_tf', takeG_ft', pickK_t', pickK_f', pickT_t', pickT_f', notK, extract2_0', extract2_1', extract3_0', extract3_1', extract3_2', here_load, here_fieldAt, here_indexAt, here_extract, here_un, here_conv, here_slice, here_bin, here_nil, and_here, true_and, Nat.zero_add, Nat.add_assoc, Nat.add_zero, Int.toNat_natCast, size_alloc, World.cell?_drew, World.frozen?_drew, Bool.not_true, Bool.not_false, Int.toNat_zero, dec_t, dec_f, int_eq_t, int_eq_f, int_ne_t, int_ne_f, wrap_in, kblss3, kld9, kbadd3, klen26, hlen26, kia26, kfa39_0, kfa39_1, kld2, kbgeq3, kblss9, kbeql9, kbgeq2, kbd39_0_1, kal39, kst39f, kbs26_0, ksl26_010z, ksl26_010, kbadd2, kst2, kld39, kbs26_1_0, ksl26_100z, ksl26_100]; try (exact ⟨trivial, trivial⟩))) ?_
      refine take_load (.int .i64 N) (fun w'' hw => by (simp (maxSteps := 1000000) (disch := omega) only [hid1', hid2', guardK_u, takeG_u, wrap_in64, optK_some', fzK_false', nilK_ptr, brK_true', brK_false', guardK_tt', guardK_ff', guardK_tf', guardK_ft', takeG_tt', takeG_ff', takeG_tf', takeG_ft', pickK_t', pickK_f', pickT_t', pickT_f', notK, extract2_0', extract2_1', extract3_0', extract3_1', extract3_2', here_load, here_fieldAt, here_indexAt, here_extract, here_un, here_conv, here_slice, here_bin, here_nil, and_here, true_and, Nat.zero_add, Nat.add_assoc, Nat.add_zero, Int.toNat_natCast, size_alloc, World.cell?_drew, World.frozen?_drew, Bool.not_true, Bool.not_false, Int.toNat_zero, dec_t, dec_f, int_eq_t, int_eq_f, int_ne_t, int_ne_f, wrap_in, kblss3, kld9, kbadd3, klen26, hlen26, kia26, kfa39_0, kfa39_1, kld2, kbgeq3, kblss9, kbeql9, kbgeq2, kbd39_0_1, kal39, kst39f, kbs26_0, ksl26_010z, ksl26_010, kbadd2, kst2, kld39, kbs26_1_0, ksl26_100z, ksl26_100, hw]; try (exact ⟨trivial, trivial⟩))) ?_
      obtain ⟨A7, c7, F7, w7, p7, o7, k7, f7⟩ := app_run (P := Tryd.prog) tyL o6' (if c = i then some ⟨g, o, none⟩ else some ⟨g, o + i * 2, none⟩) (m.length - i) (c - i) ((m.drop i).flatMap SI.cell2) (by rw [lm_len, List.length_drop]) (reads_drop2 (n := 0) r6 hc i (by omega)) (SI.one2 _) (by omega) (by omega) 26
      refine ⟨appK p7 ?_, trivial⟩
      have cx7 : w7.cell? ⟨w'.heap.size, 1, none⟩ = some (.int .i64 N) := k7.cell cx6 (fun e => by have := hF6 _ e; simp at this)
      simp (maxSteps := 1000000) (disch := omega) only [hid1', hid2', guardK_u, takeG_u, wrap_in64, optK_some', fzK_false', nilK_ptr, brK_true', brK_false', guardK_tt', guardK_ff', guardK_tf', guardK_ft', takeG_tt', takeG_ff', takeG_tf', takeG_ft', pickK_t', pickK_f', pickT_t', pickT_f', notK, extract2_0', extract2_1', extract3_0', extract3_1', extract3_2', here_load, here_fieldAt, here_indexAt, here_extract, here_un, here_conv, here_slice, here_bin, here_nil, and_here, true_and, Nat.zero_add, Nat.add_assoc, Nat.add_zero, Int.toNat_natCast, size_alloc, World.cell?_drew, World.frozen?_drew, Bool.not_true, Bool.not_false, Int.toNat_zero, dec_t, dec_f, int_eq_t, int_eq_f, int_ne_t, int_ne_f, wrap_in, kblss3, kld9, kbadd3, klen26, hlen26, kia26, kfa39_0, kfa39_1, kld2, kbgeq3, kblss9, kbeql9, kbgeq2, kbd39_0_1, kal39, kst39f, kbs26_0, ksl26_010z, ksl26_010, kbadd2, kst2, kld39, kbs26_1_0, ksl26_100z, ksl26_100]
      refine ⟨cx7, ?_⟩
      have q7 : Qt w' w7 := Qt.then (q6.trans (Qt.drew Qt.refl)) k7 (fun k hk => by have := hF6 k hk; omega)
      have er : (m.take i).flatMap SI.cell2 ++ [.string p, .int .i64 N] ++ (m.drop i).flatMap SI.cell2 = (putM SI.lt m p N).flatMap SI.cell2 := by
        rw [put_split, hpos, hf, if_neg (by decide), List.flatMap_append, List.flatMap_append]; rfl
      have el : (putM SI.lt m p N).length = i + 1 + (m.length - i) := by
        rw [put_split, hpos, hf, if_neg (by decide), List.length_append, List.length_append, List.length_take, List.length_drop]; simp; omega
      rw [er, ← el] at o7
      rw [show i + (1 + (m.length - i)) = (putM SI.lt m p N).length by omega]
      have sh7 := o7.shape
      refine hK A7 c7 w7 (SI_reads2 o7) ?_ ?_ (q1.trans q7) ?_
      · show (putM SI.lt m p N).length ≤ c7
        obtain ⟨_, _, e, h, _⟩ := sh7
        injection e with _ _ e
        omega
      · rcases o7 with ⟨e2, _⟩ | ⟨g7, _, e2, _⟩
        · injection e2 with e2 _ e3; exact .inl ⟨e2, e3⟩
        · injection e2 with e2; exact .inr ⟨g7, 0, e2⟩
      · intro ad had
        have hsq := (q6.trans (Qt.drew Qt.refl)).size
        have hs1 := q1.size
        right
        rcases o7 with ⟨e2, _⟩ | ⟨g7, _, e2, hF7, _⟩
        · injection e2 with e2; rw [e2] at had; cases had
        · injection e2 with e2; rw [e2] at had; cases had
          show w.heap.size ≤ g7
          rcases f7 _ hF7 with h | h
          · have := hF6 _ h; omega
          · rw [h]; omega
end Go.Proofs.YtpdhmbbmhomlnaaDoor
