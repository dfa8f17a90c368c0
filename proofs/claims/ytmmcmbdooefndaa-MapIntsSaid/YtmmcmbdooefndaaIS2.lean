/- sorted.Map[int64, string], more of its methods. Conditions: at most 100000 keys. -/
import Derived.Test.YtmmcmbdooefndaaIS
set_option linter.unusedVariables false
set_option linter.unusedSimpArgs false
set_option maxRecDepth 100000
namespace Go.Proofs.Ytmmcmbdooefndaa.IS
open Go.RowKit Go.Cn
theorem flat_take (l : List (κ × ν)) : ∀ p, (l.take p).flatMap cell2 = (l.flatMap cell2).take (p * 2) := by
  induction l with
  | nil => intro p; simp
  | cons a l ih =>
    intro p
    cases p with
    | zero => simp
    | succ p =>
      rw [List.take_succ_cons, List.flatMap_cons, List.flatMap_cons, ih, Nat.succ_mul]
      rfl
theorem flat_drop (l : List (κ × ν)) : ∀ p, (l.drop p).flatMap cell2 = (l.flatMap cell2).drop (p * 2) := by
  induction l with
  | nil => intro p; simp
  | cons a l ih =>
    intro p
    cases p with
    | zero => simp
    | succ p =>
      rw [List.drop_succ_cons, List.flatMap_cons, ih, Nat.succ_mul]
      rfl
theorem flat_set (k : κ) (v : ν) : ∀ (l : List (κ × ν)) (p : Nat) (h : p < l.length), l[p].1 = k → (l.set p (k, v)).flatMap cell2 = (l.flatMap cell2).set (p * 2 + 1) (Value.string v)
  | a :: l, 0, h, e => by
    simp only [List.getElem_cons_zero] at e
    subst e
    rfl
  | a :: l, p + 1, h, e => by
    rw [List.set_cons_succ, List.flatMap_cons, List.flatMap_cons, flat_set k v l p (by simpa using h) (by simpa using e), Nat.succ_mul]
    rfl
theorem put_len (l : List (κ × ν)) (k : κ) (v : ν) : (putM lt l k v).length = if fnd lt l k = true then l.length else l.length + 1 := by
  unfold putM
  have := pos_le (lt := lt) l k
  split
  · simp
  · simp; omega
theorem put_any {g : Nat} {l : List (κ × ν)} {F : Option Nat} {k : κ} {v : ν} {w : World} {K : Value → World → Prop} (h : MapAt w g l F) (hl : l.length < 100000)
    (hK : ∀ F' w', MapAt w' g (putM lt l k v) F' → Chg (fun q => q = g ∨ F = some q) w w' → (∀ q, F' = some q → F = some q ∨ w.heap.size ≤ q) → K (.bool (!fnd lt l k)) w') : CallK Try.prog 20 #[.pointer (some ⟨g, 0, none⟩), Value.int .i64 k, Value.string v] K w := by
  refine F20_calls _ _ _ _ _ ?_; unfold F20
  refine ck35 (find_any h ?_)
  intro w1 q1
  have h1 := h.quiet q1
  have hsz1 := q1.size
  have hpl := put_len l k v
  obtain ⟨u, hb, ho, hFg, hs, _⟩ := id h1
  obtain ⟨A, c, rfl, _⟩ := ho.shape
  have c0 : w1.cell? ⟨g, 0, none⟩ = some (.slice A l.length c) := by rw [blk_cell hb]; rfl
  have hlow := h1.low
  have hple := pos_le (lt := lt) l k
  have hput : putM lt l k v = if fnd lt l k = true then l.set (pos lt l k) (k, v) else l.take (pos lt l k) ++ (k, v) :: l.drop (pos lt l k) := rfl
  have hrise := hs.put O k v
  by_cases hf : fnd lt l k = true
  · obtain ⟨hp, hk⟩ := fnd_iff.1 hf
    rw [if_pos hf] at hput hpl
    rcases ho with ⟨_, h0, _⟩ | ⟨gb, cc, hA, rfl, hrow⟩
    · omega
    injection hA with a1 a2 a3
    subst a1 a3
    have hgb : gb ≠ g := fun e => hFg (by rw [e])
    have hcell := hrow.cell (pos lt l k * 2 + 1) (by omega)
    have hxl := hrow.1
    have hex : ∃ y, w1.cell? ⟨gb, pos lt l k * 2 + 1, none⟩ = some y := by
      rw [hcell, List.getElem?_eq_getElem (by omega)]; exact ⟨_, rfl⟩
    obtain ⟨y, hy⟩ := hex
    have hfz := hrow.frozen (pos lt l k * 2 + 1)
    rw [hf] at hK
    simp (maxSteps := 1000000) (disch := omega) only [hid1', hid2', guardK_u, takeG_u, wrap_in64, optK_some', fzK_false', nilK_ptr, brK_true', brK_false', guardK_tt', guardK_ff', guardK_tf', guardK_ft', takeG_tt', takeG_ff', takeG_tf', takeG_ft', pickK_t', pickK_f', pickT_t', pickT_f', notK, extract2_0', extract2_1', extract3_0', extract3_1', extract3_2', here_load, here_fieldAt, here_indexAt, here_extract, here_un, here_conv, here_slice, here_bin, here_nil, and_here, true_and, Nat.zero_add, Nat.add_assoc, Nat.add_zero, Int.toNat_natCast, size_alloc, World.cell?_drew, World.frozen?_drew, Bool.not_true, Bool.not_false, dec_t, dec_f, int_eq_t, int_eq_f, int_ne_t, int_ne_f, wrap_in, klen22, hlen22, kbgtr3, kblss3, kia22, kld29, kal29, kst29f, kfa29_1, kld9, klen9, hlen9, kfa29_0, kld3, kbeql3, kfa29_2, kbneq4, kbs27_0, kia27, kst3, kbs26_0, ksl26_010z, ksl26_010, kbs26_1_0, ksl26_100z, ksl26_100, ksl27_010z, ksl27_010, kbs27_1_0, ksl27_100z, ksl27_100, kbadd3, kbeql24n, klen26, hlen26, kbneq3, kia26, kbneq9, kbgeq3, kbsub3, kbeql4, klen42, hlen42, kia42, kld2, kcv5_3, kbrem3, kbneq2, kbgeq2, kbeql9, kbneq24n, kbd59_, kbx59, kblss9, kfa59_0, kld57, kia57, kfa61_1, kbd61_0_1, kbs57_1_0, kst57, kbd59_0, klen57, hlen57, kld61, kal61, kst61f, kfa61_0, kbd68_, kbx68, kfa68_0, kld66, kia66, kfa71_1, kst9, kbd71_0_1, kbs66_1_0, kst66, kband2, kbadd2, kcv2_5, kbs73_1_0, klen66, hlen66, kld71, kal71, kst71f, kfa71_0, kbs42_1_0, kbd76_, kbx76, kfa76_0, kld74, kia74, kfa78_1, kst4, kbd78_0_1, kbs74_1_0, kst74, klen74, hlen74, kld78, kal78, kst78f, kfa78_0, kld4, ksl57_100z, ksl57_100, kcap57, ksl57_010z, ksl57_010, ksl57_111, ksl57_110, kbeql57n, kbeql57z, kbs57_0, ksl66_100z, ksl66_100, kcap66, ksl66_010z, ksl66_010, ksl74_100z, ksl74_100, kcap74, ksl74_010z, ksl74_010, kcv3_94, kbshr94_i32, kbshr94_i64, kbshr94_u32, kbshr94_u64, kbshr94_u8, kcv94_3, kbx61, kbx71, kblss2, kbgtr2, kbx78, hf, c0, hy, hfz]
    have hflat := flat_set k v l (pos lt l k) hp hk
    have hst := hrow.put (pos lt l k * 2 + 1) [Value.string v] (by omega) l.length hrow.cap_le.1 (Nat.le_refl _) (by have := hrow.cap_le.1; simp only [List.length_cons, List.length_nil]; omega) (by simp only [List.length_cons, List.length_nil]; omega)
    have hse : w1.setCells gb (pos lt l k * 2 + 1) [Value.string v] = w1.setCell ⟨gb, pos lt l k * 2 + 1, none⟩ (Value.string v) := rfl
    rw [hse] at hst
    have hxs : ((l.flatMap cell2).take (pos lt l k * 2 + 1) ++ [Value.string v] ++ (l.flatMap cell2).drop (pos lt l k * 2 + 1 + [Value.string v].length)).take (l.length * 2) = (putM lt l k v).flatMap cell2 := by
      rw [hput, hflat, List.take_of_length_le]
      · rw [List.set_eq_take_append_cons_drop, if_pos (by omega)]; simp
      · simp only [List.length_append, List.length_take, List.length_drop, List.length_cons, List.length_nil]; omega
    rw [hxs] at hst
    have hch : Chg (fun q => q = gb) w1 (w1.setCell ⟨gb, pos lt l k * 2 + 1, none⟩ (Value.string v)) := (Chg.refl (fun q => q = gb) w1).setCell (p := ⟨gb, _, none⟩) (.inl rfl) _
    refine hK (some gb) _ ⟨_, hch.heap hb (fun e => hgb e.symm), ?_, hFg, hrise, by omega⟩ ?_ (fun q hq => .inl hq)
    · rw [hpl]; exact hst.own2
    · exact ((q1.mono (fun _ _ h => h.elim)).trans hch).mono (fun q _ hq => .inr (by rw [hq]))
  · have hfb : fnd lt l k = false := (Bool.not_eq_true _).mp hf
    rw [if_neg hf] at hput hpl
    rw [hfb] at hK
    simp (maxSteps := 1000000) (disch := omega) only [hid1', hid2', guardK_u, takeG_u, wrap_in64, optK_some', fzK_false', nilK_ptr, brK_true', brK_false', guardK_tt', guardK_ff', guardK_tf', guardK_ft', takeG_tt', takeG_ff', takeG_tf', takeG_ft', pickK_t', pickK_f', pickT_t', pickT_f', notK, extract2_0', extract2_1', extract3_0', extract3_1', extract3_2', here_load, here_fieldAt, here_indexAt, here_extract, here_un, here_conv, here_slice, here_bin, here_nil, and_here, true_and, Nat.zero_add, Nat.add_assoc, Nat.add_zero, Int.toNat_natCast, size_alloc, World.cell?_drew, World.frozen?_drew, Bool.not_true, Bool.not_false, dec_t, dec_f, int_eq_t, int_eq_f, int_ne_t, int_ne_f, wrap_in, klen22, hlen22, kbgtr3, kblss3, kia22, kld29, kal29, kst29f, kfa29_1, kld9, klen9, hlen9, kfa29_0, kld3, kbeql3, kfa29_2, kbneq4, kbs27_0, kia27, kst3, kbs26_0, ksl26_010z, ksl26_010, kbs26_1_0, ksl26_100z, ksl26_100, ksl27_010z, ksl27_010, kbs27_1_0, ksl27_100z, ksl27_100, kbadd3, kbeql24n, klen26, hlen26, kbneq3, kia26, kbneq9, kbgeq3, kbsub3, kbeql4, klen42, hlen42, kia42, kld2, kcv5_3, kbrem3, kbneq2, kbgeq2, kbeql9, kbneq24n, kbd59_, kbx59, kblss9, kfa59_0, kld57, kia57, kfa61_1, kbd61_0_1, kbs57_1_0, kst57, kbd59_0, klen57, hlen57, kld61, kal61, kst61f, kfa61_0, kbd68_, kbx68, kfa68_0, kld66, kia66, kfa71_1, kst9, kbd71_0_1, kbs66_1_0, kst66, kband2, kbadd2, kcv2_5, kbs73_1_0, klen66, hlen66, kld71, kal71, kst71f, kfa71_0, kbs42_1_0, kbd76_, kbx76, kfa76_0, kld74, kia74, kfa78_1, kst4, kbd78_0_1, kbs74_1_0, kst74, klen74, hlen74, kld78, kal78, kst78f, kfa78_0, kld4, ksl57_100z, ksl57_100, kcap57, ksl57_010z, ksl57_010, ksl57_111, ksl57_110, kbeql57n, kbeql57z, kbs57_0, ksl66_100z, ksl66_100, kcap66, ksl66_010z, ksl66_010, ksl74_100z, ksl74_100, kcap74, ksl74_010z, ksl74_010, kcv3_94, kbshr94_i32, kbshr94_i64, kbshr94_u32, kbshr94_u64, kbshr94_u8, kcv94_3, kbx61, kbx71, kblss2, kbgtr2, kbx78, hfb, c0]
    refine ck36 (ins_any ho (one2 l) hple (by omega) ?_)
    intro A' c' F' w2 o2 k2 f2
    have hb2 := k2.heap hb (fun e => hFg e)
    have c2 : w2.cell? ⟨g, 0, none⟩ = some (.slice A l.length c) := by rw [blk_cell hb2]; rfl
    have z2 : w2.frozen? ⟨g, 0, none⟩ = false := blk_frozen hb2 0
    simp (maxSteps := 1000000) (disch := omega) only [hid1', hid2', guardK_u, takeG_u, wrap_in64, optK_some', fzK_false', nilK_ptr, brK_true', brK_false', guardK_tt', guardK_ff', guardK_tf', guardK_ft', takeG_tt', takeG_ff', takeG_tf', takeG_ft', pickK_t', pickK_f', pickT_t', pickT_f', notK, extract2_0', extract2_1', extract3_0', extract3_1', extract3_2', here_load, here_fieldAt, here_indexAt, here_extract, here_un, here_conv, here_slice, here_bin, here_nil, and_here, true_and, Nat.zero_add, Nat.add_assoc, Nat.add_zero, Int.toNat_natCast, size_alloc, World.cell?_drew, World.frozen?_drew, Bool.not_true, Bool.not_false, dec_t, dec_f, int_eq_t, int_eq_f, int_ne_t, int_ne_f, wrap_in, klen22, hlen22, kbgtr3, kblss3, kia22, kld29, kal29, kst29f, kfa29_1, kld9, klen9, hlen9, kfa29_0, kld3, kbeql3, kfa29_2, kbneq4, kbs27_0, kia27, kst3, kbs26_0, ksl26_010z, ksl26_010, kbs26_1_0, ksl26_100z, ksl26_100, ksl27_010z, ksl27_010, kbs27_1_0, ksl27_100z, ksl27_100, kbadd3, kbeql24n, klen26, hlen26, kbneq3, kia26, kbneq9, kbgeq3, kbsub3, kbeql4, klen42, hlen42, kia42, kld2, kcv5_3, kbrem3, kbneq2, kbgeq2, kbeql9, kbneq24n, kbd59_, kbx59, kblss9, kfa59_0, kld57, kia57, kfa61_1, kbd61_0_1, kbs57_1_0, kst57, kbd59_0, klen57, hlen57, kld61, kal61, kst61f, kfa61_0, kbd68_, kbx68, kfa68_0, kld66, kia66, kfa71_1, kst9, kbd71_0_1, kbs66_1_0, kst66, kband2, kbadd2, kcv2_5, kbs73_1_0, klen66, hlen66, kld71, kal71, kst71f, kfa71_0, kbs42_1_0, kbd76_, kbx76, kfa76_0, kld74, kia74, kfa78_1, kst4, kbd78_0_1, kbs74_1_0, kst74, klen74, hlen74, kld78, kal78, kst78f, kfa78_0, kld4, ksl57_100z, ksl57_100, kcap57, ksl57_010z, ksl57_010, ksl57_111, ksl57_110, kbeql57n, kbeql57z, kbs57_0, ksl66_100z, ksl66_100, kcap66, ksl66_010z, ksl66_010, ksl74_100z, ksl74_100, kcap74, ksl74_010z, ksl74_010, kcv3_94, kbshr94_i32, kbshr94_i64, kbshr94_u32, kbshr94_u64, kbshr94_u8, kcv94_3, kbx61, kbx71, kblss2, kbgtr2, kbx78, c2, z2]
    have hF'g : F' ≠ some g := fun e => by
      rcases f2 g e with h | h
      · exact hFg h
      · omega
    have hch : Chg (fun q => q = g) w2 (w2.setCell ⟨g, 0, none⟩ (.slice A' (l.length + 1) c')) := (Chg.refl (fun q => q = g) w2).setCell (p := ⟨g, _, none⟩) (.inl rfl) _
    have hxs : (putM lt l k v).flatMap cell2 = (l.flatMap cell2).take (pos lt l k * 2) ++ [Value.int .i64 k, Value.string v] ++ (l.flatMap cell2).drop (pos lt l k * 2) := by
      rw [hput, List.flatMap_append, List.flatMap_cons, flat_take, flat_drop, List.append_assoc]; rfl
    refine hK F' _ ⟨.slice A' (l.length + 1) c', by rw [blk_set hb2]; rfl, ?_, hF'g, hrise, by omega⟩ ?_ (fun q hq => ?_)
    · rw [hpl, hxs]
      exact o2.chg hch (fun q hq e => hF'g (by rw [hq, e]))
    · exact ((q1.mono (fun _ _ h => h.elim)).trans (k2.mono (fun q _ hq => .inr hq))).trans (hch.mono (fun q _ hq => .inl hq))
    · rcases f2 q hq with h | h
      · exact .inl h
      · exact .inr (by omega)
theorem keys_any {g : Nat} {l : List (κ × ν)} {F : Option Nat} {w : World} {K : Value → World → Prop} (h : MapAt w g l F)
    (hK : ∀ A' c' F' w', Own w' 2 1 (.slice A' l.length c') l.length ((l.map Prod.fst).map (Value.int .i64)) F' → Qt w w' → (∀ q, F' = some q → w.heap.size ≤ q) → K (.slice A' l.length c') w') : CallK Try.prog 22 #[.pointer (some ⟨g, 0, none⟩)] K w := by
  refine F22_calls _ _ _ ?_; unfold F22
  obtain ⟨A, c, c0, _, ho, hr, hs, hl⟩ := h.opened
  simp (maxSteps := 1000000) (disch := omega) only [hid1', hid2', guardK_u, takeG_u, wrap_in64, optK_some', fzK_false', nilK_ptr, brK_true', brK_false', guardK_tt', guardK_ff', guardK_tf', guardK_ft', takeG_tt', takeG_ff', takeG_tf', takeG_ft', pickK_t', pickK_f', pickT_t', pickT_f', notK, extract2_0', extract2_1', extract3_0', extract3_1', extract3_2', here_load, here_fieldAt, here_indexAt, here_extract, here_un, here_conv, here_slice, here_bin, here_nil, and_here, true_and, Nat.zero_add, Nat.add_assoc, Nat.add_zero, Int.toNat_natCast, size_alloc, World.cell?_drew, World.frozen?_drew, Bool.not_true, Bool.not_false, dec_t, dec_f, int_eq_t, int_eq_f, int_ne_t, int_ne_f, wrap_in, klen22, hlen22, kbgtr3, kblss3, kia22, kld29, kal29, kst29f, kfa29_1, kld9, klen9, hlen9, kfa29_0, kld3, kbeql3, kfa29_2, kbneq4, kbs27_0, kia27, kst3, kbs26_0, ksl26_010z, ksl26_010, kbs26_1_0, ksl26_100z, ksl26_100, ksl27_010z, ksl27_010, kbs27_1_0, ksl27_100z, ksl27_100, kbadd3, kbeql24n, klen26, hlen26, kbneq3, kia26, kbneq9, kbgeq3, kbsub3, kbeql4, klen42, hlen42, kia42, kld2, kcv5_3, kbrem3, kbneq2, kbgeq2, kbeql9, kbneq24n, kbd59_, kbx59, kblss9, kfa59_0, kld57, kia57, kfa61_1, kbd61_0_1, kbs57_1_0, kst57, kbd59_0, klen57, hlen57, kld61, kal61, kst61f, kfa61_0, kbd68_, kbx68, kfa68_0, kld66, kia66, kfa71_1, kst9, kbd71_0_1, kbs66_1_0, kst66, kband2, kbadd2, kcv2_5, kbs73_1_0, klen66, hlen66, kld71, kal71, kst71f, kfa71_0, kbs42_1_0, kbd76_, kbx76, kfa76_0, kld74, kia74, kfa78_1, kst4, kbd78_0_1, kbs74_1_0, kst74, klen74, hlen74, kld78, kal78, kst78f, kfa78_0, kld4, ksl57_100z, ksl57_100, kcap57, ksl57_010z, ksl57_010, ksl57_111, ksl57_110, kbeql57n, kbeql57z, kbs57_0, ksl66_100z, ksl66_100, kcap66, ksl66_010z, ksl66_010, ksl74_100z, ksl74_100, kcap74, ksl74_010z, ksl74_010, kcv3_94, kbshr94_i32, kbshr94_i64, kbshr94_u32, kbshr94_u64, kbshr94_u8, kcv94_3, kbx61, kbx71, kblss2, kbgtr2, kbx78, c0]
  refine make0K tyK l.length (by omega) (by omega) ?_
  intro w1 o1 q1
  have c1 : w1.cell? ⟨g, 0, none⟩ = some (.slice A l.length c) := q1.cell c0 (fun h => h)
  simp (maxSteps := 1000000) (disch := omega) only [hid1', hid2', guardK_u, takeG_u, wrap_in64, optK_some', fzK_false', nilK_ptr, brK_true', brK_false', guardK_tt', guardK_ff', guardK_tf', guardK_ft', takeG_tt', takeG_ff', takeG_tf', takeG_ft', pickK_t', pickK_f', pickT_t', pickT_f', notK, extract2_0', extract2_1', extract3_0', extract3_1', extract3_2', here_load, here_fieldAt, here_indexAt, here_extract, here_un, here_conv, here_slice, here_bin, here_nil, and_here, true_and, Nat.zero_add, Nat.add_assoc, Nat.add_zero, Int.toNat_natCast, size_alloc, World.cell?_drew, World.frozen?_drew, Bool.not_true, Bool.not_false, dec_t, dec_f, int_eq_t, int_eq_f, int_ne_t, int_ne_f, wrap_in, klen22, hlen22, kbgtr3, kblss3, kia22, kld29, kal29, kst29f, kfa29_1, kld9, klen9, hlen9, kfa29_0, kld3, kbeql3, kfa29_2, kbneq4, kbs27_0, kia27, kst3, kbs26_0, ksl26_010z, ksl26_010, kbs26_1_0, ksl26_100z, ksl26_100, ksl27_010z, ksl27_010, kbs27_1_0, ksl27_100z, ksl27_100, kbadd3, kbeql24n, klen26, hlen26, kbneq3, kia26, kbneq9, kbgeq3, kbsub3, kbeql4, klen42, hlen42, kia42, kld2, kcv5_3, kbrem3, kbneq2, kbgeq2, kbeql9, kbneq24n, kbd59_, kbx59, kblss9, kfa59_0, kld57, kia57, kfa61_1, kbd61_0_1, kbs57_1_0, kst57, kbd59_0, klen57, hlen57, kld61, kal61, kst61f, kfa61_0, kbd68_, kbx68, kfa68_0, kld66, kia66, kfa71_1, kst9, kbd71_0_1, kbs66_1_0, kst66, kband2, kbadd2, kcv2_5, kbs73_1_0, klen66, hlen66, kld71, kal71, kst71f, kfa71_0, kbs42_1_0, kbd76_, kbx76, kfa76_0, kld74, kia74, kfa78_1, kst4, kbd78_0_1, kbs74_1_0, kst74, klen74, hlen74, kld78, kal78, kst78f, kfa78_0, kld4, ksl57_100z, ksl57_100, kcap57, ksl57_010z, ksl57_010, ksl57_111, ksl57_110, kbeql57n, kbeql57z, kbs57_0, ksl66_100z, ksl66_100, kcap66, ksl66_010z, ksl66_010, ksl74_100z, ksl74_100, kcap74, ksl74_010z, ksl74_010, kcv3_94, kbshr94_i32, kbshr94_i64, kbshr94_u32, kbshr94_u64, kbshr94_u8, kcv94_3, kbx61, kbx71, kblss2, kbgtr2, kbx78, c1]
  refine loopK2 (fun o x w' => ∃ (i : Nat) (G : Option Nat), x = .int .i64 i ∧ i ≤ l.length ∧ Own w' 2 1 o i (((l.take i).map Prod.fst).map (Value.int .i64)) G ∧ Qt w w' ∧ (∀ q, G = some q → w.heap.size ≤ q)) (fun _ x _ => l.length - (intOf x).toNat) ⟨0, _, rfl, by omega, by simpa using o1, q1, fun q hq => (by cases hq; exact Nat.le_refl _)⟩ ?_
  rintro _ o _ w' ⟨i, G, rfl, hi, hoo, hq, hG⟩
  by_cases hlt : i < l.length
  · obtain ⟨gb, of, rfl, k0, k1⟩ := cells_at (hr.quiet hq) hlt
    simp (maxSteps := 1000000) (disch := omega) only [hid1', hid2', guardK_u, takeG_u, wrap_in64, optK_some', fzK_false', nilK_ptr, brK_true', brK_false', guardK_tt', guardK_ff', guardK_tf', guardK_ft', takeG_tt', takeG_ff', takeG_tf', takeG_ft', pickK_t', pickK_f', pickT_t', pickT_f', notK, extract2_0', extract2_1', extract3_0', extract3_1', extract3_2', here_load, here_fieldAt, here_indexAt, here_extract, here_un, here_conv, here_slice, here_bin, here_nil, and_here, true_and, Nat.zero_add, Nat.add_assoc, Nat.add_zero, Int.toNat_natCast, size_alloc, World.cell?_drew, World.frozen?_drew, Bool.not_true, Bool.not_false, dec_t, dec_f, int_eq_t, int_eq_f, int_ne_t, int_ne_f, wrap_in, klen22, hlen22, kbgtr3, kblss3, kia22, kld29, kal29, kst29f, kfa29_1, kld9, klen9, hlen9, kfa29_0, kld3, kbeql3, kfa29_2, kbneq4, kbs27_0, kia27, kst3, kbs26_0, ksl26_010z, ksl26_010, kbs26_1_0, ksl26_100z, ksl26_100, ksl27_010z, ksl27_010, kbs27_1_0, ksl27_100z, ksl27_100, kbadd3, kbeql24n, klen26, hlen26, kbneq3, kia26, kbneq9, kbgeq3, kbsub3, kbeql4, klen42, hlen42, kia42, kld2, kcv5_3, kbrem3, kbneq2, kbgeq2, kbeql9, kbneq24n, kbd59_, kbx59, kblss9, kfa59_0, kld57, kia57, kfa61_1, kbd61_0_1, kbs57_1_0, kst57, kbd59_0, klen57, hlen57, kld61, kal61, kst61f, kfa61_0, kbd68_, kbx68, kfa68_0, kld66, kia66, kfa71_1, kst9, kbd71_0_1, kbs66_1_0, kst66, kband2, kbadd2, kcv2_5, kbs73_1_0, klen66, hlen66, kld71, kal71, kst71f, kfa71_0, kbs42_1_0, kbd76_, kbx76, kfa76_0, kld74, kia74, kfa78_1, kst4, kbd78_0_1, kbs74_1_0, kst74, klen74, hlen74, kld78, kal78, kst78f, kfa78_0, kld4, ksl57_100z, ksl57_100, kcap57, ksl57_010z, ksl57_010, ksl57_111, ksl57_110, kbeql57n, kbeql57z, kbs57_0, ksl66_100z, ksl66_100, kcap66, ksl66_010z, ksl66_010, ksl74_100z, ksl74_100, kcap74, ksl74_010z, ksl74_010, kcv3_94, kbshr94_i32, kbshr94_i64, kbshr94_u32, kbshr94_u64, kbshr94_u8, kcv94_3, kbx61, kbx71, kblss2, kbgtr2, kbx78, k0, k1]
    have cN : (w'.alloc (.cells #[Value.int .i64 l[i].1, Value.string l[i].2] 71)).cell? ⟨w'.heap.size, 0, none⟩ = some (Value.int .i64 l[i].1) := by rw [blk_cell (blk_new _ _)]; rfl
    have hcN : Qt w' (w'.alloc (.cells #[Value.int .i64 l[i].1, Value.string l[i].2] 71)) := Chg.alloc Qt.refl _
    have hsN : (w'.alloc (.cells #[Value.int .i64 l[i].1, Value.string l[i].2] 71)).heap.size = w'.heap.size + 1 := size_alloc _ _
    simp (maxSteps := 1000000) (disch := omega) only [hid1', hid2', guardK_u, takeG_u, wrap_in64, optK_some', fzK_false', nilK_ptr, brK_true', brK_false', guardK_tt', guardK_ff', guardK_tf', guardK_ft', takeG_tt', takeG_ff', takeG_tf', takeG_ft', pickK_t', pickK_f', pickT_t', pickT_f', notK, extract2_0', extract2_1', extract3_0', extract3_1', extract3_2', here_load, here_fieldAt, here_indexAt, here_extract, here_un, here_conv, here_slice, here_bin, here_nil, and_here, true_and, Nat.zero_add, Nat.add_assoc, Nat.add_zero, Int.toNat_natCast, size_alloc, World.cell?_drew, World.frozen?_drew, Bool.not_true, Bool.not_false, dec_t, dec_f, int_eq_t, int_eq_f, int_ne_t, int_ne_f, wrap_in, klen22, hlen22, kbgtr3, kblss3, kia22, kld29, kal29, kst29f, kfa29_1, kld9, klen9, hlen9, kfa29_0, kld3, kbeql3, kfa29_2, kbneq4, kbs27_0, kia27, kst3, kbs26_0, ksl26_010z, ksl26_010, kbs26_1_0, ksl26_100z, ksl26_100, ksl27_010z, ksl27_010, kbs27_1_0, ksl27_100z, ksl27_100, kbadd3, kbeql24n, klen26, hlen26, kbneq3, kia26, kbneq9, kbgeq3, kbsub3, kbeql4, klen42, hlen42, kia42, kld2, kcv5_3, kbrem3, kbneq2, kbgeq2, kbeql9, kbneq24n, kbd59_, kbx59, kblss9, kfa59_0, kld57, kia57, kfa61_1, kbd61_0_1, kbs57_1_0, kst57, kbd59_0, klen57, hlen57, kld61, kal61, kst61f, kfa61_0, kbd68_, kbx68, kfa68_0, kld66, kia66, kfa71_1, kst9, kbd71_0_1, kbs66_1_0, kst66, kband2, kbadd2, kcv2_5, kbs73_1_0, klen66, hlen66, kld71, kal71, kst71f, kfa71_0, kbs42_1_0, kbd76_, kbx76, kfa76_0, kld74, kia74, kfa78_1, kst4, kbd78_0_1, kbs74_1_0, kst74, klen74, hlen74, kld78, kal78, kst78f, kfa78_0, kld4, ksl57_100z, ksl57_100, kcap57, ksl57_010z, ksl57_010, ksl57_111, ksl57_110, kbeql57n, kbeql57z, kbs57_0, ksl66_100z, ksl66_100, kcap66, ksl66_010z, ksl66_010, ksl74_100z, ksl74_100, kcap74, ksl74_010z, ksl74_010, kcv3_94, kbshr94_i32, kbshr94_i64, kbshr94_u32, kbshr94_u64, kbshr94_u8, kcv94_3, kbx61, kbx71, kblss2, kbgtr2, kbx78, cN]
    rw [← hsN]
    have hoo2 := hoo.chg hcN (fun _ _ h => h)
    have hq2 := hq.trans hcN
    generalize (w'.alloc (.cells #[Value.int .i64 l[i].1, Value.string l[i].2] 71)) = w2 at *
    obtain ⟨A2, c2, G2, w3, ha, ho2, hc2, hf2⟩ := append2_run (P := Try.prog) tyK hoo2 [Value.int .i64 l[i].1] rfl (by intro u hu; simp at hu; subst hu; rfl) (by omega) (by omega) 42
    refine appK ha ?_
    simp (maxSteps := 1000000) (disch := omega) only [hid1', hid2', guardK_u, takeG_u, wrap_in64, optK_some', fzK_false', nilK_ptr, brK_true', brK_false', guardK_tt', guardK_ff', guardK_tf', guardK_ft', takeG_tt', takeG_ff', takeG_tf', takeG_ft', pickK_t', pickK_f', pickT_t', pickT_f', notK, extract2_0', extract2_1', extract3_0', extract3_1', extract3_2', here_load, here_fieldAt, here_indexAt, here_extract, here_un, here_conv, here_slice, here_bin, here_nil, and_here, true_and, Nat.zero_add, Nat.add_assoc, Nat.add_zero, Int.toNat_natCast, size_alloc, World.cell?_drew, World.frozen?_drew, Bool.not_true, Bool.not_false, dec_t, dec_f, int_eq_t, int_eq_f, int_ne_t, int_ne_f, wrap_in, klen22, hlen22, kbgtr3, kblss3, kia22, kld29, kal29, kst29f, kfa29_1, kld9, klen9, hlen9, kfa29_0, kld3, kbeql3, kfa29_2, kbneq4, kbs27_0, kia27, kst3, kbs26_0, ksl26_010z, ksl26_010, kbs26_1_0, ksl26_100z, ksl26_100, ksl27_010z, ksl27_010, kbs27_1_0, ksl27_100z, ksl27_100, kbadd3, kbeql24n, klen26, hlen26, kbneq3, kia26, kbneq9, kbgeq3, kbsub3, kbeql4, klen42, hlen42, kia42, kld2, kcv5_3, kbrem3, kbneq2, kbgeq2, kbeql9, kbneq24n, kbd59_, kbx59, kblss9, kfa59_0, kld57, kia57, kfa61_1, kbd61_0_1, kbs57_1_0, kst57, kbd59_0, klen57, hlen57, kld61, kal61, kst61f, kfa61_0, kbd68_, kbx68, kfa68_0, kld66, kia66, kfa71_1, kst9, kbd71_0_1, kbs66_1_0, kst66, kband2, kbadd2, kcv2_5, kbs73_1_0, klen66, hlen66, kld71, kal71, kst71f, kfa71_0, kbs42_1_0, kbd76_, kbx76, kfa76_0, kld74, kia74, kfa78_1, kst4, kbd78_0_1, kbs74_1_0, kst74, klen74, hlen74, kld78, kal78, kst78f, kfa78_0, kld4, ksl57_100z, ksl57_100, kcap57, ksl57_010z, ksl57_010, ksl57_111, ksl57_110, kbeql57n, kbeql57z, kbs57_0, ksl66_100z, ksl66_100, kcap66, ksl66_010z, ksl66_010, ksl74_100z, ksl74_100, kcap74, ksl74_010z, ksl74_010, kcv3_94, kbshr94_i32, kbshr94_i64, kbshr94_u32, kbshr94_u64, kbshr94_u8, kcv94_3, kbx61, kbx71, kblss2, kbgtr2, kbx78]
    refine ⟨⟨i + 1, G2, by go_num, by omega, ?_, Qt.then hq2 hc2 hG, fun q hqq => ?_⟩, by simp [rel, intOf]; omega⟩
    · rw [List.take_succ_eq_append_getElem hlt, List.map_append, List.map_append]; exact ho2
    · rcases hf2 q hqq with h | h
      · exact hG q h
      · have := hq2.size; omega
  · obtain rfl : i = l.length := by omega
    obtain ⟨A2, c2, rfl, _⟩ := hoo.shape
    simp (maxSteps := 1000000) (disch := omega) only [hid1', hid2', guardK_u, takeG_u, wrap_in64, optK_some', fzK_false', nilK_ptr, brK_true', brK_false', guardK_tt', guardK_ff', guardK_tf', guardK_ft', takeG_tt', takeG_ff', takeG_tf', takeG_ft', pickK_t', pickK_f', pickT_t', pickT_f', notK, extract2_0', extract2_1', extract3_0', extract3_1', extract3_2', here_load, here_fieldAt, here_indexAt, here_extract, here_un, here_conv, here_slice, here_bin, here_nil, and_here, true_and, Nat.zero_add, Nat.add_assoc, Nat.add_zero, Int.toNat_natCast, size_alloc, World.cell?_drew, World.frozen?_drew, Bool.not_true, Bool.not_false, dec_t, dec_f, int_eq_t, int_eq_f, int_ne_t, int_ne_f, wrap_in, klen22, hlen22, kbgtr3, kblss3, kia22, kld29, kal29, kst29f, kfa29_1, kld9, klen9, hlen9, kfa29_0, kld3, kbeql3, kfa29_2, kbneq4, kbs27_0, kia27, kst3, kbs26_0, ksl26_010z, ksl26_010, kbs26_1_0, ksl26_100z, ksl26_100, ksl27_010z, ksl27_010, kbs27_1_0, ksl27_100z, ksl27_100, kbadd3, kbeql24n, klen26, hlen26, kbneq3, kia26, kbneq9, kbgeq3, kbsub3, kbeql4, klen42, hlen42, kia42, kld2, kcv5_3, kbrem3, kbneq2, kbgeq2, kbeql9, kbneq24n, kbd59_, kbx59, kblss9, kfa59_0, kld57, kia57, kfa61_1, kbd61_0_1, kbs57_1_0, kst57, kbd59_0, klen57, hlen57, kld61, kal61, kst61f, kfa61_0, kbd68_, kbx68, kfa68_0, kld66, kia66, kfa71_1, kst9, kbd71_0_1, kbs66_1_0, kst66, kband2, kbadd2, kcv2_5, kbs73_1_0, klen66, hlen66, kld71, kal71, kst71f, kfa71_0, kbs42_1_0, kbd76_, kbx76, kfa76_0, kld74, kia74, kfa78_1, kst4, kbd78_0_1, kbs74_1_0, kst74, klen74, hlen74, kld78, kal78, kst78f, kfa78_0, kld4, ksl57_100z, ksl57_100, kcap57, ksl57_010z, ksl57_010, ksl57_111, ksl57_110, kbeql57n, kbeql57z, kbs57_0, ksl66_100z, ksl66_100, kcap66, ksl66_010z, ksl66_010, ksl74_100z, ksl74_100, kcap74, ksl74_010z, ksl74_010, kcv3_94, kbshr94_i32, kbshr94_i64, kbshr94_u32, kbshr94_u64, kbshr94_u8, kcv94_3, kbx61, kbx71, kblss2, kbgtr2, kbx78]
    rw [List.take_length] at hoo
    exact hK A2 c2 G w' hoo hq hG
def getM (l : List (κ × ν)) (k : κ) : ν := if fnd lt l k = true then ((l[pos lt l k]?).map Prod.snd).getD ByteArray.empty else ByteArray.empty
theorem get_any {g : Nat} {l : List (κ × ν)} {F : Option Nat} {k : κ} {w : World} {K : Value → World → Prop} (h : MapAt w g l F)
    (hK : ∀ w', Qt w w' → K (.tuple #[Value.string (getM l k), .bool (fnd lt l k)]) w') : CallK Try.prog 23 #[.pointer (some ⟨g, 0, none⟩), Value.int .i64 k] K w := by
  refine F23_calls _ _ _ _ ?_; unfold F23
  refine ck35 (find_any h ?_)
  intro w1 q1
  have h1 := h.quiet q1
  obtain ⟨A, c, c0, _, ho, hr, hs, hl⟩ := h1.opened
  by_cases hf : fnd lt l k = true
  · have hp := fnd_lt hf
    obtain ⟨gb, of, rfl, k0, k1⟩ := cells_at hr hp
    have hg : getM l k = l[pos lt l k].2 := by unfold getM; rw [if_pos hf, List.getElem?_eq_getElem hp]; rfl
    rw [hg] at hK
    rw [hf] at hK
    simp (maxSteps := 1000000) (disch := omega) only [hid1', hid2', guardK_u, takeG_u, wrap_in64, optK_some', fzK_false', nilK_ptr, brK_true', brK_false', guardK_tt', guardK_ff', guardK_tf', guardK_ft', takeG_tt', takeG_ff', takeG_tf', takeG_ft', pickK_t', pickK_f', pickT_t', pickT_f', notK, extract2_0', extract2_1', extract3_0', extract3_1', extract3_2', here_load, here_fieldAt, here_indexAt, here_extract, here_un, here_conv, here_slice, here_bin, here_nil, and_here, true_and, Nat.zero_add, Nat.add_assoc, Nat.add_zero, Int.toNat_natCast, size_alloc, World.cell?_drew, World.frozen?_drew, Bool.not_true, Bool.not_false, dec_t, dec_f, int_eq_t, int_eq_f, int_ne_t, int_ne_f, wrap_in, klen22, hlen22, kbgtr3, kblss3, kia22, kld29, kal29, kst29f, kfa29_1, kld9, klen9, hlen9, kfa29_0, kld3, kbeql3, kfa29_2, kbneq4, kbs27_0, kia27, kst3, kbs26_0, ksl26_010z, ksl26_010, kbs26_1_0, ksl26_100z, ksl26_100, ksl27_010z, ksl27_010, kbs27_1_0, ksl27_100z, ksl27_100, kbadd3, kbeql24n, klen26, hlen26, kbneq3, kia26, kbneq9, kbgeq3, kbsub3, kbeql4, klen42, hlen42, kia42, kld2, kcv5_3, kbrem3, kbneq2, kbgeq2, kbeql9, kbneq24n, kbd59_, kbx59, kblss9, kfa59_0, kld57, kia57, kfa61_1, kbd61_0_1, kbs57_1_0, kst57, kbd59_0, klen57, hlen57, kld61, kal61, kst61f, kfa61_0, kbd68_, kbx68, kfa68_0, kld66, kia66, kfa71_1, kst9, kbd71_0_1, kbs66_1_0, kst66, kband2, kbadd2, kcv2_5, kbs73_1_0, klen66, hlen66, kld71, kal71, kst71f, kfa71_0, kbs42_1_0, kbd76_, kbx76, kfa76_0, kld74, kia74, kfa78_1, kst4, kbd78_0_1, kbs74_1_0, kst74, klen74, hlen74, kld78, kal78, kst78f, kfa78_0, kld4, ksl57_100z, ksl57_100, kcap57, ksl57_010z, ksl57_010, ksl57_111, ksl57_110, kbeql57n, kbeql57z, kbs57_0, ksl66_100z, ksl66_100, kcap66, ksl66_010z, ksl66_010, ksl74_100z, ksl74_100, kcap74, ksl74_010z, ksl74_010, kcv3_94, kbshr94_i32, kbshr94_i64, kbshr94_u32, kbshr94_u64, kbshr94_u8, kcv94_3, kbx61, kbx71, kblss2, kbgtr2, kbx78, hf, c0, k0, k1]
    exact hK w1 q1
  · have hfb : fnd lt l k = false := (Bool.not_eq_true _).mp hf
    have hg : getM l k = ByteArray.empty := by unfold getM; rw [if_neg hf]
    rw [hg] at hK
    rw [hfb] at hK
    simp (maxSteps := 1000000) (disch := omega) only [hid1', hid2', guardK_u, takeG_u, wrap_in64, optK_some', fzK_false', nilK_ptr, brK_true', brK_false', guardK_tt', guardK_ff', guardK_tf', guardK_ft', takeG_tt', takeG_ff', takeG_tf', takeG_ft', pickK_t', pickK_f', pickT_t', pickT_f', notK, extract2_0', extract2_1', extract3_0', extract3_1', extract3_2', here_load, here_fieldAt, here_indexAt, here_extract, here_un, here_conv, here_slice, here_bin, here_nil, and_here, true_and, Nat.zero_add, Nat.add_assoc, Nat.add_zero, Int.toNat_natCast, size_alloc, World.cell?_drew, World.frozen?_drew, Bool.not_true, Bool.not_false, dec_t, dec_f, int_eq_t, int_eq_f, int_ne_t, int_ne_f, wrap_in, klen22, hlen22, kbgtr3, kblss3, kia22, kld29, kal29, kst29f, kfa29_1, kld9, klen9, hlen9, kfa29_0, kld3, kbeql3, kfa29_2, kbneq4, kbs27_0, kia27, kst3, kbs26_0, ksl26_010z, ksl26_010, kbs26_1_0, ksl26_100z, ksl26_100, ksl27_010z, ksl27_010, kbs27_1_0, ksl27_100z, ksl27_100, kbadd3, kbeql24n, klen26, hlen26, kbneq3, kia26, kbneq9, kbgeq3, kbsub3, kbeql4, klen42, hlen42, kia42, kld2, kcv5_3, kbrem3, kbneq2, kbgeq2, kbeql9, kbneq24n, kbd59_, kbx59, kblss9, kfa59_0, kld57, kia57, kfa61_1, kbd61_0_1, kbs57_1_0, kst57, kbd59_0, klen57, hlen57, kld61, kal61, kst61f, kfa61_0, kbd68_, kbx68, kfa68_0, kld66, kia66, kfa71_1, kst9, kbd71_0_1, kbs66_1_0, kst66, kband2, kbadd2, kcv2_5, kbs73_1_0, klen66, hlen66, kld71, kal71, kst71f, kfa71_0, kbs42_1_0, kbd76_, kbx76, kfa76_0, kld74, kia74, kfa78_1, kst4, kbd78_0_1, kbs74_1_0, kst74, klen74, hlen74, kld78, kal78, kst78f, kfa78_0, kld4, ksl57_100z, ksl57_100, kcap57, ksl57_010z, ksl57_010, ksl57_111, ksl57_110, kbeql57n, kbeql57z, kbs57_0, ksl66_100z, ksl66_100, kcap66, ksl66_010z, ksl66_010, ksl74_100z, ksl74_100, kcap74, ksl74_010z, ksl74_010, kcv3_94, kbshr94_i32, kbshr94_i64, kbshr94_u32, kbshr94_u64, kbshr94_u8, kcv94_3, kbx61, kbx71, kblss2, kbgtr2, kbx78, hfb, c0]
    exact hK w1 q1
end Go.Proofs.Ytmmcmbdooefndaa.IS
