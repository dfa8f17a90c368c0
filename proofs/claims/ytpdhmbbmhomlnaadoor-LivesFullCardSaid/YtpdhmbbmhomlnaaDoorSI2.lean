/- sorted.Map[string, int64], more of its methods. Conditions: at most 100000 keys. -/
import Derived.Test.YtpdhmbbmhomlnaaDoorSI
set_option linter.unusedVariables false
set_option linter.unusedSimpArgs false
set_option maxRecDepth 100000
namespace Go.Proofs.YtpdhmbbmhomlnaaDoor.SI
open Go.RowKit Go.Cn
theorem flat_take (l : List (κ × ν)) : ∀ p, (l.take p).flatMap cell2 = (l.flatMap cell2).take (p * 2) := by
  induction l with
  | nil => intro p; simp
  | cons a l ih =>
    intro p
    cases p with
    | zero => simp
    | succ p =>
      rw [List.take_succ_cons, List.flatMap_cons, List.flatMap_cons, ih, Nat.succ_mul]
      rfl
theorem flat_drop (l : List (κ × ν)) : ∀ p, (l.drop p).flatMap cell2 = (l.flatMap cell2).drop (p * 2) := by
  induction l with
  | nil => intro p; simp
  | cons a l ih =>
    intro p
    cases p with
    | zero => simp
    | succ p =>
      rw [List.drop_succ_cons, List.flatMap_cons, ih, Nat.succ_mul]
      rfl
theorem flat_set (k : κ) (v : ν) : ∀ (l : List (κ × ν)) (p : Nat) (h : p < l.length), l[p].1 = k → (l.set p (k, v)).flatMap cell2 = (l.flatMap cell2).set (p * 2 + 1) (Value.int .i64 v)
  | a :: l, 0, h, e => by
    simp only [List.getElem_cons_zero] at e
    subst e
    rfl
  | a :: l, p + 1, h, e => by
    rw [List.set_cons_succ, List.flatMap_cons, List.flatMap_cons, flat_set k v l p (by simpa using h) (by simpa using e), Nat.succ_mul]
    rfl
theorem put_len (l : List (κ × ν)) (k : κ) (v : ν) : (putM lt l k v).length = if fnd lt l k = true then l.length else l.length + 1 := by
  unfold putM
  have := pos_le (lt := lt) l k
  split
  · simp
  · simp; omega
theorem put_any {g : Nat} {l : List (κ × ν)} {F : Option Nat} {k : κ} {v : ν} {w : World} {K : Value → World → Prop} (h : MapAt w g l F) (hl : l.length < 100000)
    (hK : ∀ F' w', MapAt w' g (putM lt l k v) F' → Chg (fun q => q = g ∨ F = some q) w w' → (∀ q, F' = some q → F = some q ∨ w.heap.size ≤ q) → K (.bool (!fnd lt l k)) w') : CallK Tryd.prog 23 #[.pointer (some ⟨g, 0, none⟩), Value.string k, Value.int .i64 v] K w := by
  refine F23_calls _ _ _ _ _ ?_; unfold F23
  refine ck41 (find_any h ?_)
  intro w1 q1
  have h1 := h.quiet q1
  have hsz1 := q1.size
  have hpl := put_len l k v
  obtain ⟨u, hb, ho, hFg, hs, _⟩ := id h1
  obtain ⟨A, c, rfl, _⟩ := ho.shape
  have c0 : w1.cell? ⟨g, 0, none⟩ = some (.slice A l.length c) := by rw [blk_cell hb]; rfl
  have hlow := h1.low
  have hple := pos_le (lt := lt) l k
  have hput : putM lt l k v = if fnd lt l k = true then l.set (pos lt l k) (k, v) else l.take (pos lt l k) ++ (k, v) :: l.drop (pos lt l k) := rfl
  have hrise := hs.put O k v
  by_cases hf : fnd lt l k = true
  · obtain ⟨hp, hk⟩ := fnd_iff.1 hf
    rw [if_pos hf] at hput hpl
    rcases ho with ⟨_, h0, _⟩ | ⟨gb, cc, hA, rfl, hrow⟩
    · omega
    injection hA with a1 a2 a3
    subst a1 a3
    have hgb : gb ≠ g := fun e => hFg (by rw [e])
    have hcell := hrow.cell (pos lt l k * 2 + 1) (by omega)
    have hxl := hrow.1
    have hex : ∃ y, w1.cell? ⟨gb, pos lt l k * 2 + 1, none⟩ = some y := by
      rw [hcell, List.getElem?_eq_getElem (by omega)]; exact ⟨_, rfl⟩
    obtain ⟨y, hy⟩ := hex
    have hfz := hrow.frozen (pos lt l k * 2 + 1)
    rw [hf] at hK
    simp (maxSteps := 1000000) (disch := omega) only [hid1', hid2', guardK_u, takeG_u, wrap_in64, optK_some', fzK_false', nilK_ptr, brK_true', brK_false', guardK_tt', guardK_ff', guardK_tf', guardK_ft', takeG_tt', takeG_ff', takeG_tf', takeG_ft', pickK_t', pickK_f', pickT_t', pickT_f', notK, extract2_0', extract2_1', extract3_0', extract3_1', extract3_2', here_load, here_fieldAt, here_indexAt, here_extract, here_un, here_conv, here_slice, here_bin, here_nil, and_here, true_and, Nat.zero_add, Nat.add_assoc, Nat.add_zero, Int.toNat_natCast, size_alloc, World.cell?_drew, World.frozen?_drew, Bool.not_true, Bool.not_false, Int.toNat_zero, dec_t, dec_f, int_eq_t, int_eq_f, int_ne_t, int_ne_f, wrap_in, kfa84_0, kld82, kia82, kfa90_1, kst2, kbd90_0_1, kbs82_1_0, kst82, hf, c0, hy, hfz]
    have hflat := flat_set k v l (pos lt l k) hp hk
    have hst := hrow.put (pos lt l k * 2 + 1) [Value.int .i64 v] (by omega) l.length hrow.cap_le.1 (Nat.le_refl _) (by have := hrow.cap_le.1; simp only [List.length_cons, List.length_nil]; omega) (by simp only [List.length_cons, List.length_nil]; omega)
    have hse : w1.setCells gb (pos lt l k * 2 + 1) [Value.int .i64 v] = w1.setCell ⟨gb, pos lt l k * 2 + 1, none⟩ (Value.int .i64 v) := rfl
    rw [hse] at hst
    have hxs : ((l.flatMap cell2).take (pos lt l k * 2 + 1) ++ [Value.int .i64 v] ++ (l.flatMap cell2).drop (pos lt l k * 2 + 1 + [Value.int .i64 v].length)).take (l.length * 2) = (putM lt l k v).flatMap cell2 := by
      rw [hput, hflat, List.take_of_length_le]
      · rw [List.set_eq_take_append_cons_drop, if_pos (by omega)]; simp
      · simp only [List.length_append, List.length_take, List.length_drop, List.length_cons, List.length_nil]; omega
    rw [hxs] at hst
    have hch : Chg (fun q => q = gb) w1 (w1.setCell ⟨gb, pos lt l k * 2 + 1, none⟩ (Value.int .i64 v)) := (Chg.refl (fun q => q = gb) w1).setCell (p := ⟨gb, _, none⟩) (.inl rfl) _
    refine hK (some gb) _ ⟨_, hch.heap hb (fun e => hgb e.symm), ?_, hFg, hrise, by omega⟩ ?_ (fun q hq => .inl hq)
    · rw [hpl]; exact hst.own2
    · exact ((q1.mono (fun _ _ h => h.elim)).trans hch).mono (fun q _ hq => .inr (by rw [hq]))
  · have hfb : fnd lt l k = false := (Bool.not_eq_true _).mp hf
    rw [if_neg hf] at hput hpl
    rw [hfb] at hK
    simp (maxSteps := 1000000) (disch := omega) only [hid1', hid2', guardK_u, takeG_u, wrap_in64, optK_some', fzK_false', nilK_ptr, brK_true', brK_false', guardK_tt', guardK_ff', guardK_tf', guardK_ft', takeG_tt', takeG_ff', takeG_tf', takeG_ft', pickK_t', pickK_f', pickT_t', pickT_f', notK, extract2_0', extract2_1', extract3_0', extract3_1', extract3_2', here_load, here_fieldAt, here_indexAt, here_extract, here_un, here_conv, here_slice, here_bin, here_nil, and_here, true_and, Nat.zero_add, Nat.add_assoc, Nat.add_zero, Int.toNat_natCast, size_alloc, World.cell?_drew, World.frozen?_drew, Bool.not_true, Bool.not_false, Int.toNat_zero, dec_t, dec_f, int_eq_t, int_eq_f, int_ne_t, int_ne_f, wrap_in, kfa84_0, kld82, kia82, kfa90_1, kst2, kbd90_0_1, kbs82_1_0, kst82, hfb, c0]
    refine ck42 (ins_any ho (one2 l) hple (by omega) ?_)
    intro A' c' F' w2 o2 k2 f2
    have hb2 := k2.heap hb (fun e => hFg e)
    have c2 : w2.cell? ⟨g, 0, none⟩ = some (.slice A l.length c) := by rw [blk_cell hb2]; rfl
    have z2 : w2.frozen? ⟨g, 0, none⟩ = false := blk_frozen hb2 0
    simp (maxSteps := 1000000) (disch := omega) only [hid1', hid2', guardK_u, takeG_u, wrap_in64, optK_some', fzK_false', nilK_ptr, brK_true', brK_false', guardK_tt', guardK_ff', guardK_tf', guardK_ft', takeG_tt', takeG_ff', takeG_tf', takeG_ft', pickK_t', pickK_f', pickT_t', pickT_f', notK, extract2_0', extract2_1', extract3_0', extract3_1', extract3_2', here_load, here_fieldAt, here_indexAt, here_extract, here_un, here_conv, here_slice, here_bin, here_nil, and_here, true_and, Nat.zero_add, Nat.add_assoc, Nat.add_zero, Int.toNat_natCast, size_alloc, World.cell?_drew, World.frozen?_drew, Bool.not_true, Bool.not_false, Int.toNat_zero, dec_t, dec_f, int_eq_t, int_eq_f, int_ne_t, int_ne_f, wrap_in, kfa84_0, kld82, kia82, kfa90_1, kst2, kbd90_0_1, kbs82_1_0, kst82, c2, z2]
    have hF'g : F' ≠ some g := fun e => by
      rcases f2 g e with h | h
      · exact hFg h
      · omega
    have hch : Chg (fun q => q = g) w2 (w2.setCell ⟨g, 0, none⟩ (.slice A' (l.length + 1) c')) := (Chg.refl (fun q => q = g) w2).setCell (p := ⟨g, _, none⟩) (.inl rfl) _
    have hxs : (putM lt l k v).flatMap cell2 = (l.flatMap cell2).take (pos lt l k * 2) ++ [Value.string k, Value.int .i64 v] ++ (l.flatMap cell2).drop (pos lt l k * 2) := by
      rw [hput, List.flatMap_append, List.flatMap_cons, flat_take, flat_drop, List.append_assoc]; rfl
    refine hK F' _ ⟨.slice A' (l.length + 1) c', by rw [blk_set hb2]; rfl, ?_, hF'g, hrise, by omega⟩ ?_ (fun q hq => ?_)
    · rw [hpl, hxs]
      exact o2.chg hch (fun q hq e => hF'g (by rw [hq, e]))
    · exact ((q1.mono (fun _ _ h => h.elim)).trans (k2.mono (fun q _ hq => .inr hq))).trans (hch.mono (fun q _ hq => .inl hq))
    · rcases f2 q hq with h | h
      · exact .inl h
      · exact .inr (by omega)
def getM (l : List (κ × ν)) (k : κ) : ν := if fnd lt l k = true then ((l[pos lt l k]?).map Prod.snd).getD 0 else 0
theorem get_any {g : Nat} {l : List (κ × ν)} {F : Option Nat} {k : κ} {w : World} {K : Value → World → Prop} (h : MapAt w g l F)
    (hK : ∀ w', Qt w w' → K (.tuple #[Value.int .i64 (getM l k), .bool (fnd lt l k)]) w') : CallK Tryd.prog 21 #[.pointer (some ⟨g, 0, none⟩), Value.string k] K w := by
  refine F21_calls _ _ _ _ ?_; unfold F21
  refine ck41 (find_any h ?_)
  intro w1 q1
  have h1 := h.quiet q1
  obtain ⟨A, c, c0, _, ho, hr, hs, hl⟩ := h1.opened
  by_cases hf : fnd lt l k = true
  · have hp := fnd_lt hf
    obtain ⟨gb, of, rfl, k0, k1⟩ := cells_at hr hp
    have hg : getM l k = l[pos lt l k].2 := by unfold getM; rw [if_pos hf, List.getElem?_eq_getElem hp]; rfl
    rw [hg] at hK
    rw [hf] at hK
    simp (maxSteps := 1000000) (disch := omega) only [hid1', hid2', guardK_u, takeG_u, wrap_in64, optK_some', fzK_false', nilK_ptr, brK_true', brK_false', guardK_tt', guardK_ff', guardK_tf', guardK_ft', takeG_tt', takeG_ff', takeG_tf', takeG_ft', pickK_t', pickK_f', pickT_t', pickT_f', notK, extract2_0', extract2_1', extract3_0', extract3_1', extract3_2', here_load, here_fieldAt, here_indexAt, here_extract, here_un, here_conv, here_slice, here_bin, here_nil, and_here, true_and, Nat.zero_add, Nat.add_assoc, Nat.add_zero, Int.toNat_natCast, size_alloc, World.cell?_drew, World.frozen?_drew, Bool.not_true, Bool.not_false, Int.toNat_zero, dec_t, dec_f, int_eq_t, int_eq_f, int_ne_t, int_ne_f, wrap_in, kfa84_0, kld82, kia82, kfa90_1, kld2, hf, c0, k0, k1]
    exact hK w1 q1
  · have hfb : fnd lt l k = false := (Bool.not_eq_true _).mp hf
    have hg : getM l k = 0 := by unfold getM; rw [if_neg hf]
    rw [hg] at hK
    rw [hfb] at hK
    simp (maxSteps := 1000000) (disch := omega) only [hid1', hid2', guardK_u, takeG_u, wrap_in64, optK_some', fzK_false', nilK_ptr, brK_true', brK_false', guardK_tt', guardK_ff', guardK_tf', guardK_ft', takeG_tt', takeG_ff', takeG_tf', takeG_ft', pickK_t', pickK_f', pickT_t', pickT_f', notK, extract2_0', extract2_1', extract3_0', extract3_1', extract3_2', here_load, here_fieldAt, here_indexAt, here_extract, here_un, here_conv, here_slice, here_bin, here_nil, and_here, true_and, Nat.zero_add, Nat.add_assoc, Nat.add_zero, Int.toNat_natCast, size_alloc, World.cell?_drew, World.frozen?_drew, Bool.not_true, Bool.not_false, Int.toNat_zero, dec_t, dec_f, int_eq_t, int_eq_f, int_ne_t, int_ne_f, wrap_in, kfa84_0, kld82, kia82, kfa90_1, kld2, hfb, c0]
    exact hK w1 q1
theorem len_any {g : Nat} {l : List (κ × ν)} {F : Option Nat} {w : World} {K : Value → World → Prop} (h : MapAt w g l F) (hK : K (.int .i64 l.length) w) : CallK Tryd.prog 22 #[.pointer (some ⟨g, 0, none⟩)] K w := by
  refine F22_calls _ _ _ ?_; unfold F22
  obtain ⟨A, c, c0, _, ho, hr, hs, hl⟩ := h.opened
  simp (maxSteps := 1000000) (disch := omega) only [hid1', hid2', guardK_u, takeG_u, wrap_in64, optK_some', fzK_false', nilK_ptr, brK_true', brK_false', guardK_tt', guardK_ff', guardK_tf', guardK_ft', takeG_tt', takeG_ff', takeG_tf', takeG_ft', pickK_t', pickK_f', pickT_t', pickT_f', notK, extract2_0', extract2_1', extract3_0', extract3_1', extract3_2', here_load, here_fieldAt, here_indexAt, here_extract, here_un, here_conv, here_slice, here_bin, here_nil, and_here, true_and, Nat.zero_add, Nat.add_assoc, Nat.add_zero, Int.toNat_natCast, size_alloc, World.cell?_drew, World.frozen?_drew, Bool.not_true, Bool.not_false, Int.toNat_zero, dec_t, dec_f, int_eq_t, int_eq_f, int_ne_t, int_ne_f, wrap_in, kfa84_0, kld82, klen82, hlen82, c0]
  exact hK
def atM (l : List (κ × ν)) (i : Int) : κ × ν × Bool := if h : 0 ≤ i ∧ i.toNat < l.length then (l[i.toNat].1, l[i.toNat].2, true) else (ByteArray.empty, 0, false)
theorem at_any {g : Nat} {l : List (κ × ν)} {F : Option Nat} {i : Int} {w : World} {K : Value → World → Prop} (h : MapAt w g l F) (hi : i ≤ 9223372036854775807)
    (hK : ∀ w', Qt w w' → K (.tuple #[Value.string (atM l i).1, Value.int .i64 (atM l i).2.1, .bool (atM l i).2.2]) w') : CallK Tryd.prog 25 #[.pointer (some ⟨g, 0, none⟩), .int .i64 i] K w := by
  refine F25_calls _ _ _ _ ?_; unfold F25
  obtain ⟨A, c, c0, _, ho, hr, hs, hl⟩ := h.opened
  have hout : ¬ (0 ≤ i ∧ i.toNat < l.length) → ∀ K' : Value → World → Prop, K' = K → AllocK Tryd.prog 90 (@hid _ ⟨fun t7 w1 => K' (.tuple #[Value.string ByteArray.empty, Value.int .i64 0, .bool false]) w1.drew⟩) w := by
    intro ho K' hK'
    subst hK'
    have e : atM l i = (ByteArray.empty, 0, false) := dif_neg ho
    rw [e] at hK
    simp (maxSteps := 1000000) (disch := omega) only [hid1', hid2', guardK_u, takeG_u, wrap_in64, optK_some', fzK_false', nilK_ptr, brK_true', brK_false', guardK_tt', guardK_ff', guardK_tf', guardK_ft', takeG_tt', takeG_ff', takeG_tf', takeG_ft', pickK_t', pickK_f', pickT_t', pickT_f', notK, extract2_0', extract2_1', extract3_0', extract3_1', extract3_2', here_load, here_fieldAt, here_indexAt, here_extract, here_un, here_conv, here_slice, here_bin, here_nil, and_here, true_and, Nat.zero_add, Nat.add_assoc, Nat.add_zero, Int.toNat_natCast, size_alloc, World.cell?_drew, World.frozen?_drew, Bool.not_true, Bool.not_false, Int.toNat_zero, dec_t, dec_f, int_eq_t, int_eq_f, int_ne_t, int_ne_f, wrap_in, kblss3, kfa84_0, kld82, klen82, hlen82, kbgeq3, kal90, kfa90_0, kld9, kfa90_1, kld2, kia82]
    exact hK _ (Chg.alloc Qt.refl _).drew
  have cN0 : (w.alloc (.cells #[Value.string ByteArray.empty, Value.int .i64 0] 90)).cell? ⟨w.heap.size, 0, none⟩ = some (Value.string ByteArray.empty) := by rw [blk_cell (blk_new _ _)]; rfl
  have cN1 : (w.alloc (.cells #[Value.string ByteArray.empty, Value.int .i64 0] 90)).cell? ⟨w.heap.size, 1, none⟩ = some (Value.int .i64 0) := by rw [blk_cell (blk_new _ _)]; rfl
  by_cases hneg : i < 0
  · have e : atM l i = (ByteArray.empty, 0, false) := dif_neg (by omega)
    rw [e] at hK
    simp (maxSteps := 1000000) (disch := omega) only [hid1', hid2', guardK_u, takeG_u, wrap_in64, optK_some', fzK_false', nilK_ptr, brK_true', brK_false', guardK_tt', guardK_ff', guardK_tf', guardK_ft', takeG_tt', takeG_ff', takeG_tf', takeG_ft', pickK_t', pickK_f', pickT_t', pickT_f', notK, extract2_0', extract2_1', extract3_0', extract3_1', extract3_2', here_load, here_fieldAt, here_indexAt, here_extract, here_un, here_conv, here_slice, here_bin, here_nil, and_here, true_and, Nat.zero_add, Nat.add_assoc, Nat.add_zero, Int.toNat_natCast, size_alloc, World.cell?_drew, World.frozen?_drew, Bool.not_true, Bool.not_false, Int.toNat_zero, dec_t, dec_f, int_eq_t, int_eq_f, int_ne_t, int_ne_f, wrap_in, kblss3, kfa84_0, kld82, klen82, hlen82, kbgeq3, kal90, kfa90_0, kld9, kfa90_1, kld2, kia82]
    refine drawK_here ?_
    simp (maxSteps := 1000000) (disch := omega) only [hid1', hid2', guardK_u, takeG_u, wrap_in64, optK_some', fzK_false', nilK_ptr, brK_true', brK_false', guardK_tt', guardK_ff', guardK_tf', guardK_ft', takeG_tt', takeG_ff', takeG_tf', takeG_ft', pickK_t', pickK_f', pickT_t', pickT_f', notK, extract2_0', extract2_1', extract3_0', extract3_1', extract3_2', here_load, here_fieldAt, here_indexAt, here_extract, here_un, here_conv, here_slice, here_bin, here_nil, and_here, true_and, Nat.zero_add, Nat.add_assoc, Nat.add_zero, Int.toNat_natCast, size_alloc, World.cell?_drew, World.frozen?_drew, Bool.not_true, Bool.not_false, Int.toNat_zero, dec_t, dec_f, int_eq_t, int_eq_f, int_ne_t, int_ne_f, wrap_in, kblss3, kfa84_0, kld82, klen82, hlen82, kbgeq3, kal90, kfa90_0, kld9, kfa90_1, kld2, kia82, cN0, cN1]
    exact hK _ (Chg.alloc Qt.refl _).drew
  · by_cases hbig : (l.length : Int) ≤ i
    · have e : atM l i = (ByteArray.empty, 0, false) := dif_neg (by omega)
      rw [e] at hK
      simp (maxSteps := 1000000) (disch := omega) only [hid1', hid2', guardK_u, takeG_u, wrap_in64, optK_some', fzK_false', nilK_ptr, brK_true', brK_false', guardK_tt', guardK_ff', guardK_tf', guardK_ft', takeG_tt', takeG_ff', takeG_tf', takeG_ft', pickK_t', pickK_f', pickT_t', pickT_f', notK, extract2_0', extract2_1', extract3_0', extract3_1', extract3_2', here_load, here_fieldAt, here_indexAt, here_extract, here_un, here_conv, here_slice, here_bin, here_nil, and_here, true_and, Nat.zero_add, Nat.add_assoc, Nat.add_zero, Int.toNat_natCast, size_alloc, World.cell?_drew, World.frozen?_drew, Bool.not_true, Bool.not_false, Int.toNat_zero, dec_t, dec_f, int_eq_t, int_eq_f, int_ne_t, int_ne_f, wrap_in, kblss3, kfa84_0, kld82, klen82, hlen82, kbgeq3, kal90, kfa90_0, kld9, kfa90_1, kld2, kia82, c0]
      refine drawK_here ?_
      simp (maxSteps := 1000000) (disch := omega) only [hid1', hid2', guardK_u, takeG_u, wrap_in64, optK_some', fzK_false', nilK_ptr, brK_true', brK_false', guardK_tt', guardK_ff', guardK_tf', guardK_ft', takeG_tt', takeG_ff', takeG_tf', takeG_ft', pickK_t', pickK_f', pickT_t', pickT_f', notK, extract2_0', extract2_1', extract3_0', extract3_1', extract3_2', here_load, here_fieldAt, here_indexAt, here_extract, here_un, here_conv, here_slice, here_bin, here_nil, and_here, true_and, Nat.zero_add, Nat.add_assoc, Nat.add_zero, Int.toNat_natCast, size_alloc, World.cell?_drew, World.frozen?_drew, Bool.not_true, Bool.not_false, Int.toNat_zero, dec_t, dec_f, int_eq_t, int_eq_f, int_ne_t, int_ne_f, wrap_in, kblss3, kfa84_0, kld82, klen82, hlen82, kbgeq3, kal90, kfa90_0, kld9, kfa90_1, kld2, kia82, cN0, cN1]
      exact hK _ (Chg.alloc Qt.refl _).drew
    · obtain ⟨m, rfl⟩ := Int.eq_ofNat_of_zero_le (show 0 ≤ i by omega)
      have hm : m < l.length := by omega
      have e : atM l (m : Int) = (l[m].1, l[m].2, true) := by
        unfold atM; rw [dif_pos ⟨by omega, by rw [Int.toNat_natCast]; exact hm⟩]; simp
      rw [e] at hK
      obtain ⟨gb, of, rfl, k0, k1⟩ := cells_at hr hm
      simp (maxSteps := 1000000) (disch := omega) only [hid1', hid2', guardK_u, takeG_u, wrap_in64, optK_some', fzK_false', nilK_ptr, brK_true', brK_false', guardK_tt', guardK_ff', guardK_tf', guardK_ft', takeG_tt', takeG_ff', takeG_tf', takeG_ft', pickK_t', pickK_f', pickT_t', pickT_f', notK, extract2_0', extract2_1', extract3_0', extract3_1', extract3_2', here_load, here_fieldAt, here_indexAt, here_extract, here_un, here_conv, here_slice, here_bin, here_nil, and_here, true_and, Nat.zero_add, Nat.add_assoc, Nat.add_zero, Int.toNat_natCast, size_alloc, World.cell?_drew, World.frozen?_drew, Bool.not_true, Bool.not_false, Int.toNat_zero, dec_t, dec_f, int_eq_t, int_eq_f, int_ne_t, int_ne_f, wrap_in, kblss3, kfa84_0, kld82, klen82, hlen82, kbgeq3, kal90, kfa90_0, kld9, kfa90_1, kld2, kia82, c0]
      refine drawK_here ?_
      simp (maxSteps := 1000000) (disch := omega) only [hid1', hid2', guardK_u, takeG_u, wrap_in64, optK_some', fzK_false', nilK_ptr, brK_true', brK_false', guardK_tt', guardK_ff', guardK_tf', guardK_ft', takeG_tt', takeG_ff', takeG_tf', takeG_ft', pickK_t', pickK_f', pickT_t', pickT_f', notK, extract2_0', extract2_1', extract3_0', extract3_1', extract3_2', here_load, here_fieldAt, here_indexAt, here_extract, here_un, here_conv, here_slice, here_bin, here_nil, and_here, true_and, Nat.zero_add, Nat.add_assoc, Nat.add_zero, Int.toNat_natCast, size_alloc, World.cell?_drew, World.frozen?_drew, Bool.not_true, Bool.not_false, Int.toNat_zero, dec_t, dec_f, int_eq_t, int_eq_f, int_ne_t, int_ne_f, wrap_in, kblss3, kfa84_0, kld82, klen82, hlen82, kbgeq3, kal90, kfa90_0, kld9, kfa90_1, kld2, kia82, c0, k0, k1]
      exact hK _ Qt.refl.drew
def floorI (l : List (κ × ν)) (k : κ) : Int := if fnd lt l k = true then pos lt l k else (pos lt l k : Int) - 1
end Go.Proofs.YtpdhmbbmhomlnaaDoor.SI
