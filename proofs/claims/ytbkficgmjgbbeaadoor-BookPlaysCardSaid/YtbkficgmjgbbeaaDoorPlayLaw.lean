/- BookPlays' walk. Conditions: the row reads as acts. -/
import Derived.Test.YtbkficgmjgbbeaaDoorFullLaw
set_option linter.unusedVariables false
set_option linter.unusedSimpArgs false
set_option maxRecDepth 100000
namespace Go.Proofs.YtbkficgmjgbbeaaDoor
open Go.RowKit Go.Cn
abbrev Act := Int × Ent × Int × Int
def cellA (a : Act) : List Value := [.int .i64 a.1, .string a.2.1.1, .int .i64 a.2.1.2.1, .int .i64 a.2.1.2.2, .int .i64 a.2.2.1, .int .i64 a.2.2.2]
def RAct : World → List Value → Act → Prop := RPair 1 (RInt .i64) (RPair 3 REnt (RPair 1 (RInt .i64) (RInt .i64)))
def actOk (a : Act) : Prop := (-9223372036854775808 ≤ a.2.2.1 ∧ a.2.2.1 ≤ 9223372036854775807) ∧ (-9223372036854775808 ≤ a.2.2.2 ∧ a.2.2.2 ≤ 9223372036854775807)
theorem act_cells {w : World} {cs : List Value} {x : Act} (h : RAct w cs x) (hl : cs.length = 6) : cs = cellA x ∧ actOk x := by
  match cs, hl with
  | [a, b, c, d, e, f], _ =>
    obtain ⟨⟨h1, w1⟩, h2, ⟨h3, w3⟩, ⟨h4, w4⟩⟩ := h
    have hE := (ent_cells (cs := [b, c, d]) h2 rfl).1
    simp at h1 h3 h4
    unfold cellE at hE
    simp at hE
    obtain ⟨e1, e2, e3⟩ := hE
    subst h1 h3 h4 e1 e2 e3
    exact ⟨rfl, Go.bounds_i64 w3, Go.bounds_i64 w4⟩
theorem opens_act : Opens Tryd.prog 30 RAct := by
  refine opens_struct4 1 3 1 1 Tryd.underlying30 (opens_int Tryd.underlying3) opens_ent (opens_int Tryd.underlying2) (opens_int Tryd.underlying2) ?_ ?_ ?_ ?_ ?_ ?_ ?_ ?_ ?_ <;> kernel_rfl
theorem cellA_len (x : Act) : (cellA x).length = 6 := rfl
def rowA (l : List Act) : List Value := l.flatMap cellA
theorem acts_of {w : World} {A : Option Addr} {l : List Act} (h : RRow 6 RAct w A l) : Reads w A (rowA l) ∧ ∀ x ∈ l, actOk x := by
  refine ⟨Reads.of_rows (by omega) cellA_len (fun w cs x hr hl => (act_cells hr hl).1) h, fun x hx => ?_⟩
  obtain ⟨i, hi, rfl⟩ := List.mem_iff_getElem.1 hx
  obtain ⟨ad, cs, _, hr, hl, _⟩ := h i hi
  exact (act_cells hr hl).2
theorem act_at {w : World} {A : Option Addr} {l : List Act} (h : Reads w A (rowA l)) {i : Nat} (hi : i < l.length) : ∃ b o, A = some ⟨b, o, none⟩ ∧ w.cell? ⟨b, o + i * 6, none⟩ = some (.int .i64 l[i].1) ∧ w.cell? ⟨b, o + (i * 6 + 1), none⟩ = some (.string l[i].2.1.1) ∧ w.cell? ⟨b, o + (i * 6 + 2), none⟩ = some (.int .i64 l[i].2.1.2.1) ∧ w.cell? ⟨b, o + (i * 6 + 3), none⟩ = some (.int .i64 l[i].2.1.2.2) ∧ w.cell? ⟨b, o + (i * 6 + 4), none⟩ = some (.int .i64 l[i].2.2.1) ∧ w.cell? ⟨b, o + (i * 6 + 5), none⟩ = some (.int .i64 l[i].2.2.2) := by
  obtain ⟨b, o, e, hc⟩ := @Reads.at 6 Act ⟨l[i]⟩ cellA (fun _ => rfl) w A l h i hi (by omega)
  have ee : @List.getD Act l i (@default _ ⟨l[i]⟩) = l[i] := by simp [hi]
  rw [ee] at hc
  exact ⟨b, o, e, hc 0 (by omega), hc 1 (by omega), hc 2 (by omega), hc 3 (by omega), hc 4 (by omega), hc 5 (by omega)⟩
theorem cell6 {w : World} {b : Nat} {t : TypeId} {a : Act} (h : w.heap[b]? = some (.cells #[.int .i64 a.1, .string a.2.1.1, .int .i64 a.2.1.2.1, .int .i64 a.2.1.2.2, .int .i64 a.2.2.1, .int .i64 a.2.2.2] t (0, 0))) : w.cell? ⟨b, 0, none⟩ = some (.int .i64 a.1) ∧ w.cell? ⟨b, 1, none⟩ = some (.string a.2.1.1) ∧ w.cell? ⟨b, 2, none⟩ = some (.int .i64 a.2.1.2.1) ∧ w.cell? ⟨b, 3, none⟩ = some (.int .i64 a.2.1.2.2) ∧ w.cell? ⟨b, 4, none⟩ = some (.int .i64 a.2.2.1) ∧ w.cell? ⟨b, 5, none⟩ = some (.int .i64 a.2.2.2) :=
  ⟨by rw [blk_cell h]; rfl, by rw [blk_cell h]; rfl, by rw [blk_cell h]; rfl, by rw [blk_cell h]; rfl, by rw [blk_cell h]; rfl, by rw [blk_cell h]; rfl⟩
theorem sameE_any {w : World} {A B : Option Addr} {c d : Nat} {m : EM} {K : Value → World → Prop} (ha : Reads w A (rowE m)) (hb : Reads w B (rowE m)) (hl : m.length ≤ 1000)
    (hK : ∀ w', Qt w w' → K (.bool true) w') : CallK Tryd.prog 18 #[.slice A m.length c, .slice B m.length d] K w := by
  rw [rowE_map] at ha hb
  have := same_any (c := c) (d := d) ha hb (by rw [List.length_map]; exact hl) hK
  rwa [List.length_map] at this
theorem reads_sep {S : Nat → Prop} {w w' : World} {A : Option Addr} {m : EM} (h : Reads w A (rowE m)) (c : Chg S w w') (hn : ∀ ad, A = some ad → m ≠ [] → ¬ S ad.block) : Reads w' A (rowE m) := by
  by_cases e : m = []
  · subst e; exact .inl rfl
  · exact h.chg c (fun ad ha => hn ad ha e)
theorem reads_lt {w : World} {ad : Addr} {m : EM} (h : Reads w (some ad) (rowE m)) (e : m ≠ []) : ad.block < w.heap.size := by
  obtain ⟨g, o, he, hc, _⟩ := ent_at h (List.length_pos_iff.2 e)
  cases he
  exact cell_lt hc
theorem putE_siz {m : EM} {e : Ent} (h : ∀ y ∈ m, y.1.size ≤ 100) (he : e.1.size ≤ 100) : ∀ y ∈ (putE m e).1, y.1.size ≤ 100 := by
  unfold putE
  split
  · exact h
  · split
    · exact h
    · split
      · exact h
      · intro y hy
        rcases mem_put hy with rfl | hy
        · exact he
        · exact h y hy
theorem fnd_len (m : EM) (p : ByteArray) : fnd SE.lt m p = decide ((dropM SE.lt m p).length < m.length) := by
  unfold dropM
  cases hf : fnd SE.lt m p with
  | false => rw [if_neg (by decide)]; simp
  | true =>
    have := fnd_lt hf
    rw [if_pos rfl, List.length_append, List.length_take, List.length_drop]
    symm
    rw [decide_eq_true_eq]
    omega
theorem drop_succ {m : EM} {p : ByteArray} {i : Nat} (hi : i < m.length) : (m.take (i + 1)).filter (fun x => decide (x.1 ≠ p)) = (m.take i).filter (fun x => decide (x.1 ≠ p)) ++ (if m[i].1 = p then [] else [m[i]]) := by
  rw [List.take_succ_eq_append_getElem hi, List.filter_append]
  congr 1
  by_cases h : m[i].1 = p
  · rw [if_pos h]; simp [h]
  · rw [if_neg h]; simp [h]
theorem drop_good {m : EM} (g : GoodB m) (p : ByteArray) : GoodB (dropM SE.lt m p) := by
  rw [drop_filter g.up]; exact GoodB.sub List.filter_sublist g
theorem drop_siz {m : EM} (g : GoodB m) (p : ByteArray) (h : ∀ y ∈ m, y.1.size ≤ 100) : ∀ y ∈ dropM SE.lt m p, y.1.size ≤ 100 := by
  rw [drop_filter g.up]; exact fun y hy => h y (List.mem_filter.1 hy).1
theorem sweep_sub (m : EM) (now age : Int) (keep : ByteArray) : ((sweepM m now age keep).1).Sublist m := by
  unfold sweepM
  split
  · exact List.Sublist.refl _
  · exact List.filter_sublist
theorem sweep_len (m : EM) (now age : Int) (keep : ByteArray) : ((sweepM m now age keep).2).length ≤ m.length := by
  unfold sweepM
  split
  · exact Nat.zero_le _
  · exact goneM_len m now age keep
/-- The two books as they stand. -/
def Both (n : Nat) (w : World) (v1 v2 : Value) : Prop := ∃ (x g : Nat) (m : EM) (F : Option Nat) (Ar : Option Addr) (c : Nat), v1 = .pointer (some ⟨x, 0, none⟩) ∧ v2 = .slice Ar m.length c ∧ BV n w x g m F ∧ GoodB m ∧ Reads w Ar (rowE m) ∧ m.length ≤ c ∧ ((Ar = none ∧ c = 0) ∨ ∃ g o, Ar = some ⟨g, o, none⟩) ∧ (∀ ad, Ar = some ad → m ≠ [] → ad.block ≠ g ∧ F ≠ some ad.block) ∧ ∀ y ∈ m, y.1.size ≤ 100
set_option maxHeartbeats 4000000 in
theorem bookPlays_any {w : World} {A : Option Addr} {cap : Nat} {l : List Act} {z : ByteArray} {K : Value → World → Prop} (hm : MaxAt w) (hr : Reads w A (rowA l)) (hok : ∀ x ∈ l, actOk x) (hl : l.length ≤ 9223372036854775807) (hzs : z.size ≤ 9223372036854775807)
    (hR : ∀ w', Qt w w' → K (.bool true) w') : CallK Tryd.prog 3 #[.slice A l.length cap, .string z] K w := by
  refine F3_calls _ _ _ _ ?_; unfold F3
  refine ck7 (known_any hm ?_)
  intro w1 q1
  have hz := hm.pos
  simp (maxSteps := 1000000) (disch := omega) only [hid1', hid2', guardK_u, takeG_u, wrap_in64, optK_some', fzK_false', nilK_ptr, brK_true', brK_false', guardK_tt', guardK_ff', guardK_tf', guardK_ft', takeG_tt', takeG_ff', takeG_tf', takeG_ft', pickK_t', pickK_f', pickT_t', pickT_f', notK, extract2_0', extract2_1', extract3_0', extract3_1', extract3_2', here_load, here_fieldAt, here_indexAt, here_extract, here_un, here_conv, here_slice, here_bin, here_nil, and_here, true_and, Nat.zero_add, Nat.add_assoc, Nat.add_zero, Int.toNat_natCast, size_alloc, World.cell?_drew, World.frozen?_drew, Bool.not_true, Bool.not_false, Int.toNat_zero, dec_t, dec_f, int_eq_t, int_eq_f, int_ne_t, int_ne_f, wrap_in, klen22, hlen22, kbgtr3, klen9, hlen9, kblss3, kia22, kld30, kal30, kst30f, kfa30_1, kfa28_0, kld9, kfa30_2, kld2, kbgtr2, kfa30_3, kfa30_0, kld3, kbeql3, kld28, kbs35_1_0, kia26, kld33, kbneq3, kal28, kst28f, klen26, hlen26, kfa33_0, kbneq9, kbs26_1_0, kbadd3, kbneq4, kbeql24n]
  by_cases h120 : 120 < l.length
  · simp (maxSteps := 1000000) (disch := omega) only [hid1', hid2', guardK_u, takeG_u, wrap_in64, optK_some', fzK_false', nilK_ptr, brK_true', brK_false', guardK_tt', guardK_ff', guardK_tf', guardK_ft', takeG_tt', takeG_ff', takeG_tf', takeG_ft', pickK_t', pickK_f', pickT_t', pickT_f', notK, extract2_0', extract2_1', extract3_0', extract3_1', extract3_2', here_load, here_fieldAt, here_indexAt, here_extract, here_un, here_conv, here_slice, here_bin, here_nil, and_here, true_and, Nat.zero_add, Nat.add_assoc, Nat.add_zero, Int.toNat_natCast, size_alloc, World.cell?_drew, World.frozen?_drew, Bool.not_true, Bool.not_false, Int.toNat_zero, dec_t, dec_f, int_eq_t, int_eq_f, int_ne_t, int_ne_f, wrap_in, klen22, hlen22, kbgtr3, klen9, hlen9, kblss3, kia22, kld30, kal30, kst30f, kfa30_1, kfa28_0, kld9, kfa30_2, kld2, kbgtr2, kfa30_3, kfa30_0, kld3, kbeql3, kld28, kbs35_1_0, kia26, kld33, kbneq3, kal28, kst28f, klen26, hlen26, kfa33_0, kbneq9, kbs26_1_0, kbadd3, kbneq4, kbeql24n, guardK_u]
    exact hR w1 q1
  by_cases hz100 : 100 < z.size
  · simp (maxSteps := 1000000) (disch := omega) only [hid1', hid2', guardK_u, takeG_u, wrap_in64, optK_some', fzK_false', nilK_ptr, brK_true', brK_false', guardK_tt', guardK_ff', guardK_tf', guardK_ft', takeG_tt', takeG_ff', takeG_tf', takeG_ft', pickK_t', pickK_f', pickT_t', pickT_f', notK, extract2_0', extract2_1', extract3_0', extract3_1', extract3_2', here_load, here_fieldAt, here_indexAt, here_extract, here_un, here_conv, here_slice, here_bin, here_nil, and_here, true_and, Nat.zero_add, Nat.add_assoc, Nat.add_zero, Int.toNat_natCast, size_alloc, World.cell?_drew, World.frozen?_drew, Bool.not_true, Bool.not_false, Int.toNat_zero, dec_t, dec_f, int_eq_t, int_eq_f, int_ne_t, int_ne_f, wrap_in, klen22, hlen22, kbgtr3, klen9, hlen9, kblss3, kia22, kld30, kal30, kst30f, kfa30_1, kfa28_0, kld9, kfa30_2, kld2, kbgtr2, kfa30_3, kfa30_0, kld3, kbeql3, kld28, kbs35_1_0, kia26, kld33, kbneq3, kal28, kst28f, klen26, hlen26, kfa33_0, kbneq9, kbs26_1_0, kbadd3, kbneq4, kbeql24n]
    exact hR w1 q1
  simp (maxSteps := 1000000) (disch := omega) only [hid1', hid2', guardK_u, takeG_u, wrap_in64, optK_some', fzK_false', nilK_ptr, brK_true', brK_false', guardK_tt', guardK_ff', guardK_tf', guardK_ft', takeG_tt', takeG_ff', takeG_tf', takeG_ft', pickK_t', pickK_f', pickT_t', pickT_f', notK, extract2_0', extract2_1', extract3_0', extract3_1', extract3_2', here_load, here_fieldAt, here_indexAt, here_extract, here_un, here_conv, here_slice, here_bin, here_nil, and_here, true_and, Nat.zero_add, Nat.add_assoc, Nat.add_zero, Int.toNat_natCast, size_alloc, World.cell?_drew, World.frozen?_drew, Bool.not_true, Bool.not_false, Int.toNat_zero, dec_t, dec_f, int_eq_t, int_eq_f, int_ne_t, int_ne_f, wrap_in, klen22, hlen22, kbgtr3, klen9, hlen9, kblss3, kia22, kld30, kal30, kst30f, kfa30_1, kfa28_0, kld9, kfa30_2, kld2, kbgtr2, kfa30_3, kfa30_0, kld3, kbeql3, kld28, kbs35_1_0, kia26, kld33, kbneq3, kal28, kst28f, klen26, hlen26, kfa33_0, kbneq9, kbs26_1_0, kbadd3, kbneq4, kbeql24n]
  refine ck8 (new_book ?_)
  intro x0 g0 w2 h2 q2 hx0 hg0
  have hs1 := q1.size
  have q12 := q1.trans q2
  simp (maxSteps := 1000000) (disch := omega) only [hid1', hid2', guardK_u, takeG_u, wrap_in64, optK_some', fzK_false', nilK_ptr, brK_true', brK_false', guardK_tt', guardK_ff', guardK_tf', guardK_ft', takeG_tt', takeG_ff', takeG_tf', takeG_ft', pickK_t', pickK_f', pickT_t', pickT_f', notK, extract2_0', extract2_1', extract3_0', extract3_1', extract3_2', here_load, here_fieldAt, here_indexAt, here_extract, here_un, here_conv, here_slice, here_bin, here_nil, and_here, true_and, Nat.zero_add, Nat.add_assoc, Nat.add_zero, Int.toNat_natCast, size_alloc, World.cell?_drew, World.frozen?_drew, Bool.not_true, Bool.not_false, Int.toNat_zero, dec_t, dec_f, int_eq_t, int_eq_f, int_ne_t, int_ne_f, wrap_in, klen22, hlen22, kbgtr3, klen9, hlen9, kblss3, kia22, kld30, kal30, kst30f, kfa30_1, kfa28_0, kld9, kfa30_2, kld2, kbgtr2, kfa30_3, kfa30_0, kld3, kbeql3, kld28, kbs35_1_0, kia26, kld33, kbneq3, kal28, kst28f, klen26, hlen26, kfa33_0, kbneq9, kbs26_1_0, kbadd3, kbneq4, kbeql24n]
  refine loopK3 (fun v1 v2 v3 w' => ∃ i : Nat, v3 = .int .i64 i ∧ i ≤ l.length ∧ Both w.heap.size w' v1 v2 ∧ Qt w w') (fun _ _ v _ => l.length - (intOf v).toNat) ⟨0, rfl, by omega, ⟨x0, g0, [], none, none, 0, rfl, rfl, ⟨h2, by omega, by omega, fun _ h => (by cases h)⟩, GoodB.nil, .inl rfl, Nat.le_refl _, .inl ⟨rfl, rfl⟩, fun _ h => (by cases h), fun _ h => (by cases h)⟩, q12⟩ ?_
  rintro _ _ _ _ w3 ⟨i, rfl, hi, ⟨x, g, m, F, Ar, c, rfl, rfl, v3, hg, rr, hc, hA, hsep, hsiz⟩, q3⟩
  have hfew := hg.few
  have hsz3 := q3.size
  by_cases hlt : i < l.length
  · have T : ∀ w', Qt w w' → _ := fun w' q => act_at (hr.quiet q) hlt
    obtain ⟨b, o, rfl, _⟩ := T w3 q3
    obtain ⟨b', o', ee, c0, c1, c2, c3, c4, c5⟩ := T w3 q3
    cases ee
    have hka := hok l[i] (List.getElem_mem hlt)
    clear T
    generalize l[i] = a at *
    have q8 : Qt w3 (w3.alloc (.cells #[.int .i64 a.1, .string a.2.1.1, .int .i64 a.2.1.2.1, .int .i64 a.2.1.2.2, .int .i64 a.2.2.1, .int .i64 a.2.2.2] 30)) := Chg.alloc Qt.refl _
    have h8 : (w3.alloc (.cells #[.int .i64 a.1, .string a.2.1.1, .int .i64 a.2.1.2.1, .int .i64 a.2.1.2.2, .int .i64 a.2.2.1, .int .i64 a.2.2.2] 30)).heap[w3.heap.size]? = some (.cells #[.int .i64 a.1, .string a.2.1.1, .int .i64 a.2.1.2.1, .int .i64 a.2.1.2.2, .int .i64 a.2.2.1, .int .i64 a.2.2.2] 30 (0, 0)) := blk_new _ _
    obtain ⟨y0, y1, y2, y3, y4, y5⟩ := cell6 h8
    have v4 := v3.quiet q8
    have r4 := rr.quiet q8
    have q04 := q3.trans q8
    have hlow4 := v4.at_.2.1.low
    have hlo3 := v3.at_.2.1.low
    have hlx3 := blk_lt v3.at_.1
    have hsp3 : ∀ ad, Ar = some ad → m ≠ [] → ad.block < w3.heap.size := fun ad ha hne => by subst ha; exact reads_lt rr hne
    simp (maxSteps := 1000000) (disch := omega) only [hid1', hid2', guardK_u, takeG_u, wrap_in64, optK_some', fzK_false', nilK_ptr, brK_true', brK_false', guardK_tt', guardK_ff', guardK_tf', guardK_ft', takeG_tt', takeG_ff', takeG_tf', takeG_ft', pickK_t', pickK_f', pickT_t', pickT_f', notK, extract2_0', extract2_1', extract3_0', extract3_1', extract3_2', here_load, here_fieldAt, here_indexAt, here_extract, here_un, here_conv, here_slice, here_bin, here_nil, and_here, true_and, Nat.zero_add, Nat.add_assoc, Nat.add_zero, Int.toNat_natCast, size_alloc, World.cell?_drew, World.frozen?_drew, Bool.not_true, Bool.not_false, Int.toNat_zero, dec_t, dec_f, int_eq_t, int_eq_f, int_ne_t, int_ne_f, wrap_in, klen22, hlen22, kbgtr3, klen9, hlen9, kblss3, kia22, kld30, kal30, kst30f, kfa30_1, kfa28_0, kld9, kfa30_2, kld2, kbgtr2, kfa30_3, kfa30_0, kld3, kbeql3, kld28, kbs35_1_0, kia26, kld33, kbneq3, kal28, kst28f, klen26, hlen26, kfa33_0, kbneq9, kbs26_1_0, kbadd3, kbneq4, kbeql24n, c0, c1, c2, c3, c4, c5, y1]
    by_cases g1 : 100 < a.2.1.1.size
    · simp (maxSteps := 1000000) (disch := omega) only [hid1', hid2', guardK_u, takeG_u, wrap_in64, optK_some', fzK_false', nilK_ptr, brK_true', brK_false', guardK_tt', guardK_ff', guardK_tf', guardK_ft', takeG_tt', takeG_ff', takeG_tf', takeG_ft', pickK_t', pickK_f', pickT_t', pickT_f', notK, extract2_0', extract2_1', extract3_0', extract3_1', extract3_2', here_load, here_fieldAt, here_indexAt, here_extract, here_un, here_conv, here_slice, here_bin, here_nil, and_here, true_and, Nat.zero_add, Nat.add_assoc, Nat.add_zero, Int.toNat_natCast, size_alloc, World.cell?_drew, World.frozen?_drew, Bool.not_true, Bool.not_false, Int.toNat_zero, dec_t, dec_f, int_eq_t, int_eq_f, int_ne_t, int_ne_f, wrap_in, klen22, hlen22, kbgtr3, klen9, hlen9, kblss3, kia22, kld30, kal30, kst30f, kfa30_1, kfa28_0, kld9, kfa30_2, kld2, kbgtr2, kfa30_3, kfa30_0, kld3, kbeql3, kld28, kbs35_1_0, kia26, kld33, kbneq3, kal28, kst28f, klen26, hlen26, kfa33_0, kbneq9, kbs26_1_0, kbadd3, kbneq4, kbeql24n, guardK_u]
      exact hR _ q04
    by_cases g2 : 1099511627776 < a.2.2.1
    · simp (maxSteps := 1000000) (disch := omega) only [hid1', hid2', guardK_u, takeG_u, wrap_in64, optK_some', fzK_false', nilK_ptr, brK_true', brK_false', guardK_tt', guardK_ff', guardK_tf', guardK_ft', takeG_tt', takeG_ff', takeG_tf', takeG_ft', pickK_t', pickK_f', pickT_t', pickT_f', notK, extract2_0', extract2_1', extract3_0', extract3_1', extract3_2', here_load, here_fieldAt, here_indexAt, here_extract, here_un, here_conv, here_slice, here_bin, here_nil, and_here, true_and, Nat.zero_add, Nat.add_assoc, Nat.add_zero, Int.toNat_natCast, size_alloc, World.cell?_drew, World.frozen?_drew, Bool.not_true, Bool.not_false, Int.toNat_zero, dec_t, dec_f, int_eq_t, int_eq_f, int_ne_t, int_ne_f, wrap_in, klen22, hlen22, kbgtr3, klen9, hlen9, kblss3, kia22, kld30, kal30, kst30f, kfa30_1, kfa28_0, kld9, kfa30_2, kld2, kbgtr2, kfa30_3, kfa30_0, kld3, kbeql3, kld28, kbs35_1_0, kia26, kld33, kbneq3, kal28, kst28f, klen26, hlen26, kfa33_0, kbneq9, kbs26_1_0, kbadd3, kbneq4, kbeql24n, y4, guardK_u]
      exact hR _ q04
    by_cases g3 : 1099511627776 < a.2.2.2
    · simp (maxSteps := 1000000) (disch := omega) only [hid1', hid2', guardK_u, takeG_u, wrap_in64, optK_some', fzK_false', nilK_ptr, brK_true', brK_false', guardK_tt', guardK_ff', guardK_tf', guardK_ft', takeG_tt', takeG_ff', takeG_tf', takeG_ft', pickK_t', pickK_f', pickT_t', pickT_f', notK, extract2_0', extract2_1', extract3_0', extract3_1', extract3_2', here_load, here_fieldAt, here_indexAt, here_extract, here_un, here_conv, here_slice, here_bin, here_nil, and_here, true_and, Nat.zero_add, Nat.add_assoc, Nat.add_zero, Int.toNat_natCast, size_alloc, World.cell?_drew, World.frozen?_drew, Bool.not_true, Bool.not_false, Int.toNat_zero, dec_t, dec_f, int_eq_t, int_eq_f, int_ne_t, int_ne_f, wrap_in, klen22, hlen22, kbgtr3, klen9, hlen9, kblss3, kia22, kld30, kal30, kst30f, kfa30_1, kfa28_0, kld9, kfa30_2, kld2, kbgtr2, kfa30_3, kfa30_0, kld3, kbeql3, kld28, kbs35_1_0, kia26, kld33, kbneq3, kal28, kst28f, klen26, hlen26, kfa33_0, kbneq9, kbs26_1_0, kbadd3, kbneq4, kbeql24n, y4, y5, guardK_u]
      exact hR _ q04
    simp (maxSteps := 1000000) (disch := omega) only [hid1', hid2', guardK_u, takeG_u, wrap_in64, optK_some', fzK_false', nilK_ptr, brK_true', brK_false', guardK_tt', guardK_ff', guardK_tf', guardK_ft', takeG_tt', takeG_ff', takeG_tf', takeG_ft', pickK_t', pickK_f', pickT_t', pickT_f', notK, extract2_0', extract2_1', extract3_0', extract3_1', extract3_2', here_load, here_fieldAt, here_indexAt, here_extract, here_un, here_conv, here_slice, here_bin, here_nil, and_here, true_and, Nat.zero_add, Nat.add_assoc, Nat.add_zero, Int.toNat_natCast, size_alloc, World.cell?_drew, World.frozen?_drew, Bool.not_true, Bool.not_false, Int.toNat_zero, dec_t, dec_f, int_eq_t, int_eq_f, int_ne_t, int_ne_f, wrap_in, klen22, hlen22, kbgtr3, klen9, hlen9, kblss3, kia22, kld30, kal30, kst30f, kfa30_1, kfa28_0, kld9, kfa30_2, kld2, kbgtr2, kfa30_3, kfa30_0, kld3, kbeql3, kld28, kbs35_1_0, kia26, kld33, kbneq3, kal28, kst28f, klen26, hlen26, kfa33_0, kbneq9, kbs26_1_0, kbadd3, kbneq4, kbeql24n, y4, y5]
    clear y0 y1 y2 y3 y4 y5 c0 c1 c2 c3 c4 c5
    generalize (w3.alloc (.cells #[.int .i64 a.1, .string a.2.1.1, .int .i64 a.2.1.2.1, .int .i64 a.2.1.2.2, .int .i64 a.2.2.1, .int .i64 a.2.2.2] 30)) = w4 at *
    generalize hb8 : w3.heap.size = b8 at *
    have Y := fun w' (q : Qt w4 w') => cell6 (q.heap h8 (fun h => h))
    have l8 := blk_lt h8
    refine cutK2 (fun v1 v2 w' => Both w.heap.size w' v1 v2 ∧ Qt w w') ?_ ?_
    · obtain ⟨y0, y1, y2, y3, y4, y5⟩ := Y w4 Qt.refl
      by_cases o1 : a.1 = 1
      · have e1 : (a.1 == 1) = true := by rw [o1]; rfl
        simp (maxSteps := 1000000) (disch := omega) only [hid1', hid2', guardK_u, takeG_u, wrap_in64, optK_some', fzK_false', nilK_ptr, brK_true', brK_false', guardK_tt', guardK_ff', guardK_tf', guardK_ft', takeG_tt', takeG_ff', takeG_tf', takeG_ft', pickK_t', pickK_f', pickT_t', pickT_f', notK, extract2_0', extract2_1', extract3_0', extract3_1', extract3_2', here_load, here_fieldAt, here_indexAt, here_extract, here_un, here_conv, here_slice, here_bin, here_nil, and_here, true_and, Nat.zero_add, Nat.add_assoc, Nat.add_zero, Int.toNat_natCast, size_alloc, World.cell?_drew, World.frozen?_drew, Bool.not_true, Bool.not_false, Int.toNat_zero, dec_t, dec_f, int_eq_t, int_eq_f, int_ne_t, int_ne_f, wrap_in, klen22, hlen22, kbgtr3, klen9, hlen9, kblss3, kia22, kld30, kal30, kst30f, kfa30_1, kfa28_0, kld9, kfa30_2, kld2, kbgtr2, kfa30_3, kfa30_0, kld3, kbeql3, kld28, kbs35_1_0, kia26, kld33, kbneq3, kal28, kst28f, klen26, hlen26, kfa33_0, kbneq9, kbs26_1_0, kbadd3, kbneq4, kbeql24n, y0, e1, y1, y2, y3]
        have hrab : Reads (w4.alloc (.cells #[.string a.2.1.1, .int .i64 a.2.1.2.1, .int .i64 a.2.1.2.2] 28)) (some ⟨w4.heap.size, 0, none⟩) (rowL [a.2.1]) := by
          refine .inr ⟨w4.heap.size, 0, rfl, fun j hj => ?_⟩
          rw [blk_cell (blk_new _ _), Nat.zero_add]
          simp [cellE]
        have qa : Qt w4 (w4.alloc (.cells #[.string a.2.1.1, .int .i64 a.2.1.2.1, .int .i64 a.2.1.2.2] 28)) := Chg.alloc Qt.refl _
        have sza := qa.size
        generalize (w4.alloc (.cells #[.string a.2.1.1, .int .i64 a.2.1.2.1, .int .i64 a.2.1.2.2] 28)) = wa at *
        generalize hba : w4.heap.size = ba at *
        refine ck10 (of_any (l := [a.2.1]) hrab (by simp) ?_)
        intro A5 c5 w5 r5 hc5 hA5 q5 _
        have q45 := qa.trans q5
        obtain ⟨b5, o5, rfl, z0, z1, z2⟩ := row_at r5 (i := 0) (by simp)
        simp only [List.getElem_cons_zero, Nat.zero_mul, Nat.zero_add, Nat.add_zero] at z0 z1 z2
        have e2 : ((([a.2.1] : List Ent).length : Nat) : Int) = 1 := rfl
        have r5' := r4.quiet q45
        simp (maxSteps := 1000000) (disch := omega) only [hid1', hid2', guardK_u, takeG_u, wrap_in64, optK_some', fzK_false', nilK_ptr, brK_true', brK_false', guardK_tt', guardK_ff', guardK_tf', guardK_ft', takeG_tt', takeG_ff', takeG_tf', takeG_ft', pickK_t', pickK_f', pickT_t', pickT_f', notK, extract2_0', extract2_1', extract3_0', extract3_1', extract3_2', here_load, here_fieldAt, here_indexAt, here_extract, here_un, here_conv, here_slice, here_bin, here_nil, and_here, true_and, Nat.zero_add, Nat.add_assoc, Nat.add_zero, Int.toNat_natCast, size_alloc, World.cell?_drew, World.frozen?_drew, Bool.not_true, Bool.not_false, Int.toNat_zero, dec_t, dec_f, int_eq_t, int_eq_f, int_ne_t, int_ne_f, wrap_in, klen22, hlen22, kbgtr3, klen9, hlen9, kblss3, kia22, kld30, kal30, kst30f, kfa30_1, kfa28_0, kld9, kfa30_2, kld2, kbgtr2, kfa30_3, kfa30_0, kld3, kbeql3, kld28, kbs35_1_0, kia26, kld33, kbneq3, kal28, kst28f, klen26, hlen26, kfa33_0, kbneq9, kbs26_1_0, kbadd3, kbneq4, kbeql24n, e2, Nat.zero_mul, z0, z1, z2]
        rw [ev5]
        refine ck9 (putR_any (e := a.2.1) r5' hc hA hg.up hg.key (by omega) (by omega) ?_)
        intro A6 c6 w6 r6 hc6 hA6 q6 fr6
        have q46 := q45.trans q6
        obtain ⟨y0, y1, y2, y3, y4, y5⟩ := Y w6 q46
        have v6 := v4.quiet q46
        have q06 := q04.trans q46
        simp (maxSteps := 1000000) (disch := omega) only [hid1', hid2', guardK_u, takeG_u, wrap_in64, optK_some', fzK_false', nilK_ptr, brK_true', brK_false', guardK_tt', guardK_ff', guardK_tf', guardK_ft', takeG_tt', takeG_ff', takeG_tf', takeG_ft', pickK_t', pickK_f', pickT_t', pickT_f', notK, extract2_0', extract2_1', extract3_0', extract3_1', extract3_2', here_load, here_fieldAt, here_indexAt, here_extract, here_un, here_conv, here_slice, here_bin, here_nil, and_here, true_and, Nat.zero_add, Nat.add_assoc, Nat.add_zero, Int.toNat_natCast, size_alloc, World.cell?_drew, World.frozen?_drew, Bool.not_true, Bool.not_false, Int.toNat_zero, dec_t, dec_f, int_eq_t, int_eq_f, int_ne_t, int_ne_f, wrap_in, klen22, hlen22, kbgtr3, klen9, hlen9, kblss3, kia22, kld30, kal30, kst30f, kfa30_1, kfa28_0, kld9, kfa30_2, kld2, kbgtr2, kfa30_3, kfa30_0, kld3, kbeql3, kld28, kbs35_1_0, kia26, kld33, kbneq3, kal28, kst28f, klen26, hlen26, kfa33_0, kbneq9, kbs26_1_0, kbadd3, kbneq4, kbeql24n, y1, y2, y3]
        rw [ev5]
        refine ck11 (put_bv (e := a.2.1) hm v6 q06 hfew (by omega) ?_)
        intro F7 w7 v7 q7 k7 f7
        have e3 : ((putE m a.2.1).2 != (putE m a.2.1).2) = false := bne_self_eq_false _
        have hs46 := q46.size
        have hs5 := q45.size
        have sep6 : ∀ ad, A6 = some ad → (putE m a.2.1).1 ≠ [] → ad.block ≠ g ∧ F ≠ some ad.block := fun ad ha hne => by
          rcases fr6 ad ha with ⟨e1, e2⟩ | h
          · exact hsep ad e1 (by rw [← e2]; exact hne)
          · exact ⟨by omega, fun e => by have := hlow4.2 _ e; omega⟩
        have r7 : Reads w7 A6 (rowE (putE m a.2.1).1) := reads_sep r6 k7 (fun ad ha hne e => by
          have := sep6 ad ha hne
          rcases e with e | e
          · exact this.1 e
          · exact this.2 e)
        simp (maxSteps := 1000000) (disch := omega) only [hid1', hid2', guardK_u, takeG_u, wrap_in64, optK_some', fzK_false', nilK_ptr, brK_true', brK_false', guardK_tt', guardK_ff', guardK_tf', guardK_ft', takeG_tt', takeG_ff', takeG_tf', takeG_ft', pickK_t', pickK_f', pickT_t', pickT_f', notK, extract2_0', extract2_1', extract3_0', extract3_1', extract3_2', here_load, here_fieldAt, here_indexAt, here_extract, here_un, here_conv, here_slice, here_bin, here_nil, and_here, true_and, Nat.zero_add, Nat.add_assoc, Nat.add_zero, Int.toNat_natCast, size_alloc, World.cell?_drew, World.frozen?_drew, Bool.not_true, Bool.not_false, Int.toNat_zero, dec_t, dec_f, int_eq_t, int_eq_f, int_ne_t, int_ne_f, wrap_in, klen22, hlen22, kbgtr3, klen9, hlen9, kblss3, kia22, kld30, kal30, kst30f, kfa30_1, kfa28_0, kld9, kfa30_2, kld2, kbgtr2, kfa30_3, kfa30_0, kld3, kbeql3, kld28, kbs35_1_0, kia26, kld33, kbneq3, kal28, kst28f, klen26, hlen26, kfa33_0, kbneq9, kbs26_1_0, kbadd3, kbneq4, kbeql24n, e3]
        refine ⟨⟨x, g, (putE m a.2.1).1, F7, A6, c6, rfl, rfl, v7, putE_good hg _, r7, hc6, hA6, fun ad ha hne => ⟨(sep6 ad ha hne).1, fun e => ?_⟩, putE_siz hsiz (by omega)⟩, q7⟩
        rcases f7 _ e with e | e
        · exact (sep6 ad ha hne).2 e
        · subst ha
          have := reads_lt r6 hne
          omega
      have e1 : (a.1 == 1) = false := beq_eq_false_iff_ne.2 o1
      by_cases o2 : a.1 = 2
      · have e2 : (a.1 == 2) = true := by rw [o2]; rfl
        simp (maxSteps := 1000000) (disch := omega) only [hid1', hid2', guardK_u, takeG_u, wrap_in64, optK_some', fzK_false', nilK_ptr, brK_true', brK_false', guardK_tt', guardK_ff', guardK_tf', guardK_ft', takeG_tt', takeG_ff', takeG_tf', takeG_ft', pickK_t', pickK_f', pickT_t', pickT_f', notK, extract2_0', extract2_1', extract3_0', extract3_1', extract3_2', here_load, here_fieldAt, here_indexAt, here_extract, here_un, here_conv, here_slice, here_bin, here_nil, and_here, true_and, Nat.zero_add, Nat.add_assoc, Nat.add_zero, Int.toNat_natCast, size_alloc, World.cell?_drew, World.frozen?_drew, Bool.not_true, Bool.not_false, Int.toNat_zero, dec_t, dec_f, int_eq_t, int_eq_f, int_ne_t, int_ne_f, wrap_in, klen22, hlen22, kbgtr3, klen9, hlen9, kblss3, kia22, kld30, kal30, kst30f, kfa30_1, kfa28_0, kld9, kfa30_2, kld2, kbgtr2, kfa30_3, kfa30_0, kld3, kbeql3, kld28, kbs35_1_0, kia26, kld33, kbneq3, kal28, kst28f, klen26, hlen26, kfa33_0, kbneq9, kbs26_1_0, kbadd3, kbneq4, kbeql24n, y0, e1, e2, y1]
        refine ck12 (get_book (p := a.2.1.1) v4.at_ ?_)
        intro w5 q5
        have q45 := q5
        have qb : Qt w5 (w5.alloc (.cells #[.string (getE m a.2.1.1).1, .int .i64 (getE m a.2.1.1).2.1, .int .i64 (getE m a.2.1.1).2.2] 28)) := Chg.alloc Qt.refl _
        simp (maxSteps := 1000000) (disch := omega) only [hid1', hid2', guardK_u, takeG_u, wrap_in64, optK_some', fzK_false', nilK_ptr, brK_true', brK_false', guardK_tt', guardK_ff', guardK_tf', guardK_ft', takeG_tt', takeG_ff', takeG_tf', takeG_ft', pickK_t', pickK_f', pickT_t', pickT_f', notK, extract2_0', extract2_1', extract3_0', extract3_1', extract3_2', here_load, here_fieldAt, here_indexAt, here_extract, here_un, here_conv, here_slice, here_bin, here_nil, and_here, true_and, Nat.zero_add, Nat.add_assoc, Nat.add_zero, Int.toNat_natCast, size_alloc, World.cell?_drew, World.frozen?_drew, Bool.not_true, Bool.not_false, Int.toNat_zero, dec_t, dec_f, int_eq_t, int_eq_f, int_ne_t, int_ne_f, wrap_in, klen22, hlen22, kbgtr3, klen9, hlen9, kblss3, kia22, kld30, kal30, kst30f, kfa30_1, kfa28_0, kld9, kfa30_2, kld2, kbgtr2, kfa30_3, kfa30_0, kld3, kbeql3, kld28, kbs35_1_0, kia26, kld33, kbneq3, kal28, kst28f, klen26, hlen26, kfa33_0, kbneq9, kbs26_1_0, kbadd3, kbneq4, kbeql24n]
        have v6 := (v4.quiet q5).quiet qb
        have q46 := q5.trans qb
        generalize (w5.alloc (.cells #[.string (getE m a.2.1.1).1, .int .i64 (getE m a.2.1.1).2.1, .int .i64 (getE m a.2.1.1).2.2] 28)) = w6 at *
        have r6 := r4.quiet q46
        have hs46 := q46.size
        refine loopK2 (fun v n w' => ∃ (j : Nat) (G : Option Nat), n = .int .i64 j ∧ j ≤ m.length ∧ Own w' 33 3 v ((m.take j).filter (fun x => decide (x.1 ≠ a.2.1.1))).length (rowE ((m.take j).filter (fun x => decide (x.1 ≠ a.2.1.1)))) G ∧ (∀ k, G = some k → w4.heap.size ≤ k) ∧ Qt w4 w') (fun _ n _ => m.length - (intOf n).toNat) ⟨0, none, rfl, by omega, Own.nil _ _ _, fun _ h => (by cases h), q46⟩ ?_
        rintro u _ _ w7 ⟨j, G, rfl, hj, o7, hG, q7⟩
        obtain ⟨A7, c7, rfl, hc7, hc7'⟩ := o7.shape
        have hfl : ((m.take j).filter (fun x => decide (x.1 ≠ a.2.1.1))).length ≤ (m.take j).length := List.length_filter_le _ _
        rw [List.length_take] at hfl
        by_cases hjl : j < m.length
        · have hsn := drop_succ (p := a.2.1.1) hjl
          have hkey := hg.key m[j] (List.getElem_mem hjl)
          obtain ⟨b9, o9, rfl, _⟩ := ent_at rr hjl
          have T0 : ∀ w', Qt w4 w' → w'.cell? ⟨b9, o9 + j * 3, none⟩ = some (.string m[j].2.1) ∧ w'.cell? ⟨b9, o9 + (j * 3 + 1), none⟩ = some (.int .i64 m[j].2.2.1) ∧ w'.cell? ⟨b9, o9 + (j * 3 + 2), none⟩ = some (.int .i64 m[j].2.2.2) := fun w' q => by
            obtain ⟨b', o', ee, h⟩ := ent_at (r4.quiet q) hjl
            cases ee; exact h
          rw [hkey] at T0
          generalize m[j] = y at *
          obtain ⟨p, p', n1, n2⟩ := y
          simp only at T0 hsn hkey
          subst hkey
          have kd : Qt w7 w7.drew := Qt.drew Qt.refl
          have q7d := q7.trans kd
          simp (maxSteps := 1000000) (disch := omega) only [hid1', hid2', guardK_u, takeG_u, wrap_in64, optK_some', fzK_false', nilK_ptr, brK_true', brK_false', guardK_tt', guardK_ff', guardK_tf', guardK_ft', takeG_tt', takeG_ff', takeG_tf', takeG_ft', pickK_t', pickK_f', pickT_t', pickT_f', notK, extract2_0', extract2_1', extract3_0', extract3_1', extract3_2', here_load, here_fieldAt, here_indexAt, here_extract, here_un, here_conv, here_slice, here_bin, here_nil, and_here, true_and, Nat.zero_add, Nat.add_assoc, Nat.add_zero, Int.toNat_natCast, size_alloc, World.cell?_drew, World.frozen?_drew, Bool.not_true, Bool.not_false, Int.toNat_zero, dec_t, dec_f, int_eq_t, int_eq_f, int_ne_t, int_ne_f, wrap_in, klen22, hlen22, kbgtr3, klen9, hlen9, kblss3, kia22, kld30, kal30, kst30f, kfa30_1, kfa28_0, kld9, kfa30_2, kld2, kbgtr2, kfa30_3, kfa30_0, kld3, kbeql3, kld28, kbs35_1_0, kia26, kld33, kbneq3, kal28, kst28f, klen26, hlen26, kfa33_0, kbneq9, kbs26_1_0, kbadd3, kbneq4, kbeql24n]
          refine drawK_by (fun w' => Qt w4 w') q7d ?_
          refine take_index (.pointer (some ⟨b9, o9 + j * 3, none⟩)) (fun w' hq => by (simp (maxSteps := 1000000) (disch := omega) only [hid1', hid2', guardK_u, takeG_u, wrap_in64, optK_some', fzK_false', nilK_ptr, brK_true', brK_false', guardK_tt', guardK_ff', guardK_tf', guardK_ft', takeG_tt', takeG_ff', takeG_tf', takeG_ft', pickK_t', pickK_f', pickT_t', pickT_f', notK, extract2_0', extract2_1', extract3_0', extract3_1', extract3_2', here_load, here_fieldAt, here_indexAt, here_extract, here_un, here_conv, here_slice, here_bin, here_nil, and_here, true_and, Nat.zero_add, Nat.add_assoc, Nat.add_zero, Int.toNat_natCast, size_alloc, World.cell?_drew, World.frozen?_drew, Bool.not_true, Bool.not_false, Int.toNat_zero, dec_t, dec_f, int_eq_t, int_eq_f, int_ne_t, int_ne_f, wrap_in, klen22, hlen22, kbgtr3, klen9, hlen9, kblss3, kia22, kld30, kal30, kst30f, kfa30_1, kfa28_0, kld9, kfa30_2, kld2, kbgtr2, kfa30_3, kfa30_0, kld3, kbeql3, kld28, kbs35_1_0, kia26, kld33, kbneq3, kal28, kst28f, klen26, hlen26, kfa33_0, kbneq9, kbs26_1_0, kbadd3, kbneq4, kbeql24n]; try (exact ⟨trivial, trivial⟩))) ?_
          refine take_field (.pointer (some ⟨b9, o9 + j * 3, none⟩)) (fun w' hq => by (simp (maxSteps := 1000000) (disch := omega) only [hid1', hid2', guardK_u, takeG_u, wrap_in64, optK_some', fzK_false', nilK_ptr, brK_true', brK_false', guardK_tt', guardK_ff', guardK_tf', guardK_ft', takeG_tt', takeG_ff', takeG_tf', takeG_ft', pickK_t', pickK_f', pickT_t', pickT_f', notK, extract2_0', extract2_1', extract3_0', extract3_1', extract3_2', here_load, here_fieldAt, here_indexAt, here_extract, here_un, here_conv, here_slice, here_bin, here_nil, and_here, true_and, Nat.zero_add, Nat.add_assoc, Nat.add_zero, Int.toNat_natCast, size_alloc, World.cell?_drew, World.frozen?_drew, Bool.not_true, Bool.not_false, Int.toNat_zero, dec_t, dec_f, int_eq_t, int_eq_f, int_ne_t, int_ne_f, wrap_in, klen22, hlen22, kbgtr3, klen9, hlen9, kblss3, kia22, kld30, kal30, kst30f, kfa30_1, kfa28_0, kld9, kfa30_2, kld2, kbgtr2, kfa30_3, kfa30_0, kld3, kbeql3, kld28, kbs35_1_0, kia26, kld33, kbneq3, kal28, kst28f, klen26, hlen26, kfa33_0, kbneq9, kbs26_1_0, kbadd3, kbneq4, kbeql24n]; try (exact ⟨trivial, trivial⟩))) ?_
          refine take_load (.string p') (fun w' hq => by have h := (T0 w' hq).1; (simp (maxSteps := 1000000) (disch := omega) only [hid1', hid2', guardK_u, takeG_u, wrap_in64, optK_some', fzK_false', nilK_ptr, brK_true', brK_false', guardK_tt', guardK_ff', guardK_tf', guardK_ft', takeG_tt', takeG_ff', takeG_tf', takeG_ft', pickK_t', pickK_f', pickT_t', pickT_f', notK, extract2_0', extract2_1', extract3_0', extract3_1', extract3_2', here_load, here_fieldAt, here_indexAt, here_extract, here_un, here_conv, here_slice, here_bin, here_nil, and_here, true_and, Nat.zero_add, Nat.add_assoc, Nat.add_zero, Int.toNat_natCast, size_alloc, World.cell?_drew, World.frozen?_drew, Bool.not_true, Bool.not_false, Int.toNat_zero, dec_t, dec_f, int_eq_t, int_eq_f, int_ne_t, int_ne_f, wrap_in, klen22, hlen22, kbgtr3, klen9, hlen9, kblss3, kia22, kld30, kal30, kst30f, kfa30_1, kfa28_0, kld9, kfa30_2, kld2, kbgtr2, kfa30_3, kfa30_0, kld3, kbeql3, kld28, kbs35_1_0, kia26, kld33, kbneq3, kal28, kst28f, klen26, hlen26, kfa33_0, kbneq9, kbs26_1_0, kbadd3, kbneq4, kbeql24n, h]; try (exact ⟨trivial, trivial⟩))) ?_
          refine take_field (.pointer (some ⟨b8, 1, none⟩)) (fun w' hq => by (simp (maxSteps := 1000000) (disch := omega) only [hid1', hid2', guardK_u, takeG_u, wrap_in64, optK_some', fzK_false', nilK_ptr, brK_true', brK_false', guardK_tt', guardK_ff', guardK_tf', guardK_ft', takeG_tt', takeG_ff', takeG_tf', takeG_ft', pickK_t', pickK_f', pickT_t', pickT_f', notK, extract2_0', extract2_1', extract3_0', extract3_1', extract3_2', here_load, here_fieldAt, here_indexAt, here_extract, here_un, here_conv, here_slice, here_bin, here_nil, and_here, true_and, Nat.zero_add, Nat.add_assoc, Nat.add_zero, Int.toNat_natCast, size_alloc, World.cell?_drew, World.frozen?_drew, Bool.not_true, Bool.not_false, Int.toNat_zero, dec_t, dec_f, int_eq_t, int_eq_f, int_ne_t, int_ne_f, wrap_in, klen22, hlen22, kbgtr3, klen9, hlen9, kblss3, kia22, kld30, kal30, kst30f, kfa30_1, kfa28_0, kld9, kfa30_2, kld2, kbgtr2, kfa30_3, kfa30_0, kld3, kbeql3, kld28, kbs35_1_0, kia26, kld33, kbneq3, kal28, kst28f, klen26, hlen26, kfa33_0, kbneq9, kbs26_1_0, kbadd3, kbneq4, kbeql24n]; try (exact ⟨trivial, trivial⟩))) ?_
          refine take_field (.pointer (some ⟨b8, 1, none⟩)) (fun w' hq => by (simp (maxSteps := 1000000) (disch := omega) only [hid1', hid2', guardK_u, takeG_u, wrap_in64, optK_some', fzK_false', nilK_ptr, brK_true', brK_false', guardK_tt', guardK_ff', guardK_tf', guardK_ft', takeG_tt', takeG_ff', takeG_tf', takeG_ft', pickK_t', pickK_f', pickT_t', pickT_f', notK, extract2_0', extract2_1', extract3_0', extract3_1', extract3_2', here_load, here_fieldAt, here_indexAt, here_extract, here_un, here_conv, here_slice, here_bin, here_nil, and_here, true_and, Nat.zero_add, Nat.add_assoc, Nat.add_zero, Int.toNat_natCast, size_alloc, World.cell?_drew, World.frozen?_drew, Bool.not_true, Bool.not_false, Int.toNat_zero, dec_t, dec_f, int_eq_t, int_eq_f, int_ne_t, int_ne_f, wrap_in, klen22, hlen22, kbgtr3, klen9, hlen9, kblss3, kia22, kld30, kal30, kst30f, kfa30_1, kfa28_0, kld9, kfa30_2, kld2, kbgtr2, kfa30_3, kfa30_0, kld3, kbeql3, kld28, kbs35_1_0, kia26, kld33, kbneq3, kal28, kst28f, klen26, hlen26, kfa33_0, kbneq9, kbs26_1_0, kbadd3, kbneq4, kbeql24n]; try (exact ⟨trivial, trivial⟩))) ?_
          refine take_load (.string a.2.1.1) (fun w' hq => by have h := (Y w' hq).2.1; (simp (maxSteps := 1000000) (disch := omega) only [hid1', hid2', guardK_u, takeG_u, wrap_in64, optK_some', fzK_false', nilK_ptr, brK_true', brK_false', guardK_tt', guardK_ff', guardK_tf', guardK_ft', takeG_tt', takeG_ff', takeG_tf', takeG_ft', pickK_t', pickK_f', pickT_t', pickT_f', notK, extract2_0', extract2_1', extract3_0', extract3_1', extract3_2', here_load, here_fieldAt, here_indexAt, here_extract, here_un, here_conv, here_slice, here_bin, here_nil, and_here, true_and, Nat.zero_add, Nat.add_assoc, Nat.add_zero, Int.toNat_natCast, size_alloc, World.cell?_drew, World.frozen?_drew, Bool.not_true, Bool.not_false, Int.toNat_zero, dec_t, dec_f, int_eq_t, int_eq_f, int_ne_t, int_ne_f, wrap_in, klen22, hlen22, kbgtr3, klen9, hlen9, kblss3, kia22, kld30, kal30, kst30f, kfa30_1, kfa28_0, kld9, kfa30_2, kld2, kbgtr2, kfa30_3, kfa30_0, kld3, kbeql3, kld28, kbs35_1_0, kia26, kld33, kbneq3, kal28, kst28f, klen26, hlen26, kfa33_0, kbneq9, kbs26_1_0, kbadd3, kbneq4, kbeql24n, h]; try (exact ⟨trivial, trivial⟩))) ?_
          have o7d := o7.chg kd (fun _ _ h => h)
          have hzd := q7d.size
          by_cases hpk : p' = a.2.1.1
          · have hb : (p'.toList == a.2.1.1.toList) = true := by rw [hpk]; exact beq_self_eq_true _
            refine take_txt .neq (.bool false) (fun w' _ => by simp (maxSteps := 1000000) (disch := omega) only [hid1', hid2', guardK_u, takeG_u, wrap_in64, optK_some', fzK_false', nilK_ptr, brK_true', brK_false', guardK_tt', guardK_ff', guardK_tf', guardK_ft', takeG_tt', takeG_ff', takeG_tf', takeG_ft', pickK_t', pickK_f', pickT_t', pickT_f', notK, extract2_0', extract2_1', extract3_0', extract3_1', extract3_2', here_load, here_fieldAt, here_indexAt, here_extract, here_un, here_conv, here_slice, here_bin, here_nil, and_here, true_and, Nat.zero_add, Nat.add_assoc, Nat.add_zero, Int.toNat_natCast, size_alloc, World.cell?_drew, World.frozen?_drew, Bool.not_true, Bool.not_false, Int.toNat_zero, dec_t, dec_f, int_eq_t, int_eq_f, int_ne_t, int_ne_f, wrap_in, klen22, hlen22, kbgtr3, klen9, hlen9, kblss3, kia22, kld30, kal30, kst30f, kfa30_1, kfa28_0, kld9, kfa30_2, kld2, kbgtr2, kfa30_3, kfa30_0, kld3, kbeql3, kld28, kbs35_1_0, kia26, kld33, kbneq3, kal28, kst28f, klen26, hlen26, kfa33_0, kbneq9, kbs26_1_0, kbadd3, kbneq4, kbeql24n, hb, Bool.not_true, here_rfl]; try (exact ⟨trivial, trivial⟩)) ?_
            rw [if_pos hpk, List.append_nil] at hsn
            simp (maxSteps := 1000000) (disch := omega) only [hid1', hid2', guardK_u, takeG_u, wrap_in64, optK_some', fzK_false', nilK_ptr, brK_true', brK_false', guardK_tt', guardK_ff', guardK_tf', guardK_ft', takeG_tt', takeG_ff', takeG_tf', takeG_ft', pickK_t', pickK_f', pickT_t', pickT_f', notK, extract2_0', extract2_1', extract3_0', extract3_1', extract3_2', here_load, here_fieldAt, here_indexAt, here_extract, here_un, here_conv, here_slice, here_bin, here_nil, and_here, true_and, Nat.zero_add, Nat.add_assoc, Nat.add_zero, Int.toNat_natCast, size_alloc, World.cell?_drew, World.frozen?_drew, Bool.not_true, Bool.not_false, Int.toNat_zero, dec_t, dec_f, int_eq_t, int_eq_f, int_ne_t, int_ne_f, wrap_in, klen22, hlen22, kbgtr3, klen9, hlen9, kblss3, kia22, kld30, kal30, kst30f, kfa30_1, kfa28_0, kld9, kfa30_2, kld2, kbgtr2, kfa30_3, kfa30_0, kld3, kbeql3, kld28, kbs35_1_0, kia26, kld33, kbneq3, kal28, kst28f, klen26, hlen26, kfa33_0, kbneq9, kbs26_1_0, kbadd3, kbneq4, kbeql24n]
            exact ⟨⟨j + 1, G, by go_num, by omega, by rw [hsn]; exact o7d, hG, q7d⟩, by simp [rel, intOf]; omega⟩
          · have hb : (p'.toList == a.2.1.1.toList) = false := by rw [beq_eq_false_iff_ne]; exact fun e => hpk (toList_inj e)
            refine take_txt .neq (.bool true) (fun w' _ => by simp (maxSteps := 1000000) (disch := omega) only [hid1', hid2', guardK_u, takeG_u, wrap_in64, optK_some', fzK_false', nilK_ptr, brK_true', brK_false', guardK_tt', guardK_ff', guardK_tf', guardK_ft', takeG_tt', takeG_ff', takeG_tf', takeG_ft', pickK_t', pickK_f', pickT_t', pickT_f', notK, extract2_0', extract2_1', extract3_0', extract3_1', extract3_2', here_load, here_fieldAt, here_indexAt, here_extract, here_un, here_conv, here_slice, here_bin, here_nil, and_here, true_and, Nat.zero_add, Nat.add_assoc, Nat.add_zero, Int.toNat_natCast, size_alloc, World.cell?_drew, World.frozen?_drew, Bool.not_true, Bool.not_false, Int.toNat_zero, dec_t, dec_f, int_eq_t, int_eq_f, int_ne_t, int_ne_f, wrap_in, klen22, hlen22, kbgtr3, klen9, hlen9, kblss3, kia22, kld30, kal30, kst30f, kfa30_1, kfa28_0, kld9, kfa30_2, kld2, kbgtr2, kfa30_3, kfa30_0, kld3, kbeql3, kld28, kbs35_1_0, kia26, kld33, kbneq3, kal28, kst28f, klen26, hlen26, kfa33_0, kbneq9, kbs26_1_0, kbadd3, kbneq4, kbeql24n, hb, Bool.not_false, here_rfl]; try (exact ⟨trivial, trivial⟩)) ?_
            rw [if_neg hpk] at hsn
            obtain ⟨c0, c1, c2⟩ := T0 w7.drew q7d
            generalize w7.drew = wd at *
            obtain ⟨A8, p8, G8, w8, rr8, o8, k8, f8⟩ := push3 (P := Tryd.prog) tyN o7d (p', n1, n2) (by omega) (by omega) 26
            simp (maxSteps := 1000000) (disch := omega) only [hid1', hid2', guardK_u, takeG_u, wrap_in64, optK_some', fzK_false', nilK_ptr, brK_true', brK_false', guardK_tt', guardK_ff', guardK_tf', guardK_ft', takeG_tt', takeG_ff', takeG_tf', takeG_ft', pickK_t', pickK_f', pickT_t', pickT_f', notK, extract2_0', extract2_1', extract3_0', extract3_1', extract3_2', here_load, here_fieldAt, here_indexAt, here_extract, here_un, here_conv, here_slice, here_bin, here_nil, and_here, true_and, Nat.zero_add, Nat.add_assoc, Nat.add_zero, Int.toNat_natCast, size_alloc, World.cell?_drew, World.frozen?_drew, Bool.not_true, Bool.not_false, Int.toNat_zero, dec_t, dec_f, int_eq_t, int_eq_f, int_ne_t, int_ne_f, wrap_in, klen22, hlen22, kbgtr3, klen9, hlen9, kblss3, kia22, kld30, kal30, kst30f, kfa30_1, kfa28_0, kld9, kfa30_2, kld2, kbgtr2, kfa30_3, kfa30_0, kld3, kbeql3, kld28, kbs35_1_0, kia26, kld33, kbneq3, kal28, kst28f, klen26, hlen26, kfa33_0, kbneq9, kbs26_1_0, kbadd3, kbneq4, kbeql24n, c0, c1, c2]
            refine appK rr8 ?_
            simp (maxSteps := 1000000) (disch := omega) only [hid1', hid2', guardK_u, takeG_u, wrap_in64, optK_some', fzK_false', nilK_ptr, brK_true', brK_false', guardK_tt', guardK_ff', guardK_tf', guardK_ft', takeG_tt', takeG_ff', takeG_tf', takeG_ft', pickK_t', pickK_f', pickT_t', pickT_f', notK, extract2_0', extract2_1', extract3_0', extract3_1', extract3_2', here_load, here_fieldAt, here_indexAt, here_extract, here_un, here_conv, here_slice, here_bin, here_nil, and_here, true_and, Nat.zero_add, Nat.add_assoc, Nat.add_zero, Int.toNat_natCast, size_alloc, World.cell?_drew, World.frozen?_drew, Bool.not_true, Bool.not_false, Int.toNat_zero, dec_t, dec_f, int_eq_t, int_eq_f, int_ne_t, int_ne_f, wrap_in, klen22, hlen22, kbgtr3, klen9, hlen9, kblss3, kia22, kld30, kal30, kst30f, kfa30_1, kfa28_0, kld9, kfa30_2, kld2, kbgtr2, kfa30_3, kfa30_0, kld3, kbeql3, kld28, kbs35_1_0, kia26, kld33, kbneq3, kal28, kst28f, klen26, hlen26, kfa33_0, kbneq9, kbs26_1_0, kbadd3, kbneq4, kbeql24n]
            refine ⟨⟨j + 1, G8, by go_num, by omega, ?_, fun k hk => (f8 k hk).elim (hG k) (fun h => by omega), Qt.then q7d k8 hG⟩, by simp [rel, intOf]; omega⟩
            rw [hsn, List.length_append, rowE_app]; simpa [rowE] using o8
        · obtain rfl : j = m.length := by omega
          rw [List.take_length, ← drop_filter hg.up] at o7 ⊢
          have hfl := fnd_len m a.2.1.1
          obtain ⟨g2, g3⟩ := own_shape2 o7
          have hfi : (decide (((dropM SE.lt m a.2.1.1).length : Int) < (m.length : Int))) = fnd SE.lt m a.2.1.1 := by rw [hfl]; exact decide_eq_decide.2 (by omega)
          have hff : (fnd SE.lt m a.2.1.1 != fnd SE.lt m a.2.1.1) = false := bne_self_eq_false _
          obtain ⟨y0, y1, y2, y3, y4, y5⟩ := Y w7 q7
          have v7 := v4.quiet q7
          simp (maxSteps := 1000000) (disch := omega) only [hid1', hid2', guardK_u, takeG_u, wrap_in64, optK_some', fzK_false', nilK_ptr, brK_true', brK_false', guardK_tt', guardK_ff', guardK_tf', guardK_ft', takeG_tt', takeG_ff', takeG_tf', takeG_ft', pickK_t', pickK_f', pickT_t', pickT_f', notK, extract2_0', extract2_1', extract3_0', extract3_1', extract3_2', here_load, here_fieldAt, here_indexAt, here_extract, here_un, here_conv, here_slice, here_bin, here_nil, and_here, true_and, Nat.zero_add, Nat.add_assoc, Nat.add_zero, Int.toNat_natCast, size_alloc, World.cell?_drew, World.frozen?_drew, Bool.not_true, Bool.not_false, Int.toNat_zero, dec_t, dec_f, int_eq_t, int_eq_f, int_ne_t, int_ne_f, wrap_in, klen22, hlen22, kbgtr3, klen9, hlen9, kblss3, kia22, kld30, kal30, kst30f, kfa30_1, kfa28_0, kld9, kfa30_2, kld2, kbgtr2, kfa30_3, kfa30_0, kld3, kbeql3, kld28, kbs35_1_0, kia26, kld33, kbneq3, kal28, kst28f, klen26, hlen26, kfa33_0, kbneq9, kbs26_1_0, kbadd3, kbneq4, kbeql24n, hfi, hff, y1]
          refine ck13 (drop_book (p := a.2.1.1) v7.at_ ?_)
          intro w8 h8' k8
          have nS : ∀ k, w4.heap.size ≤ k → ¬ (k = g ∨ F = some k) := fun k hk e => by
            rcases e with e | e
            · omega
            · have := hlow4.2 _ e; omega
          have r8 : Reads w8 A7 (rowE (dropM SE.lt m a.2.1.1)) := (reads_own o7).chg k8 (fun ad h => nS _ (own_block o7 hG ad h))
          have q08 : Qt w w8 := Qt.then (q04.trans q7) k8 (fun q h => by
            rcases h with h | h
            · rw [h]; exact v4.g0
            · exact v4.f0 q h)
          simp (maxSteps := 1000000) (disch := omega) only [hid1', hid2', guardK_u, takeG_u, wrap_in64, optK_some', fzK_false', nilK_ptr, brK_true', brK_false', guardK_tt', guardK_ff', guardK_tf', guardK_ft', takeG_tt', takeG_ff', takeG_tf', takeG_ft', pickK_t', pickK_f', pickT_t', pickT_f', notK, extract2_0', extract2_1', extract3_0', extract3_1', extract3_2', here_load, here_fieldAt, here_indexAt, here_extract, here_un, here_conv, here_slice, here_bin, here_nil, and_here, true_and, Nat.zero_add, Nat.add_assoc, Nat.add_zero, Int.toNat_natCast, size_alloc, World.cell?_drew, World.frozen?_drew, Bool.not_true, Bool.not_false, Int.toNat_zero, dec_t, dec_f, int_eq_t, int_eq_f, int_ne_t, int_ne_f, wrap_in, klen22, hlen22, kbgtr3, klen9, hlen9, kblss3, kia22, kld30, kal30, kst30f, kfa30_1, kfa28_0, kld9, kfa30_2, kld2, kbgtr2, kfa30_3, kfa30_0, kld3, kbeql3, kld28, kbs35_1_0, kia26, kld33, kbneq3, kal28, kst28f, klen26, hlen26, kfa33_0, kbneq9, kbs26_1_0, kbadd3, kbneq4, kbeql24n, hff]
          refine ⟨⟨x, g, _, F, A7, c7, rfl, rfl, ⟨h8', v4.x0, v4.g0, v4.f0⟩, drop_good hg _, r8, g2, g3, fun ad ha hne => ?_, drop_siz hg _ hsiz⟩, q08⟩
          have := own_block o7 hG ad ha
          exact ⟨by omega, fun e => by have := hlow4.2 _ e; omega⟩
      have e2 : (a.1 == 2) = false := beq_eq_false_iff_ne.2 o2
      by_cases o3 : a.1 = 3
      · have e3 : (a.1 == 3) = true := by rw [o3]; rfl
        obtain ⟨⟨h0a, h0b⟩, h1a, h1b⟩ := hka
        simp (maxSteps := 1000000) (disch := omega) only [hid1', hid2', guardK_u, takeG_u, wrap_in64, optK_some', fzK_false', nilK_ptr, brK_true', brK_false', guardK_tt', guardK_ff', guardK_tf', guardK_ft', takeG_tt', takeG_ff', takeG_tf', takeG_ft', pickK_t', pickK_f', pickT_t', pickT_f', notK, extract2_0', extract2_1', extract3_0', extract3_1', extract3_2', here_load, here_fieldAt, here_indexAt, here_extract, here_un, here_conv, here_slice, here_bin, here_nil, and_here, true_and, Nat.zero_add, Nat.add_assoc, Nat.add_zero, Int.toNat_natCast, size_alloc, World.cell?_drew, World.frozen?_drew, Bool.not_true, Bool.not_false, Int.toNat_zero, dec_t, dec_f, int_eq_t, int_eq_f, int_ne_t, int_ne_f, wrap_in, klen22, hlen22, kbgtr3, klen9, hlen9, kblss3, kia22, kld30, kal30, kst30f, kfa30_1, kfa28_0, kld9, kfa30_2, kld2, kbgtr2, kfa30_3, kfa30_0, kld3, kbeql3, kld28, kbs35_1_0, kia26, kld33, kbneq3, kal28, kst28f, klen26, hlen26, kfa33_0, kbneq9, kbs26_1_0, kbadd3, kbneq4, kbeql24n, y0, e1, e2, e3, y1, y4, y5]
        refine ck14 (sweepR_any (now := a.2.2.1) (age := a.2.2.2) (keep := a.2.1.1) r4 hc hA (by omega) hg.key ⟨by omega, by omega⟩ ⟨by omega, by omega⟩ ?_)
        intro A5 c5 B5 d5 w5 r5 rb5 hc5 hA5 q5 fr5 fb5
        obtain ⟨y0, y1, y2, y3, y4, y5⟩ := Y w5 q5
        have v5 := v4.quiet q5
        simp (maxSteps := 1000000) (disch := omega) only [hid1', hid2', guardK_u, takeG_u, wrap_in64, optK_some', fzK_false', nilK_ptr, brK_true', brK_false', guardK_tt', guardK_ff', guardK_tf', guardK_ft', takeG_tt', takeG_ff', takeG_tf', takeG_ft', pickK_t', pickK_f', pickT_t', pickT_f', notK, extract2_0', extract2_1', extract3_0', extract3_1', extract3_2', here_load, here_fieldAt, here_indexAt, here_extract, here_un, here_conv, here_slice, here_bin, here_nil, and_here, true_and, Nat.zero_add, Nat.add_assoc, Nat.add_zero, Int.toNat_natCast, size_alloc, World.cell?_drew, World.frozen?_drew, Bool.not_true, Bool.not_false, Int.toNat_zero, dec_t, dec_f, int_eq_t, int_eq_f, int_ne_t, int_ne_f, wrap_in, klen22, hlen22, kbgtr3, klen9, hlen9, kblss3, kia22, kld30, kal30, kst30f, kfa30_1, kfa28_0, kld9, kfa30_2, kld2, kbgtr2, kfa30_3, kfa30_0, kld3, kbeql3, kld28, kbs35_1_0, kia26, kld33, kbneq3, kal28, kst28f, klen26, hlen26, kfa33_0, kbneq9, kbs26_1_0, kbadd3, kbneq4, kbeql24n, y1, y4, y5]
        refine ck16 (sweep_book (now := a.2.2.1) (age := a.2.2.2) (keep := a.2.1.1) v5.at_ (by omega) hg.up hg.key ⟨by omega, by omega⟩ ⟨by omega, by omega⟩ ?_)
        intro A6 w6 ra6 h6 k6
        have hsw := sweep_sub m a.2.2.1 a.2.2.2 a.2.1.1
        have hsl := sweep_len m a.2.2.1 a.2.2.2 a.2.1.1
        generalize sweepM m a.2.2.1 a.2.2.2 a.2.1.1 = sw at *
        have nS : ∀ k, w4.heap.size ≤ k → ¬ (k = g ∨ F = some k) := fun k hk e => by
          rcases e with e | e
          · omega
          · have := hlow4.2 _ e; omega
        have rb6 : Reads w6 B5 (strV sw.2) := rb5.chg k6 (fun ad h => nS _ (fb5 ad h))
        have sep5 : ∀ ad, A5 = some ad → sw.1 ≠ [] → ad.block ≠ g ∧ F ≠ some ad.block := fun ad ha hne => by
          rcases fr5 ad ha with ⟨e1, e2⟩ | h
          · exact hsep ad e1 (by rw [← e2]; exact hne)
          · exact ⟨by omega, fun e => by have := hlow4.2 _ e; omega⟩
        have r6 : Reads w6 A5 (rowE sw.1) := reads_sep r5 k6 (fun ad ha hne e => by
          have := sep5 ad ha hne
          rcases e with e | e
          · exact this.1 e
          · exact this.2 e)
        have q06 : Qt w w6 := Qt.then (q04.trans q5) k6 (fun q h => by
          rcases h with h | h
          · rw [h]; exact v4.g0
          · exact v4.f0 q h)
        simp (maxSteps := 1000000) (disch := omega) only [hid1', hid2', guardK_u, takeG_u, wrap_in64, optK_some', fzK_false', nilK_ptr, brK_true', brK_false', guardK_tt', guardK_ff', guardK_tf', guardK_ft', takeG_tt', takeG_ff', takeG_tf', takeG_ft', pickK_t', pickK_f', pickT_t', pickT_f', notK, extract2_0', extract2_1', extract3_0', extract3_1', extract3_2', here_load, here_fieldAt, here_indexAt, here_extract, here_un, here_conv, here_slice, here_bin, here_nil, and_here, true_and, Nat.zero_add, Nat.add_assoc, Nat.add_zero, Int.toNat_natCast, size_alloc, World.cell?_drew, World.frozen?_drew, Bool.not_true, Bool.not_false, Int.toNat_zero, dec_t, dec_f, int_eq_t, int_eq_f, int_ne_t, int_ne_f, wrap_in, klen22, hlen22, kbgtr3, klen9, hlen9, kblss3, kia22, kld30, kal30, kst30f, kfa30_1, kfa28_0, kld9, kfa30_2, kld2, kbgtr2, kfa30_3, kfa30_0, kld3, kbeql3, kld28, kbs35_1_0, kia26, kld33, kbneq3, kal28, kst28f, klen26, hlen26, kfa33_0, kbneq9, kbs26_1_0, kbadd3, kbneq4, kbeql24n]
        refine ck15 (texts_same ra6 rb6 (by omega) ?_)
        intro w7 q7
        simp (maxSteps := 1000000) (disch := omega) only [hid1', hid2', guardK_u, takeG_u, wrap_in64, optK_some', fzK_false', nilK_ptr, brK_true', brK_false', guardK_tt', guardK_ff', guardK_tf', guardK_ft', takeG_tt', takeG_ff', takeG_tf', takeG_ft', pickK_t', pickK_f', pickT_t', pickT_f', notK, extract2_0', extract2_1', extract3_0', extract3_1', extract3_2', here_load, here_fieldAt, here_indexAt, here_extract, here_un, here_conv, here_slice, here_bin, here_nil, and_here, true_and, Nat.zero_add, Nat.add_assoc, Nat.add_zero, Int.toNat_natCast, size_alloc, World.cell?_drew, World.frozen?_drew, Bool.not_true, Bool.not_false, Int.toNat_zero, dec_t, dec_f, int_eq_t, int_eq_f, int_ne_t, int_ne_f, wrap_in, klen22, hlen22, kbgtr3, klen9, hlen9, kblss3, kia22, kld30, kal30, kst30f, kfa30_1, kfa28_0, kld9, kfa30_2, kld2, kbgtr2, kfa30_3, kfa30_0, kld3, kbeql3, kld28, kbs35_1_0, kia26, kld33, kbneq3, kal28, kst28f, klen26, hlen26, kfa33_0, kbneq9, kbs26_1_0, kbadd3, kbneq4, kbeql24n]
        exact ⟨⟨x, g, sw.1, F, A5, c5, rfl, rfl, ⟨h6.quiet q7, v4.x0, v4.g0, v4.f0⟩, GoodB.sub hsw hg, r6.quiet q7, hc5, hA5, sep5, fun y hy => hsiz y (hsw.subset hy)⟩, q06.trans q7⟩
      have e3 : (a.1 == 3) = false := beq_eq_false_iff_ne.2 o3
      by_cases o4 : a.1 = 4
      · have e4 : (a.1 == 4) = true := by rw [o4]; rfl
        simp (maxSteps := 1000000) (disch := omega) only [hid1', hid2', guardK_u, takeG_u, wrap_in64, optK_some', fzK_false', nilK_ptr, brK_true', brK_false', guardK_tt', guardK_ff', guardK_tf', guardK_ft', takeG_tt', takeG_ff', takeG_tf', takeG_ft', pickK_t', pickK_f', pickT_t', pickT_f', notK, extract2_0', extract2_1', extract3_0', extract3_1', extract3_2', here_load, here_fieldAt, here_indexAt, here_extract, here_un, here_conv, here_slice, here_bin, here_nil, and_here, true_and, Nat.zero_add, Nat.add_assoc, Nat.add_zero, Int.toNat_natCast, size_alloc, World.cell?_drew, World.frozen?_drew, Bool.not_true, Bool.not_false, Int.toNat_zero, dec_t, dec_f, int_eq_t, int_eq_f, int_ne_t, int_ne_f, wrap_in, klen22, hlen22, kbgtr3, klen9, hlen9, kblss3, kia22, kld30, kal30, kst30f, kfa30_1, kfa28_0, kld9, kfa30_2, kld2, kbgtr2, kfa30_3, kfa30_0, kld3, kbeql3, kld28, kbs35_1_0, kia26, kld33, kbneq3, kal28, kst28f, klen26, hlen26, kfa33_0, kbneq9, kbs26_1_0, kbadd3, kbneq4, kbeql24n, y0, e1, e2, e3, e4]
        refine ck17 (twin_book v4.at_ ?_)
        intro x5 g5 F5 w5 h5 q5 hx5 hg5 hF5
        have v5 := v4.quiet q5
        simp (maxSteps := 1000000) (disch := omega) only [hid1', hid2', guardK_u, takeG_u, wrap_in64, optK_some', fzK_false', nilK_ptr, brK_true', brK_false', guardK_tt', guardK_ff', guardK_tf', guardK_ft', takeG_tt', takeG_ff', takeG_tf', takeG_ft', pickK_t', pickK_f', pickT_t', pickT_f', notK, extract2_0', extract2_1', extract3_0', extract3_1', extract3_2', here_load, here_fieldAt, here_indexAt, here_extract, here_un, here_conv, here_slice, here_bin, here_nil, and_here, true_and, Nat.zero_add, Nat.add_assoc, Nat.add_zero, Int.toNat_natCast, size_alloc, World.cell?_drew, World.frozen?_drew, Bool.not_true, Bool.not_false, Int.toNat_zero, dec_t, dec_f, int_eq_t, int_eq_f, int_ne_t, int_ne_f, wrap_in, klen22, hlen22, kbgtr3, klen9, hlen9, kblss3, kia22, kld30, kal30, kst30f, kfa30_1, kfa28_0, kld9, kfa30_2, kld2, kbgtr2, kfa30_3, kfa30_0, kld3, kbeql3, kld28, kbs35_1_0, kia26, kld33, kbneq3, kal28, kst28f, klen26, hlen26, kfa33_0, kbneq9, kbs26_1_0, kbadd3, kbneq4, kbeql24n]
        refine ck16 (sweep_book (now := 1099511627776) (age := 0) (keep := ByteArray.empty) v5.at_ (by omega) hg.up hg.key (by decide) (by decide) ?_)
        intro A6 w6 ra6 h6 k6
        have s04 := q04.size
        have nS : ∀ k, w4.heap.size ≤ k → ¬ (k = g ∨ F = some k) := fun k hk e => by
          rcases e with e | e
          · omega
          · have := hlow4.2 _ e; omega
        have r6 : Reads w6 Ar (rowE m) := reads_sep (r4.quiet q5) k6 (fun ad ha hne e => by
          have := hsep ad ha hne
          rcases e with e | e
          · exact this.1 e
          · exact this.2 e)
        have h6' : BookAt w6 x5 g5 m F5 := h5.chg k6 (nS _ hx5) (nS _ hg5) (fun k hk => nS _ (hF5 k hk))
        have q06 : Qt w w6 := Qt.then (q04.trans q5) k6 (fun q h => by
          rcases h with h | h
          · rw [h]; exact v4.g0
          · exact v4.f0 q h)
        simp (maxSteps := 1000000) (disch := omega) only [hid1', hid2', guardK_u, takeG_u, wrap_in64, optK_some', fzK_false', nilK_ptr, brK_true', brK_false', guardK_tt', guardK_ff', guardK_tf', guardK_ft', takeG_tt', takeG_ff', takeG_tf', takeG_ft', pickK_t', pickK_f', pickT_t', pickT_f', notK, extract2_0', extract2_1', extract3_0', extract3_1', extract3_2', here_load, here_fieldAt, here_indexAt, here_extract, here_un, here_conv, here_slice, here_bin, here_nil, and_here, true_and, Nat.zero_add, Nat.add_assoc, Nat.add_zero, Int.toNat_natCast, size_alloc, World.cell?_drew, World.frozen?_drew, Bool.not_true, Bool.not_false, Int.toNat_zero, dec_t, dec_f, int_eq_t, int_eq_f, int_ne_t, int_ne_f, wrap_in, klen22, hlen22, kbgtr3, klen9, hlen9, kblss3, kia22, kld30, kal30, kst30f, kfa30_1, kfa28_0, kld9, kfa30_2, kld2, kbgtr2, kfa30_3, kfa30_0, kld3, kbeql3, kld28, kbs35_1_0, kia26, kld33, kbneq3, kal28, kst28f, klen26, hlen26, kfa33_0, kbneq9, kbs26_1_0, kbadd3, kbneq4, kbeql24n]
        refine ⟨⟨x5, g5, m, F5, Ar, c, rfl, rfl, ⟨h6', by omega, by omega, fun k hk => by have := hF5 k hk; omega⟩, hg, r6, hc, hA, fun ad ha hne => ?_, hsiz⟩, q06⟩
        have := hsp3 ad ha hne
        exact ⟨by omega, fun e => by have := hF5 _ e; omega⟩
      have e4 : (a.1 == 4) = false := beq_eq_false_iff_ne.2 o4
      simp (maxSteps := 1000000) (disch := omega) only [hid1', hid2', guardK_u, takeG_u, wrap_in64, optK_some', fzK_false', nilK_ptr, brK_true', brK_false', guardK_tt', guardK_ff', guardK_tf', guardK_ft', takeG_tt', takeG_ff', takeG_tf', takeG_ft', pickK_t', pickK_f', pickT_t', pickT_f', notK, extract2_0', extract2_1', extract3_0', extract3_1', extract3_2', here_load, here_fieldAt, here_indexAt, here_extract, here_un, here_conv, here_slice, here_bin, here_nil, and_here, true_and, Nat.zero_add, Nat.add_assoc, Nat.add_zero, Int.toNat_natCast, size_alloc, World.cell?_drew, World.frozen?_drew, Bool.not_true, Bool.not_false, Int.toNat_zero, dec_t, dec_f, int_eq_t, int_eq_f, int_ne_t, int_ne_f, wrap_in, klen22, hlen22, kbgtr3, klen9, hlen9, kblss3, kia22, kld30, kal30, kst30f, kfa30_1, kfa28_0, kld9, kfa30_2, kld2, kbgtr2, kfa30_3, kfa30_0, kld3, kbeql3, kld28, kbs35_1_0, kia26, kld33, kbneq3, kal28, kst28f, klen26, hlen26, kfa33_0, kbneq9, kbs26_1_0, kbadd3, kbneq4, kbeql24n, y0, e1, e2, e3, e4]
      exact ⟨⟨x, g, m, F, Ar, c, rfl, rfl, v4, hg, r4, hc, hA, hsep, hsiz⟩, q04⟩
    · rintro _ _ _ w5 ⟨⟨x5, g5, m5, F5, A5, c5, rfl, rfl, v5, hg5, r5, hc5, hA5, hsep5, hsiz5⟩, q5⟩
      have hf5 := hg5.few
      refine ck19 (row_any v5.at_ (by omega) ?_)
      intro A6 w6 r6 q6 _
      have k6 := q5.trans q6
      simp (maxSteps := 1000000) (disch := omega) only [hid1', hid2', guardK_u, takeG_u, wrap_in64, optK_some', fzK_false', nilK_ptr, brK_true', brK_false', guardK_tt', guardK_ff', guardK_tf', guardK_ft', takeG_tt', takeG_ff', takeG_tf', takeG_ft', pickK_t', pickK_f', pickT_t', pickT_f', notK, extract2_0', extract2_1', extract3_0', extract3_1', extract3_2', here_load, here_fieldAt, here_indexAt, here_extract, here_un, here_conv, here_slice, here_bin, here_nil, and_here, true_and, Nat.zero_add, Nat.add_assoc, Nat.add_zero, Int.toNat_natCast, size_alloc, World.cell?_drew, World.frozen?_drew, Bool.not_true, Bool.not_false, Int.toNat_zero, dec_t, dec_f, int_eq_t, int_eq_f, int_ne_t, int_ne_f, wrap_in, klen22, hlen22, kbgtr3, klen9, hlen9, kblss3, kia22, kld30, kal30, kst30f, kfa30_1, kfa28_0, kld9, kfa30_2, kld2, kbgtr2, kfa30_3, kfa30_0, kld3, kbeql3, kld28, kbs35_1_0, kia26, kld33, kbneq3, kal28, kst28f, klen26, hlen26, kfa33_0, kbneq9, kbs26_1_0, kbadd3, kbneq4, kbeql24n]
      refine ck18 (sameE_any r6 (r5.quiet q6) (by omega) ?_)
      intro w7 q7
      have k7 := k6.trans q7
      have q57 := q6.trans q7
      simp (maxSteps := 1000000) (disch := omega) only [hid1', hid2', guardK_u, takeG_u, wrap_in64, optK_some', fzK_false', nilK_ptr, brK_true', brK_false', guardK_tt', guardK_ff', guardK_tf', guardK_ft', takeG_tt', takeG_ff', takeG_tf', takeG_ft', pickK_t', pickK_f', pickT_t', pickT_f', notK, extract2_0', extract2_1', extract3_0', extract3_1', extract3_2', here_load, here_fieldAt, here_indexAt, here_extract, here_un, here_conv, here_slice, here_bin, here_nil, and_here, true_and, Nat.zero_add, Nat.add_assoc, Nat.add_zero, Int.toNat_natCast, size_alloc, World.cell?_drew, World.frozen?_drew, Bool.not_true, Bool.not_false, Int.toNat_zero, dec_t, dec_f, int_eq_t, int_eq_f, int_ne_t, int_ne_f, wrap_in, klen22, hlen22, kbgtr3, klen9, hlen9, kblss3, kia22, kld30, kal30, kst30f, kfa30_1, kfa28_0, kld9, kfa30_2, kld2, kbgtr2, kfa30_3, kfa30_0, kld3, kbeql3, kld28, kbs35_1_0, kia26, kld33, kbneq3, kal28, kst28f, klen26, hlen26, kfa33_0, kbneq9, kbs26_1_0, kbadd3, kbneq4, kbeql24n]
      exact ⟨⟨i + 1, by go_num, by omega, ⟨x5, g5, m5, F5, A5, c5, rfl, rfl, v5.quiet q57, hg5, r5.quiet q57, hc5, hA5, hsep5, hsiz5⟩, k7⟩, by simp [rel, intOf]; omega⟩
  · have hsz : ∀ y ∈ m, y.1.size ≤ 50000 := fun y hy => by have := hsiz y hy; omega
    simp (maxSteps := 1000000) (disch := omega) only [hid1', hid2', guardK_u, takeG_u, wrap_in64, optK_some', fzK_false', nilK_ptr, brK_true', brK_false', guardK_tt', guardK_ff', guardK_tf', guardK_ft', takeG_tt', takeG_ff', takeG_tf', takeG_ft', pickK_t', pickK_f', pickT_t', pickT_f', notK, extract2_0', extract2_1', extract3_0', extract3_1', extract3_2', here_load, here_fieldAt, here_indexAt, here_extract, here_un, here_conv, here_slice, here_bin, here_nil, and_here, true_and, Nat.zero_add, Nat.add_assoc, Nat.add_zero, Int.toNat_natCast, size_alloc, World.cell?_drew, World.frozen?_drew, Bool.not_true, Bool.not_false, Int.toNat_zero, dec_t, dec_f, int_eq_t, int_eq_f, int_ne_t, int_ne_f, wrap_in, klen22, hlen22, kbgtr3, klen9, hlen9, kblss3, kia22, kld30, kal30, kst30f, kfa30_1, kfa28_0, kld9, kfa30_2, kld2, kbgtr2, kfa30_3, kfa30_0, kld3, kbeql3, kld28, kbs35_1_0, kia26, kld33, kbneq3, kal28, kst28f, klen26, hlen26, kfa33_0, kbneq9, kbs26_1_0, kbadd3, kbneq4, kbeql24n]
    refine ck20 (under_book (z := z) v3.at_ (by omega) (by omega) hsz (hm.quiet q3) ?_)
    intro A4 w4 r4 q4
    simp (maxSteps := 1000000) (disch := omega) only [hid1', hid2', guardK_u, takeG_u, wrap_in64, optK_some', fzK_false', nilK_ptr, brK_true', brK_false', guardK_tt', guardK_ff', guardK_tf', guardK_ft', takeG_tt', takeG_ff', takeG_tf', takeG_ft', pickK_t', pickK_f', pickT_t', pickT_f', notK, extract2_0', extract2_1', extract3_0', extract3_1', extract3_2', here_load, here_fieldAt, here_indexAt, here_extract, here_un, here_conv, here_slice, here_bin, here_nil, and_here, true_and, Nat.zero_add, Nat.add_assoc, Nat.add_zero, Int.toNat_natCast, size_alloc, World.cell?_drew, World.frozen?_drew, Bool.not_true, Bool.not_false, Int.toNat_zero, dec_t, dec_f, int_eq_t, int_eq_f, int_ne_t, int_ne_f, wrap_in, klen22, hlen22, kbgtr3, klen9, hlen9, kblss3, kia22, kld30, kal30, kst30f, kfa30_1, kfa28_0, kld9, kfa30_2, kld2, kbgtr2, kfa30_3, kfa30_0, kld3, kbeql3, kld28, kbs35_1_0, kia26, kld33, kbneq3, kal28, kst28f, klen26, hlen26, kfa33_0, kbneq9, kbs26_1_0, kbadd3, kbneq4, kbeql24n]
    refine ck21 (underR_any2 (z := z) (rr.quiet q4) (by omega) hg.key (by omega) hsz ?_)
    intro A5 c5 w5 r5 q5
    have hul := underM_len m z
    simp (maxSteps := 1000000) (disch := omega) only [hid1', hid2', guardK_u, takeG_u, wrap_in64, optK_some', fzK_false', nilK_ptr, brK_true', brK_false', guardK_tt', guardK_ff', guardK_tf', guardK_ft', takeG_tt', takeG_ff', takeG_tf', takeG_ft', pickK_t', pickK_f', pickT_t', pickT_f', notK, extract2_0', extract2_1', extract3_0', extract3_1', extract3_2', here_load, here_fieldAt, here_indexAt, here_extract, here_un, here_conv, here_slice, here_bin, here_nil, and_here, true_and, Nat.zero_add, Nat.add_assoc, Nat.add_zero, Int.toNat_natCast, size_alloc, World.cell?_drew, World.frozen?_drew, Bool.not_true, Bool.not_false, Int.toNat_zero, dec_t, dec_f, int_eq_t, int_eq_f, int_ne_t, int_ne_f, wrap_in, klen22, hlen22, kbgtr3, klen9, hlen9, kblss3, kia22, kld30, kal30, kst30f, kfa30_1, kfa28_0, kld9, kfa30_2, kld2, kbgtr2, kfa30_3, kfa30_0, kld3, kbeql3, kld28, kbs35_1_0, kia26, kld33, kbneq3, kal28, kst28f, klen26, hlen26, kfa33_0, kbneq9, kbs26_1_0, kbadd3, kbneq4, kbeql24n]
    refine ck15 (texts_same (r4.quiet q5) r5 (by omega) ?_)
    intro w6 q6
    simp (maxSteps := 1000000) (disch := omega) only [hid1', hid2', guardK_u, takeG_u, wrap_in64, optK_some', fzK_false', nilK_ptr, brK_true', brK_false', guardK_tt', guardK_ff', guardK_tf', guardK_ft', takeG_tt', takeG_ff', takeG_tf', takeG_ft', pickK_t', pickK_f', pickT_t', pickT_f', notK, extract2_0', extract2_1', extract3_0', extract3_1', extract3_2', here_load, here_fieldAt, here_indexAt, here_extract, here_un, here_conv, here_slice, here_bin, here_nil, and_here, true_and, Nat.zero_add, Nat.add_assoc, Nat.add_zero, Int.toNat_natCast, size_alloc, World.cell?_drew, World.frozen?_drew, Bool.not_true, Bool.not_false, Int.toNat_zero, dec_t, dec_f, int_eq_t, int_eq_f, int_ne_t, int_ne_f, wrap_in, klen22, hlen22, kbgtr3, klen9, hlen9, kblss3, kia22, kld30, kal30, kst30f, kfa30_1, kfa28_0, kld9, kfa30_2, kld2, kbgtr2, kfa30_3, kfa30_0, kld3, kbeql3, kld28, kbs35_1_0, kia26, kld33, kbneq3, kal28, kst28f, klen26, hlen26, kfa33_0, kbneq9, kbs26_1_0, kbadd3, kbneq4, kbeql24n]
    exact hR _ (((q3.trans q4).trans q5).trans q6)
theorem bookPlays_walk (A : Option Addr) (cap : Nat) (l : List Act) (z : ByteArray) (w : World) (hm : MaxAt w) (g1 : l.length ≤ cap) (m1 : cap ≤ 9223372036854775807) (r1 : RRow 6 RAct w A l) (hzs : z.size ≤ 9223372036854775807) :
    Calls Tryd.prog 3 #[.slice A l.length cap, .string z] w fun e w' => e = .returned (.bool true) ∧ Below w.heap.size w w' := by
  obtain ⟨hr, hok⟩ := acts_of r1
  clear r1
  exact callK_ret fun R hR => bookPlays_any hm hr hok (by omega) hzs (fun w' q => hR _ (Qt.below q))
end Go.Proofs.YtbkficgmjgbbeaaDoor
