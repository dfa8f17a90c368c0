/- known: it returns true, and leaves what was. -/
import Derived.Test.YtpdhmbbmhomlnaaDoorLivesLoadR
import Derived.Lib.SlBytesConst
set_option linter.unusedVariables false
set_option linter.unusedSimpArgs false
set_option maxRecDepth 100000
namespace Go.Proofs.YtpdhmbbmhomlnaaDoor
open Go.RowKit Go.Cn Go.Cn.Num
theorem convK_const {P : Program} {t e : TypeId} (ht : P.underlying t = some (.slice e)) (he : P.underlying e = some (.int .u8)) {w : World} {C : Array Value} {n c : Nat} {K : Value → World → Prop} (h : K (.slice (some ⟨w.heap.size, 0, none⟩) n c) (w.alloc (.cells C e (C.size, C.size + 1)))) : ConvK P t t (.slice (some ⟨w.heap.size, 0, none⟩) n c) K (w.alloc (.cells C e)) := by
  unfold ConvK
  rw [Go.Lib.run_convert_bytes_const w t e C n c ht he]; exact h
theorem reads_newF (w : World) (xs : List Value) (e : TypeId) (fr : Nat × Nat) : Reads (w.alloc (.cells xs.toArray e fr)) (some ⟨w.heap.size, 0, none⟩) xs := by
  refine .inr ⟨_, _, rfl, fun j hj => ?_⟩
  rw [blk_cell (blk_new _ _)]
  simp
/-- Lives that lie above n. -/
structure LV (n : Nat) (w : World) (x g : Nat) (m : LM) (F : Option Nat) : Prop where
  at_ : LivesAt w x g m F
  x0 : n ≤ x
  g0 : n ≤ g
  f0 : ∀ k, F = some k → n ≤ k
theorem LV.quiet {n : Nat} {w w' : World} {x g : Nat} {m : LM} {F : Option Nat} (h : LV n w x g m F) (q : Qt w w') : LV n w' x g m F := ⟨h.at_.quiet q, h.x0, h.g0, h.f0⟩
theorem MaxAt.pos {w : World} (h : MaxAt w) : 0 < w.heap.size := by
  obtain ⟨m, h⟩ := h; exact cell_lt h
theorem begin_lv {w0 w : World} {x g : Nat} {m : LM} {F : Option Nat} {p : ByteArray} {K : Value → World → Prop} (hm : MaxAt w0) (h : LV w0.heap.size w x g m F) (hq : Qt w0 w) (hg : Good m) (hp : p.size ≤ 1000)
    (hK : ∀ F' w', LV w0.heap.size w' x g (beginM m p).1 F' → Qt w0 w' → Chg (fun q => q = g ∨ F = some q) w w' → (∀ q, F' = some q → F = some q ∨ w.heap.size ≤ q) → K (.tuple #[.int .i64 (beginM m p).2.1, .int .i64 (beginM m p).2.2]) w') :
    CallK Tryd.prog 10 #[.pointer (some ⟨x, 0, none⟩), .string p] K w := by
  have hf := hg.few
  refine begin_any h.at_ hp (hm.quiet hq) (by omega) hg.vals ?_
  intro F' w' h' c f
  have hs := hq.size
  refine hK F' w' ⟨h', h.x0, h.g0, fun k hk => ?_⟩ (hq.then c (fun k hk => ?_)) c f
  · rcases f k hk with e | e
    · exact h.f0 k e
    · omega
  · rcases hk with e | e
    · have := h.g0; omega
    · exact h.f0 k e
theorem begin_root (m : LM) : beginM m ⟨#[47]⟩ = (m, 0, 5) := by
  unfold beginM
  rw [if_pos (by decide)]
theorem begin_new {p : ByteArray} (h : nodeB p = true) : beginM [] p = ([(p, 1)], 1, 0) := by
  have hg : getN [] p = 0 := getM_no (no_fnd (fun q hq => by simp at hq))
  unfold beginM
  rw [h, if_neg (by decide), hg, if_neg (by rintro (e | e); simp at e; omega), put_end (fun x hx => by simp at hx)]
  rfl
theorem rises_one (p : ByteArray) (n : Int) : Rises SI.lt [(p, n)] := ⟨fun q hq => by simp at hq, trivial⟩
theorem begin_one {p : ByteArray} (h : nodeB p = true) : beginM [(p, 1)] p = ([(p, 2)], 2, 0) := by
  have hg : getN [(p, 1)] p = 1 := getN_mem (rises_one p 1) (by simp)
  have hf : fnd SI.lt [(p, (1 : Int))] p = true := by
    obtain ⟨_, h, _⟩ := mem_fnd SI.O (rises_one p 1) (k := p) (v := (1 : Int)) (by simp)
    exact h
  have hp : pos SI.lt [(p, (1 : Int))] p = 0 := by have := fnd_lt hf; simp at this; exact this
  unfold beginM
  rw [h, if_neg (by decide), hg, if_neg (by rw [hf]; rintro (e | e); cases e.1; omega)]
  unfold putM
  rw [if_pos hf, hp]
  rfl
def pAX : ByteArray := ⟨#[47, 97, 47, 120]⟩
theorem node_AX : nodeB pAX = true := by decide
theorem lit_AX : ({ data := #[47, 97, 47, 120] } : ByteArray) = pAX := rfl
theorem good_AX (n : Int) (h : 1 ≤ n ∧ n ≤ 1000000000) : Good [(pAX, n)] := ⟨rises_one _ _, by simp, fun x hx => by simp at hx; subst hx; exact node_AX, fun x hx => by simp at hx; subst hx; exact h⟩
theorem load_x5 : (loadM [120, 120, 120, 120, 120]).1 = 10 := by decide
set_option maxHeartbeats 2000000 in
theorem known_any {w : World} {K : Value → World → Prop} (hm : MaxAt w) (hK : ∀ w', Qt w w' → K (.bool true) w') : CallK Tryd.prog 7 #[] K w := by
  refine F7_calls _ _ ?_; unfold F7
  refine ck8 (new_lives ?_)
  intro x g w1 h1 q1 hx hg
  have v1 : LV w.heap.size w1 x g [] none := ⟨h1, hx, hg, fun _ h => by cases h⟩
  simp (maxSteps := 1000000) (disch := omega) only [hid1', hid2', guardK_u, takeG_u, wrap_in64, optK_some', fzK_false', nilK_ptr, brK_true', brK_false', guardK_tt', guardK_ff', guardK_tf', guardK_ft', takeG_tt', takeG_ff', takeG_tf', takeG_ft', pickK_t', pickK_f', pickT_t', pickT_f', notK, extract2_0', extract2_1', extract3_0', extract3_1', extract3_2', here_load, here_fieldAt, here_indexAt, here_extract, here_un, here_conv, here_slice, here_bin, here_nil, and_here, true_and, Nat.zero_add, Nat.add_assoc, Nat.add_zero, Int.toNat_natCast, size_alloc, World.cell?_drew, World.frozen?_drew, Bool.not_true, Bool.not_false, Int.toNat_zero, dec_t, dec_f, int_eq_t, int_eq_f, int_ne_t, int_ne_f, wrap_in, kbeql3, kbeql24n, kbadd3, kbeql2, kbneq24n, kbs32_5_0_1_2_3_4]
  refine ck10 (begin_lv (p := pAX) hm v1 q1 Good.nil (by decide) ?_)
  rw [begin_new node_AX]
  intro F2 w2 v2 q2 _ _
  simp (maxSteps := 1000000) (disch := omega) only [hid1', hid2', guardK_u, takeG_u, wrap_in64, optK_some', fzK_false', nilK_ptr, brK_true', brK_false', guardK_tt', guardK_ff', guardK_tf', guardK_ft', takeG_tt', takeG_ff', takeG_tf', takeG_ft', pickK_t', pickK_f', pickT_t', pickT_f', notK, extract2_0', extract2_1', extract3_0', extract3_1', extract3_2', here_load, here_fieldAt, here_indexAt, here_extract, here_un, here_conv, here_slice, here_bin, here_nil, and_here, true_and, Nat.zero_add, Nat.add_assoc, Nat.add_zero, Int.toNat_natCast, size_alloc, World.cell?_drew, World.frozen?_drew, Bool.not_true, Bool.not_false, Int.toNat_zero, dec_t, dec_f, int_eq_t, int_eq_f, int_ne_t, int_ne_f, wrap_in, kbeql3, kbeql24n, kbadd3, kbeql2, kbneq24n, kbs32_5_0_1_2_3_4]
  refine ck10 (begin_lv (p := pAX) hm v2 q2 (good_AX 1 (by decide)) (by decide) ?_)
  simp only
  rw [begin_one node_AX]
  intro F3 w3 v3 q3 _ _
  simp (maxSteps := 1000000) (disch := omega) only [hid1', hid2', guardK_u, takeG_u, wrap_in64, optK_some', fzK_false', nilK_ptr, brK_true', brK_false', guardK_tt', guardK_ff', guardK_tf', guardK_ft', takeG_tt', takeG_ff', takeG_tf', takeG_ft', pickK_t', pickK_f', pickT_t', pickT_f', notK, extract2_0', extract2_1', extract3_0', extract3_1', extract3_2', here_load, here_fieldAt, here_indexAt, here_extract, here_un, here_conv, here_slice, here_bin, here_nil, and_here, true_and, Nat.zero_add, Nat.add_assoc, Nat.add_zero, Int.toNat_natCast, size_alloc, World.cell?_drew, World.frozen?_drew, Bool.not_true, Bool.not_false, Int.toNat_zero, dec_t, dec_f, int_eq_t, int_eq_f, int_ne_t, int_ne_f, wrap_in, kbeql3, kbeql24n, kbadd3, kbeql2, kbneq24n, kbs32_5_0_1_2_3_4]
  refine ck10 (begin_lv hm v3 q3 (good_AX 2 (by decide)) (by decide) ?_)
  simp only
  rw [begin_root]
  intro F4 w4 v4 q4 _ _
  simp (maxSteps := 1000000) (disch := omega) only [hid1', hid2', guardK_u, takeG_u, wrap_in64, optK_some', fzK_false', nilK_ptr, brK_true', brK_false', guardK_tt', guardK_ff', guardK_tf', guardK_ft', takeG_tt', takeG_ff', takeG_tf', takeG_ft', pickK_t', pickK_f', pickT_t', pickT_f', notK, extract2_0', extract2_1', extract3_0', extract3_1', extract3_2', here_load, here_fieldAt, here_indexAt, here_extract, here_un, here_conv, here_slice, here_bin, here_nil, and_here, true_and, Nat.zero_add, Nat.add_assoc, Nat.add_zero, Int.toNat_natCast, size_alloc, World.cell?_drew, World.frozen?_drew, Bool.not_true, Bool.not_false, Int.toNat_zero, dec_t, dec_f, int_eq_t, int_eq_f, int_ne_t, int_ne_f, wrap_in, kbeql3, kbeql24n, kbadd3, kbeql2, kbneq24n, kbs32_5_0_1_2_3_4]
  have G2 := good_AX 2 (by decide)
  simp only at v4
  have hlen : (bytesM [(pAX, 2)]).length ≤ 20000 := by
    have := rows_len [(pAX, 2)] G2.node G2.vals
    have := putInt_len (([(pAX, (2 : Int))] : LM).length : Int) (by simp) (by simp)
    unfold bytesM sealed
    rw [List.length_append, List.length_append]
    have : (le4 (Crc.sum (putInt (([(pAX, (2 : Int))] : LM).length : Int) ++ ([(pAX, (2 : Int))] : LM).flatMap rowB))).length = 4 := rfl
    simp at *
    omega
  refine ck11 (bytes_any v4.at_ G2 ?_)
  intro A5 c5 w5 hc5 r5 q5
  simp (maxSteps := 1000000) (disch := omega) only [hid1', hid2', guardK_u, takeG_u, wrap_in64, optK_some', fzK_false', nilK_ptr, brK_true', brK_false', guardK_tt', guardK_ff', guardK_tf', guardK_ft', takeG_tt', takeG_ff', takeG_tf', takeG_ft', pickK_t', pickK_f', pickT_t', pickT_f', notK, extract2_0', extract2_1', extract3_0', extract3_1', extract3_2', here_load, here_fieldAt, here_indexAt, here_extract, here_un, here_conv, here_slice, here_bin, here_nil, and_here, true_and, Nat.zero_add, Nat.add_assoc, Nat.add_zero, Int.toNat_natCast, size_alloc, World.cell?_drew, World.frozen?_drew, Bool.not_true, Bool.not_false, Int.toNat_zero, dec_t, dec_f, int_eq_t, int_eq_f, int_ne_t, int_ne_f, wrap_in, kbeql3, kbeql24n, kbadd3, kbeql2, kbneq24n, kbs32_5_0_1_2_3_4]
  have q05 := q4.trans q5
  refine ck13 (load_any r5 hlen hc5 (hm.quiet q05) (fun h => absurd (by rw [load_bytes G2]) h) ?_)
  intro _ x6 g6 F6 w6 h6 q6 hx6 hg6 hF6
  rw [load_bytes G2] at h6
  have q06 := q05.trans q6
  have v6 := (v4.quiet q5).quiet q6
  simp (maxSteps := 1000000) (disch := omega) only [hid1', hid2', guardK_u, takeG_u, wrap_in64, optK_some', fzK_false', nilK_ptr, brK_true', brK_false', guardK_tt', guardK_ff', guardK_tf', guardK_ft', takeG_tt', takeG_ff', takeG_tf', takeG_ft', pickK_t', pickK_f', pickT_t', pickT_f', notK, extract2_0', extract2_1', extract3_0', extract3_1', extract3_2', here_load, here_fieldAt, here_indexAt, here_extract, here_un, here_conv, here_slice, here_bin, here_nil, and_here, true_and, Nat.zero_add, Nat.add_assoc, Nat.add_zero, Int.toNat_natCast, size_alloc, World.cell?_drew, World.frozen?_drew, Bool.not_true, Bool.not_false, Int.toNat_zero, dec_t, dec_f, int_eq_t, int_eq_f, int_ne_t, int_ne_f, wrap_in, kbeql3, kbeql24n, kbadd3, kbeql2, kbneq24n, kbs32_5_0_1_2_3_4]
  refine convK_const Tryd.underlying32 Tryd.underlying5 ?_
  have r7 := reads_newF w6 (List.map vb [120, 120, 120, 120, 120]) 5 (5, 6)
  have k7 : Qt w6 (w6.alloc (.cells #[.int .u8 120, .int .u8 120, .int .u8 120, .int .u8 120, .int .u8 120] 5 (5, 6))) := Chg.alloc Qt.refl _
  have r7' : Reads (w6.alloc (.cells #[.int .u8 120, .int .u8 120, .int .u8 120, .int .u8 120, .int .u8 120] 5 (5, 6))) (some ⟨w6.heap.size, 0, none⟩) (List.map vb [120, 120, 120, 120, 120]) := r7
  generalize (w6.alloc (.cells #[.int .u8 120, .int .u8 120, .int .u8 120, .int .u8 120, .int .u8 120] 5 (5, 6))) = w7 at *
  have q07 := q06.trans k7
  have v7 := v6.quiet k7
  have h7 := h6.quiet k7
  simp (maxSteps := 1000000) (disch := omega) only [hid1', hid2', guardK_u, takeG_u, wrap_in64, optK_some', fzK_false', nilK_ptr, brK_true', brK_false', guardK_tt', guardK_ff', guardK_tf', guardK_ft', takeG_tt', takeG_ff', takeG_tf', takeG_ft', pickK_t', pickK_f', pickT_t', pickT_f', notK, extract2_0', extract2_1', extract3_0', extract3_1', extract3_2', here_load, here_fieldAt, here_indexAt, here_extract, here_un, here_conv, here_slice, here_bin, here_nil, and_here, true_and, Nat.zero_add, Nat.add_assoc, Nat.add_zero, Int.toNat_natCast, size_alloc, World.cell?_drew, World.frozen?_drew, Bool.not_true, Bool.not_false, Int.toNat_zero, dec_t, dec_f, int_eq_t, int_eq_f, int_ne_t, int_ne_f, wrap_in, kbeql3, kbeql24n, kbadd3, kbeql2, kbneq24n, kbs32_5_0_1_2_3_4]
  refine ck13 (load_any (b := [120, 120, 120, 120, 120]) r7' (by decide) (by decide) (hm.quiet q07) ?_ (fun h => by rw [load_x5] at h; cases h))
  intro _ w8 q8
  rw [load_x5]
  have v8 := v7.quiet q8
  have h8 := h7.quiet q8
  have q08 := q07.trans q8
  have o1 : getN [(pAX, (2 : Int))] pAX = 2 := getN_mem (rises_one _ _) (by simp)
  have o2 : getN [(pAX, (2 : Int))] ⟨#[47, 98]⟩ = 0 := getM_no (no_fnd (fun q hq => by simp at hq; subst hq; decide))
  simp (maxSteps := 1000000) (disch := omega) only [hid1', hid2', guardK_u, takeG_u, wrap_in64, optK_some', fzK_false', nilK_ptr, brK_true', brK_false', guardK_tt', guardK_ff', guardK_tf', guardK_ft', takeG_tt', takeG_ff', takeG_tf', takeG_ft', pickK_t', pickK_f', pickT_t', pickT_f', notK, extract2_0', extract2_1', extract3_0', extract3_1', extract3_2', here_load, here_fieldAt, here_indexAt, here_extract, here_un, here_conv, here_slice, here_bin, here_nil, and_here, true_and, Nat.zero_add, Nat.add_assoc, Nat.add_zero, Int.toNat_natCast, size_alloc, World.cell?_drew, World.frozen?_drew, Bool.not_true, Bool.not_false, Int.toNat_zero, dec_t, dec_f, int_eq_t, int_eq_f, int_ne_t, int_ne_f, wrap_in, kbeql3, kbeql24n, kbadd3, kbeql2, kbneq24n, kbs32_5_0_1_2_3_4]
  refine ck14 (of_lives (p := pAX) v8.at_ ?_)
  intro w9 q9
  rw [o1]
  simp (maxSteps := 1000000) (disch := omega) only [hid1', hid2', guardK_u, takeG_u, wrap_in64, optK_some', fzK_false', nilK_ptr, brK_true', brK_false', guardK_tt', guardK_ff', guardK_tf', guardK_ft', takeG_tt', takeG_ff', takeG_tf', takeG_ft', pickK_t', pickK_f', pickT_t', pickT_f', notK, extract2_0', extract2_1', extract3_0', extract3_1', extract3_2', here_load, here_fieldAt, here_indexAt, here_extract, here_un, here_conv, here_slice, here_bin, here_nil, and_here, true_and, Nat.zero_add, Nat.add_assoc, Nat.add_zero, Int.toNat_natCast, size_alloc, World.cell?_drew, World.frozen?_drew, Bool.not_true, Bool.not_false, Int.toNat_zero, dec_t, dec_f, int_eq_t, int_eq_f, int_ne_t, int_ne_f, wrap_in, kbeql3, kbeql24n, kbadd3, kbeql2, kbneq24n, kbs32_5_0_1_2_3_4]
  refine ck14 (of_lives (p := ⟨#[47, 98]⟩) (v8.quiet q9).at_ ?_)
  intro w10 q10
  rw [o2]
  simp (maxSteps := 1000000) (disch := omega) only [hid1', hid2', guardK_u, takeG_u, wrap_in64, optK_some', fzK_false', nilK_ptr, brK_true', brK_false', guardK_tt', guardK_ff', guardK_tf', guardK_ft', takeG_tt', takeG_ff', takeG_tf', takeG_ft', pickK_t', pickK_f', pickT_t', pickT_f', notK, extract2_0', extract2_1', extract3_0', extract3_1', extract3_2', here_load, here_fieldAt, here_indexAt, here_extract, here_un, here_conv, here_slice, here_bin, here_nil, and_here, true_and, Nat.zero_add, Nat.add_assoc, Nat.add_zero, Int.toNat_natCast, size_alloc, World.cell?_drew, World.frozen?_drew, Bool.not_true, Bool.not_false, Int.toNat_zero, dec_t, dec_f, int_eq_t, int_eq_f, int_ne_t, int_ne_f, wrap_in, kbeql3, kbeql24n, kbadd3, kbeql2, kbneq24n, kbs32_5_0_1_2_3_4]
  refine ck14 (of_lives (p := pAX) ((h8.quiet q9).quiet q10) ?_)
  intro w11 q11
  rw [o1]
  simp (maxSteps := 1000000) (disch := omega) only [hid1', hid2', guardK_u, takeG_u, wrap_in64, optK_some', fzK_false', nilK_ptr, brK_true', brK_false', guardK_tt', guardK_ff', guardK_tf', guardK_ft', takeG_tt', takeG_ff', takeG_tf', takeG_ft', pickK_t', pickK_f', pickT_t', pickT_f', notK, extract2_0', extract2_1', extract3_0', extract3_1', extract3_2', here_load, here_fieldAt, here_indexAt, here_extract, here_un, here_conv, here_slice, here_bin, here_nil, and_here, true_and, Nat.zero_add, Nat.add_assoc, Nat.add_zero, Int.toNat_natCast, size_alloc, World.cell?_drew, World.frozen?_drew, Bool.not_true, Bool.not_false, Int.toNat_zero, dec_t, dec_f, int_eq_t, int_eq_f, int_ne_t, int_ne_f, wrap_in, kbeql3, kbeql24n, kbadd3, kbeql2, kbneq24n, kbs32_5_0_1_2_3_4]
  exact hK w11 (((q08.trans q9).trans q10).trans q11)
end Go.Proofs.YtpdhmbbmhomlnaaDoor
