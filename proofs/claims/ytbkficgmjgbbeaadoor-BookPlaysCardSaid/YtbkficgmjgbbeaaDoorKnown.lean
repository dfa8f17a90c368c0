/- known: it returns true, and leaves what was. -/
import Derived.Test.YtbkficgmjgbbeaaDoorBookR3
set_option linter.unusedVariables false
set_option linter.unusedSimpArgs false
set_option maxRecDepth 100000
namespace Go.Proofs.YtbkficgmjgbbeaaDoor
open Go.RowKit Go.Cn
theorem cell_lt {w : World} {b i : Nat} {v : Value} (h : w.cell? ⟨b, i, none⟩ = some v) : b < w.heap.size := by
  unfold World.cell? at h
  cases e : w.heap[b]? with
  | none => simp [e] at h
  | some o => exact (Array.getElem?_eq_some_iff.1 e).1
theorem MaxAt.pos {w : World} (h : MaxAt w) : 0 < w.heap.size := by
  obtain ⟨m, h⟩ := h; exact cell_lt h
theorem put_end {l : EM} {p : ByteArray} (h : ∀ x ∈ l, SE.lt x.1 p = true) (v : Ent) : putM SE.lt l p v = l ++ [(p, v)] := by
  have hp : pos SE.lt l p = l.length := pos_eq l p l.length (Nat.le_refl _) (fun j hj _ => h _ (List.getElem_mem hj)) (fun h => absurd h (by omega))
  have hf : fnd SE.lt l p = false := by
    cases e : fnd SE.lt l p with
    | false => rfl
    | true => have := fnd_lt e; omega
  rw [put_split, hp, hf, if_neg (by decide)]
  simp
/-- A book that lies above n. -/
structure BV (n : Nat) (w : World) (x g : Nat) (m : EM) (F : Option Nat) : Prop where
  at_ : BookAt w x g m F
  x0 : n ≤ x
  g0 : n ≤ g
  f0 : ∀ k, F = some k → n ≤ k
theorem BV.quiet {n : Nat} {w w' : World} {x g : Nat} {m : EM} {F : Option Nat} (h : BV n w x g m F) (q : Qt w w') : BV n w' x g m F := ⟨h.at_.quiet q, h.x0, h.g0, h.f0⟩
theorem put_bv {w0 w : World} {x g : Nat} {m : EM} {F : Option Nat} {e : Ent} {K : Value → World → Prop} (hm : MaxAt w0) (h : BV w0.heap.size w x g m F) (hq : Qt w0 w) (hg : m.length ≤ 64) (hp : e.1.size ≤ 50000)
    (hK : ∀ F' w', BV w0.heap.size w' x g (putE m e).1 F' → Qt w0 w' → Chg (fun q => q = g ∨ F = some q) w w' → (∀ q, F' = some q → F = some q ∨ w.heap.size ≤ q) → K (.int .i64 (putE m e).2) w') :
    CallK Tryd.prog 11 #[.pointer (some ⟨x, 0, none⟩), SE.ev e] K w := by
  refine put_book h.at_ hp (hm.quiet hq) (by omega) ?_
  intro F' w' h' c f
  have hs := hq.size
  refine hK F' w' ⟨h', h.x0, h.g0, fun k hk => ?_⟩ (hq.then c (fun k hk => ?_)) c f
  · rcases f k hk with e | e
    · exact h.f0 k e
    · omega
  · rcases hk with e | e
    · have := h.g0; omega
    · exact h.f0 k e
def pAX : ByteArray := ⟨#[47, 97, 47, 120]⟩
def pBY : ByteArray := ⟨#[47, 98, 47, 121]⟩
def eA : Ent := (pAX, 1, 5)
def eB : Ent := (pBY, 0, 9)
theorem eA0 : errE eA = 0 := by decide
theorem eB0 : errE eB = 0 := by decide
theorem ltAB : SE.lt pAX pBY = true := by
  show ltS pAX pBY = true
  unfold ltS
  rw [Go.Proofs.bytesLess_eq, ByteArray.toList_eq, ByteArray.toList_eq]
  decide
theorem neAB : pAX ≠ pBY := fun e => by have := ltAB; rw [e, SE.O.irr] at this; cases this
def mA : EM := [(pAX, eA)]
def mAB : EM := [(pAX, eA), (pBY, eB)]
def mB : EM := [(pBY, eB)]
theorem rises_A : Rises SE.lt mA := ⟨fun q hq => (by cases hq), trivial⟩
theorem rises_B : Rises SE.lt mB := ⟨fun q hq => (by cases hq), trivial⟩
theorem rises_AB : Rises SE.lt mAB := ⟨fun q hq => by simp [mB, List.mem_singleton] at hq; rw [hq]; exact ltAB, rises_B⟩
theorem fnd_in {m : EM} (hs : Rises SE.lt m) {p : ByteArray} {e : Ent} (h : (p, e) ∈ m) : fnd SE.lt m p = true := by
  obtain ⟨_, h, _⟩ := mem_fnd SE.O hs h; exact h
theorem put1 : putE [] eA = (mA, 0) := by
  have hf : fnd SE.lt ([] : EM) eA.1 = false := no_fnd (fun q hq => by cases hq)
  unfold putE
  rw [if_neg (by rw [eA0]; decide), if_neg (by rw [hf]; rintro ⟨h, _⟩; cases h), if_neg (by rintro ⟨_, h⟩; simp at h), put_end (fun x hx => by cases hx)]
  rfl
theorem put2 : putE mA eA = (mA, 11) := by
  have hf : fnd SE.lt mA eA.1 = true := fnd_in rises_A (List.mem_singleton.2 rfl)
  have hg : getE mA eA.1 = eA := getE_mem rises_A (List.mem_singleton.2 rfl)
  unfold putE
  rw [if_neg (by rw [eA0]; decide), if_pos ⟨hf, by rw [hg]; decide⟩]
theorem put3 : putE mA eB = (mAB, 0) := by
  have hf : fnd SE.lt mA eB.1 = false := no_fnd (fun q hq => by
    rw [List.mem_singleton.1 hq]; exact neAB)
  unfold putE
  rw [if_neg (by rw [eB0]; decide), if_neg (by rw [hf]; rintro ⟨h, _⟩; cases h), if_neg (by rintro ⟨_, h⟩; simp [mA] at h), put_end (fun x hx => by rw [List.mem_singleton.1 hx]; exact ltAB)]
  rfl
theorem get1 : getE mAB pAX = eA := getE_mem rises_AB (by simp [mAB])
theorem fnd1 : fnd SE.lt mAB pAX = true := fnd_in rises_AB (e := eA) (by simp [mAB])
theorem fnd2 : fnd SE.lt mB pBY = true := fnd_in rises_B (e := eB) (by simp [mB])
theorem und1 : underM mAB ⟨#[47, 97]⟩ = [pAX] := by
  have h1 : underB pAX ⟨#[47, 97]⟩ = true := by decide
  have h2 : underB pBY ⟨#[47, 97]⟩ = false := by decide
  unfold underM mAB
  simp [h1, h2]
theorem swe1 : sweepM mAB 20 12 ⟨#[47, 113, 47, 113]⟩ = (mB, [pAX]) := by
  have h1 : pAX ≠ ⟨#[47, 113, 47, 113]⟩ := by decide
  unfold sweepM stayM goneM mAB mB
  rw [if_neg (by omega)]
  simp [goneE, eA, eB, h1]
theorem new1 : newE eA (ByteArray.empty, 1, 4) = true := by decide
theorem chk1 : chkL [eB] = 0 := by
  unfold chkL
  rw [if_neg (by simp), chkE, if_neg (by rw [eB0]; decide)]
  rfl
theorem put4 (m : EM) (a b : Int) : putE m (⟨#[47]⟩, a, b) = (m, 5) := by
  have h : errE (⟨#[47]⟩, a, b) = 5 := by unfold errE; rw [if_pos (show nodeB ⟨#[47]⟩ = false by decide)]
  unfold putE
  rw [h, if_pos (by decide)]
theorem len_AB : mAB.length = 2 := rfl
theorem len_A : mA.length = 1 := rfl
theorem len_B : mB.length = 1 := rfl
theorem key_AB : ∀ y ∈ mAB, y.2.1 = y.1 := fun y hy => by
  rcases List.mem_cons.1 hy with rfl | hy
  · rfl
  · rw [List.mem_singleton.1 hy]; rfl
theorem siz_AB : ∀ y ∈ mAB, y.1.size ≤ 50000 := fun y hy => by
  rcases List.mem_cons.1 hy with rfl | hy
  · decide
  · rw [List.mem_singleton.1 hy]; decide
set_option maxHeartbeats 2000000 in
theorem known_any {w : World} {K : Value → World → Prop} (hm : MaxAt w) (hK : ∀ w', Qt w w' → K (.bool true) w') : CallK Tryd.prog 7 #[] K w := by
  refine F7_calls _ _ ?_; unfold F7
  refine ck8 (new_book ?_)
  intro x g w1 h1 q1 hx hg
  have v1 : BV w.heap.size w1 x g [] none := ⟨h1, hx, hg, fun _ h => by cases h⟩
  simp (maxSteps := 1000000) (disch := omega) only [hid1', hid2', guardK_u, takeG_u, wrap_in64, optK_some', fzK_false', nilK_ptr, brK_true', brK_false', guardK_tt', guardK_ff', guardK_tf', guardK_ft', takeG_tt', takeG_ff', takeG_tf', takeG_ft', pickK_t', pickK_f', pickT_t', pickT_f', notK, extract2_0', extract2_1', extract3_0', extract3_1', extract3_2', here_load, here_fieldAt, here_indexAt, here_extract, here_un, here_conv, here_slice, here_bin, here_nil, and_here, true_and, Nat.zero_add, Nat.add_assoc, Nat.add_zero, Int.toNat_natCast, size_alloc, World.cell?_drew, World.frozen?_drew, Bool.not_true, Bool.not_false, Int.toNat_zero, dec_t, dec_f, int_eq_t, int_eq_f, int_ne_t, int_ne_f, wrap_in, kld9, kld2, kbeql3, kld28, kal28, kst28f, kbadd3, kbeql24n, kbd28_0, klen35, hlen35, klen41, hlen41, kfa28_2, kbd28_0_1_2, kbeql2, kia41, kbeql9, kbneq24n, kbd28_1_2]
  refine ck11 (put_bv (e := eA) hm v1 q1 (by decide) (by decide) ?_)
  rw [put1]
  intro F2 w2 v2 q2 _ _
  simp (maxSteps := 1000000) (disch := omega) only [hid1', hid2', guardK_u, takeG_u, wrap_in64, optK_some', fzK_false', nilK_ptr, brK_true', brK_false', guardK_tt', guardK_ff', guardK_tf', guardK_ft', takeG_tt', takeG_ff', takeG_tf', takeG_ft', pickK_t', pickK_f', pickT_t', pickT_f', notK, extract2_0', extract2_1', extract3_0', extract3_1', extract3_2', here_load, here_fieldAt, here_indexAt, here_extract, here_un, here_conv, here_slice, here_bin, here_nil, and_here, true_and, Nat.zero_add, Nat.add_assoc, Nat.add_zero, Int.toNat_natCast, size_alloc, World.cell?_drew, World.frozen?_drew, Bool.not_true, Bool.not_false, Int.toNat_zero, dec_t, dec_f, int_eq_t, int_eq_f, int_ne_t, int_ne_f, wrap_in, kld9, kld2, kbeql3, kld28, kal28, kst28f, kbadd3, kbeql24n, kbd28_0, klen35, hlen35, klen41, hlen41, kfa28_2, kbd28_0_1_2, kbeql2, kia41, kbeql9, kbneq24n, kbd28_1_2]
  refine ck11 (put_bv (e := eA) hm v2 q2 (by decide) (by decide) ?_)
  simp only
  rw [put2]
  intro F3 w3 v3 q3 _ _
  simp (maxSteps := 1000000) (disch := omega) only [hid1', hid2', guardK_u, takeG_u, wrap_in64, optK_some', fzK_false', nilK_ptr, brK_true', brK_false', guardK_tt', guardK_ff', guardK_tf', guardK_ft', takeG_tt', takeG_ff', takeG_tf', takeG_ft', pickK_t', pickK_f', pickT_t', pickT_f', notK, extract2_0', extract2_1', extract3_0', extract3_1', extract3_2', here_load, here_fieldAt, here_indexAt, here_extract, here_un, here_conv, here_slice, here_bin, here_nil, and_here, true_and, Nat.zero_add, Nat.add_assoc, Nat.add_zero, Int.toNat_natCast, size_alloc, World.cell?_drew, World.frozen?_drew, Bool.not_true, Bool.not_false, Int.toNat_zero, dec_t, dec_f, int_eq_t, int_eq_f, int_ne_t, int_ne_f, wrap_in, kld9, kld2, kbeql3, kld28, kal28, kst28f, kbadd3, kbeql24n, kbd28_0, klen35, hlen35, klen41, hlen41, kfa28_2, kbd28_0_1_2, kbeql2, kia41, kbeql9, kbneq24n, kbd28_1_2]
  refine ck11 (put_bv (e := eB) hm v3 q3 (by decide) (by decide) ?_)
  simp only
  rw [put3]
  intro F4 w4 v4 q4 _ _
  simp only at v4
  simp (maxSteps := 1000000) (disch := omega) only [hid1', hid2', guardK_u, takeG_u, wrap_in64, optK_some', fzK_false', nilK_ptr, brK_true', brK_false', guardK_tt', guardK_ff', guardK_tf', guardK_ft', takeG_tt', takeG_ff', takeG_tf', takeG_ft', pickK_t', pickK_f', pickT_t', pickT_f', notK, extract2_0', extract2_1', extract3_0', extract3_1', extract3_2', here_load, here_fieldAt, here_indexAt, here_extract, here_un, here_conv, here_slice, here_bin, here_nil, and_here, true_and, Nat.zero_add, Nat.add_assoc, Nat.add_zero, Int.toNat_natCast, size_alloc, World.cell?_drew, World.frozen?_drew, Bool.not_true, Bool.not_false, Int.toNat_zero, dec_t, dec_f, int_eq_t, int_eq_f, int_ne_t, int_ne_f, wrap_in, kld9, kld2, kbeql3, kld28, kal28, kst28f, kbadd3, kbeql24n, kbd28_0, klen35, hlen35, klen41, hlen41, kfa28_2, kbd28_0_1_2, kbeql2, kia41, kbeql9, kbneq24n, kbd28_1_2]
  refine ck12 (get_book (p := pAX) v4.at_ ?_)
  intro w5 q5
  rw [get1, fnd1]
  have v5 := v4.quiet q5
  have q05 := q4.trans q5
  have qa : Qt w5 (w5.alloc (.cells #[.string pAX, .int .i64 1, .int .i64 5] 28)) := Chg.alloc Qt.refl _
  have ha : (w5.alloc (.cells #[.string pAX, .int .i64 1, .int .i64 5] 28)).heap[w5.heap.size]? = some (.cells #[.string pAX, .int .i64 1, .int .i64 5] 28 (0, 0)) := blk_new _ _
  have eva : SE.ev eA = .agg #[.string pAX, .int .i64 1, .int .i64 5] := rfl
  rw [eva]
  simp (maxSteps := 1000000) (disch := omega) only [hid1', hid2', guardK_u, takeG_u, wrap_in64, optK_some', fzK_false', nilK_ptr, brK_true', brK_false', guardK_tt', guardK_ff', guardK_tf', guardK_ft', takeG_tt', takeG_ff', takeG_tf', takeG_ft', pickK_t', pickK_f', pickT_t', pickT_f', notK, extract2_0', extract2_1', extract3_0', extract3_1', extract3_2', here_load, here_fieldAt, here_indexAt, here_extract, here_un, here_conv, here_slice, here_bin, here_nil, and_here, true_and, Nat.zero_add, Nat.add_assoc, Nat.add_zero, Int.toNat_natCast, size_alloc, World.cell?_drew, World.frozen?_drew, Bool.not_true, Bool.not_false, Int.toNat_zero, dec_t, dec_f, int_eq_t, int_eq_f, int_ne_t, int_ne_f, wrap_in, kld9, kld2, kbeql3, kld28, kal28, kst28f, kbadd3, kbeql24n, kbd28_0, klen35, hlen35, klen41, hlen41, kfa28_2, kbd28_0_1_2, kbeql2, kia41, kbeql9, kbneq24n, kbd28_1_2]
  have v6 := v5.quiet qa
  have q06 := q05.trans qa
  have hsz5 := q05.size
  generalize (w5.alloc (.cells #[.string pAX, .int .i64 1, .int .i64 5] 28)) = w6 at *
  generalize hba : w5.heap.size = ba at *
  refine ck20 (under_book (z := ⟨#[47, 97]⟩) v6.at_ (by decide) (by decide) siz_AB (hm.quiet q06) ?_)
  rw [und1]
  intro A7 w7 r7 q7
  have v7 := v6.quiet q7
  have q07 := q06.trans q7
  simp (maxSteps := 1000000) (disch := omega) only [hid1', hid2', guardK_u, takeG_u, wrap_in64, optK_some', fzK_false', nilK_ptr, brK_true', brK_false', guardK_tt', guardK_ff', guardK_tf', guardK_ft', takeG_tt', takeG_ff', takeG_tf', takeG_ft', pickK_t', pickK_f', pickT_t', pickT_f', notK, extract2_0', extract2_1', extract3_0', extract3_1', extract3_2', here_load, here_fieldAt, here_indexAt, here_extract, here_un, here_conv, here_slice, here_bin, here_nil, and_here, true_and, Nat.zero_add, Nat.add_assoc, Nat.add_zero, Int.toNat_natCast, size_alloc, World.cell?_drew, World.frozen?_drew, Bool.not_true, Bool.not_false, Int.toNat_zero, dec_t, dec_f, int_eq_t, int_eq_f, int_ne_t, int_ne_f, wrap_in, kld9, kld2, kbeql3, kld28, kal28, kst28f, kbadd3, kbeql24n, kbd28_0, klen35, hlen35, klen41, hlen41, kfa28_2, kbd28_0_1_2, kbeql2, kia41, kbeql9, kbneq24n, kbd28_1_2]
  refine ck17 (twin_book v7.at_ ?_)
  intro x8 g8 F8 w8 h8 q8 hx8 hg8 hF8
  have v8 := v7.quiet q8
  have q08 := q07.trans q8
  simp (maxSteps := 1000000) (disch := omega) only [hid1', hid2', guardK_u, takeG_u, wrap_in64, optK_some', fzK_false', nilK_ptr, brK_true', brK_false', guardK_tt', guardK_ff', guardK_tf', guardK_ft', takeG_tt', takeG_ff', takeG_tf', takeG_ft', pickK_t', pickK_f', pickT_t', pickT_f', notK, extract2_0', extract2_1', extract3_0', extract3_1', extract3_2', here_load, here_fieldAt, here_indexAt, here_extract, here_un, here_conv, here_slice, here_bin, here_nil, and_here, true_and, Nat.zero_add, Nat.add_assoc, Nat.add_zero, Int.toNat_natCast, size_alloc, World.cell?_drew, World.frozen?_drew, Bool.not_true, Bool.not_false, Int.toNat_zero, dec_t, dec_f, int_eq_t, int_eq_f, int_ne_t, int_ne_f, wrap_in, kld9, kld2, kbeql3, kld28, kal28, kst28f, kbadd3, kbeql24n, kbd28_0, klen35, hlen35, klen41, hlen41, kfa28_2, kbd28_0_1_2, kbeql2, kia41, kbeql9, kbneq24n, kbd28_1_2]
  refine ck16 (sweep_book (now := 20) (age := 12) (keep := ⟨#[47, 113, 47, 113]⟩) v8.at_ (by decide) rises_AB key_AB (by decide) (by decide) ?_)
  rw [swe1]
  intro A9 w9 r9 b9 k9
  simp only at r9 b9
  have hlow := v8.at_.2.1.low
  have hlow5 := v5.at_.2.1.low
  have hs7 := q7.size
  have nk : ∀ k, w7.heap.size ≤ k → ¬ (k = g ∨ F4 = some k) := fun k hk e => by
    have hl7 := v7.at_.2.1.low
    rcases e with e | e
    · omega
    · have := hl7.2 _ e; omega
  have q09 : Qt w w9 := Qt.then q08 k9 (fun k hk => by
    rcases hk with e | e
    · have := v8.g0; omega
    · exact v8.f0 k e)
  have t9 := h8.chg k9 (nk x8 hx8) (nk g8 hg8) (fun k hk => nk k (hF8 k hk))
  have ba9 : w9.heap[ba]? = some (.cells #[.string pAX, .int .i64 1, .int .i64 5] 28 (0, 0)) := k9.heap (q8.heap (q7.heap ha (fun h => h)) (fun h => h)) (fun e => by
    rcases e with e | e
    · omega
    · have := hlow5.2 _ e; omega)
  obtain ⟨y90, y91, y92⟩ := cell3 (e := eA) ba9
  simp (maxSteps := 1000000) (disch := omega) only [hid1', hid2', guardK_u, takeG_u, wrap_in64, optK_some', fzK_false', nilK_ptr, brK_true', brK_false', guardK_tt', guardK_ff', guardK_tf', guardK_ft', takeG_tt', takeG_ff', takeG_tf', takeG_ft', pickK_t', pickK_f', pickT_t', pickT_f', notK, extract2_0', extract2_1', extract3_0', extract3_1', extract3_2', here_load, here_fieldAt, here_indexAt, here_extract, here_un, here_conv, here_slice, here_bin, here_nil, and_here, true_and, Nat.zero_add, Nat.add_assoc, Nat.add_zero, Int.toNat_natCast, size_alloc, World.cell?_drew, World.frozen?_drew, Bool.not_true, Bool.not_false, Int.toNat_zero, dec_t, dec_f, int_eq_t, int_eq_f, int_ne_t, int_ne_f, wrap_in, kld9, kld2, kbeql3, kld28, kal28, kst28f, kbadd3, kbeql24n, kbd28_0, klen35, hlen35, klen41, hlen41, kfa28_2, kbd28_0_1_2, kbeql2, kia41, kbeql9, kbneq24n, kbd28_1_2]
  refine ck19 (row_any b9 (by decide) ?_)
  intro A10 w10 r10 q10 f10
  have q010 := q09.trans q10
  have b10 := b9.quiet q10
  have t10 := t9.quiet q10
  have ba10 := q10.heap ba9 (fun h => h)
  obtain ⟨y100, y101, y102⟩ := cell3 (e := eA) ba10
  have c9 : ∃ b o, A9 = some ⟨b, o, none⟩ ∧ w10.cell? ⟨b, o, none⟩ = some (.string pAX) := by
    rcases r9.quiet q10 with e | ⟨b, o, e, hc⟩
    · simp [strV] at e
    · exact ⟨b, o, e, hc 0 (by simp [strV])⟩
  obtain ⟨b9_, o9_, rfl, c9⟩ := c9
  have e1 : (([pAX] : List ByteArray).length : Int) = 1 := rfl
  have e2 : ((mB.length : Nat) : Int) = 1 := rfl
  have e3 : ((mAB.length : Nat) : Int) = 2 := rfl
  have e4 : (pAX.toList == ({ data := #[47, 97, 47, 120] } : ByteArray).toList) = true := beq_self_eq_true _
  have y102' : w10.cell? ⟨ba, 2, none⟩ = some (.int .i64 5) := y102
  simp (maxSteps := 1000000) (disch := omega) only [hid1', hid2', guardK_u, takeG_u, wrap_in64, optK_some', fzK_false', nilK_ptr, brK_true', brK_false', guardK_tt', guardK_ff', guardK_tf', guardK_ft', takeG_tt', takeG_ff', takeG_tf', takeG_ft', pickK_t', pickK_f', pickT_t', pickT_f', notK, extract2_0', extract2_1', extract3_0', extract3_1', extract3_2', here_load, here_fieldAt, here_indexAt, here_extract, here_un, here_conv, here_slice, here_bin, here_nil, and_here, true_and, Nat.zero_add, Nat.add_assoc, Nat.add_zero, Int.toNat_natCast, size_alloc, World.cell?_drew, World.frozen?_drew, Bool.not_true, Bool.not_false, Int.toNat_zero, dec_t, dec_f, int_eq_t, int_eq_f, int_ne_t, int_ne_f, wrap_in, kld9, kld2, kbeql3, kld28, kal28, kst28f, kbadd3, kbeql24n, kbd28_0, klen35, hlen35, klen41, hlen41, kfa28_2, kbd28_0_1_2, kbeql2, kia41, kbeql9, kbneq24n, kbd28_1_2, e1, e2, y102', c9, e4]
  refine ck19 (row_any t10 (by decide) ?_)
  intro A11 w11 r11 q11 _
  have q011 := q010.trans q11
  have b11 := b10.quiet q11
  have ba11 := q11.heap ba10 (fun h => h)
  have r11b := r10.quiet q11
  simp (maxSteps := 1000000) (disch := omega) only [hid1', hid2', guardK_u, takeG_u, wrap_in64, optK_some', fzK_false', nilK_ptr, brK_true', brK_false', guardK_tt', guardK_ff', guardK_tf', guardK_ft', takeG_tt', takeG_ff', takeG_tf', takeG_ft', pickK_t', pickK_f', pickT_t', pickT_f', notK, extract2_0', extract2_1', extract3_0', extract3_1', extract3_2', here_load, here_fieldAt, here_indexAt, here_extract, here_un, here_conv, here_slice, here_bin, here_nil, and_here, true_and, Nat.zero_add, Nat.add_assoc, Nat.add_zero, Int.toNat_natCast, size_alloc, World.cell?_drew, World.frozen?_drew, Bool.not_true, Bool.not_false, Int.toNat_zero, dec_t, dec_f, int_eq_t, int_eq_f, int_ne_t, int_ne_f, wrap_in, kld9, kld2, kbeql3, kld28, kal28, kst28f, kbadd3, kbeql24n, kbd28_0, klen35, hlen35, klen41, hlen41, kfa28_2, kbd28_0_1_2, kbeql2, kia41, kbeql9, kbneq24n, kbd28_1_2, e3]
  refine ck13 (drop_book (p := pBY) b11 ?_)
  rw [fnd2]
  intro w12 b12 k12
  have q012 : Qt w w12 := Qt.then q011 k12 (fun k hk => by
    rcases hk with e | e
    · have := v8.g0; omega
    · exact v8.f0 k e)
  have ba12 := k12.heap ba11 (fun e => by
    rcases e with e | e
    · omega
    · have := hlow5.2 _ e; omega)
  obtain ⟨y120, y121, y122⟩ := cell3 (e := eA) ba12
  simp only [eA] at y120 y121 y122
  simp (maxSteps := 1000000) (disch := omega) only [hid1', hid2', guardK_u, takeG_u, wrap_in64, optK_some', fzK_false', nilK_ptr, brK_true', brK_false', guardK_tt', guardK_ff', guardK_tf', guardK_ft', takeG_tt', takeG_ff', takeG_tf', takeG_ft', pickK_t', pickK_f', pickT_t', pickT_f', notK, extract2_0', extract2_1', extract3_0', extract3_1', extract3_2', here_load, here_fieldAt, here_indexAt, here_extract, here_un, here_conv, here_slice, here_bin, here_nil, and_here, true_and, Nat.zero_add, Nat.add_assoc, Nat.add_zero, Int.toNat_natCast, size_alloc, World.cell?_drew, World.frozen?_drew, Bool.not_true, Bool.not_false, Int.toNat_zero, dec_t, dec_f, int_eq_t, int_eq_f, int_ne_t, int_ne_f, wrap_in, kld9, kld2, kbeql3, kld28, kal28, kst28f, kbadd3, kbeql24n, kbd28_0, klen35, hlen35, klen41, hlen41, kfa28_2, kbd28_0_1_2, kbeql2, kia41, kbeql9, kbneq24n, kbd28_1_2, y120, y121, y122]
  refine ck23 (newer_any (a := eA) (b := (ByteArray.empty, 1, 4)) ?_)
  rw [new1]
  intro w13 q13
  have q013 := q012.trans q13
  have r12 : Reads w12 A10 (rowE mB) := r11b.chg k12 (fun ad ha e => by
    have h1 := f10 ad ha
    have h2 := b9.2.1.low
    rcases e with e | e
    · omega
    · have := h2.2 _ e; omega)
  have hr13 : Reads w13 A10 (rowL [eB]) := r12.quiet q13
  simp (maxSteps := 1000000) (disch := omega) only [hid1', hid2', guardK_u, takeG_u, wrap_in64, optK_some', fzK_false', nilK_ptr, brK_true', brK_false', guardK_tt', guardK_ff', guardK_tf', guardK_ft', takeG_tt', takeG_ff', takeG_tf', takeG_ft', pickK_t', pickK_f', pickT_t', pickT_f', notK, extract2_0', extract2_1', extract3_0', extract3_1', extract3_2', here_load, here_fieldAt, here_indexAt, here_extract, here_un, here_conv, here_slice, here_bin, here_nil, and_here, true_and, Nat.zero_add, Nat.add_assoc, Nat.add_zero, Int.toNat_natCast, size_alloc, World.cell?_drew, World.frozen?_drew, Bool.not_true, Bool.not_false, Int.toNat_zero, dec_t, dec_f, int_eq_t, int_eq_f, int_ne_t, int_ne_f, wrap_in, kld9, kld2, kbeql3, kld28, kal28, kst28f, kbadd3, kbeql24n, kbd28_0, klen35, hlen35, klen41, hlen41, kfa28_2, kbd28_0_1_2, kbeql2, kia41, kbeql9, kbneq24n, kbd28_1_2]
  refine ck25 (check_any (l := [eB]) hr13 (by decide) (fun x hx => by rw [List.mem_singleton.1 hx]; decide) (hm.quiet q013) ?_)
  rw [chk1]
  intro w14 q14
  have q014 := q013.trans q14
  have b14 := (b12.quiet q13).quiet q14
  simp (maxSteps := 1000000) (disch := omega) only [hid1', hid2', guardK_u, takeG_u, wrap_in64, optK_some', fzK_false', nilK_ptr, brK_true', brK_false', guardK_tt', guardK_ff', guardK_tf', guardK_ft', takeG_tt', takeG_ff', takeG_tf', takeG_ft', pickK_t', pickK_f', pickT_t', pickT_f', notK, extract2_0', extract2_1', extract3_0', extract3_1', extract3_2', here_load, here_fieldAt, here_indexAt, here_extract, here_un, here_conv, here_slice, here_bin, here_nil, and_here, true_and, Nat.zero_add, Nat.add_assoc, Nat.add_zero, Int.toNat_natCast, size_alloc, World.cell?_drew, World.frozen?_drew, Bool.not_true, Bool.not_false, Int.toNat_zero, dec_t, dec_f, int_eq_t, int_eq_f, int_ne_t, int_ne_f, wrap_in, kld9, kld2, kbeql3, kld28, kal28, kst28f, kbadd3, kbeql24n, kbd28_0, klen35, hlen35, klen41, hlen41, kfa28_2, kbd28_0_1_2, kbeql2, kia41, kbeql9, kbneq24n, kbd28_1_2]
  refine ck11 (put_book (e := (⟨#[47]⟩, 0, 0)) b14 (by decide) (hm.quiet q014) (by rw [drop_filter rises_B]; exact Nat.le_trans (List.length_filter_le _ _) (by decide)) ?_)
  rw [put4]
  intro F15 w15 b15 k15 _
  have q015 : Qt w w15 := Qt.then q014 k15 (fun k hk => by
    rcases hk with e | e
    · have := v8.g0; omega
    · exact v8.f0 k e)
  simp (maxSteps := 1000000) (disch := omega) only [hid1', hid2', guardK_u, takeG_u, wrap_in64, optK_some', fzK_false', nilK_ptr, brK_true', brK_false', guardK_tt', guardK_ff', guardK_tf', guardK_ft', takeG_tt', takeG_ff', takeG_tf', takeG_ft', pickK_t', pickK_f', pickT_t', pickT_f', notK, extract2_0', extract2_1', extract3_0', extract3_1', extract3_2', here_load, here_fieldAt, here_indexAt, here_extract, here_un, here_conv, here_slice, here_bin, here_nil, and_here, true_and, Nat.zero_add, Nat.add_assoc, Nat.add_zero, Int.toNat_natCast, size_alloc, World.cell?_drew, World.frozen?_drew, Bool.not_true, Bool.not_false, Int.toNat_zero, dec_t, dec_f, int_eq_t, int_eq_f, int_ne_t, int_ne_f, wrap_in, kld9, kld2, kbeql3, kld28, kal28, kst28f, kbadd3, kbeql24n, kbd28_0, klen35, hlen35, klen41, hlen41, kfa28_2, kbd28_0_1_2, kbeql2, kia41, kbeql9, kbneq24n, kbd28_1_2]
  exact hK w15 q015
end Go.Proofs.YtbkficgmjgbbeaaDoor
