/- strings.Builder.WriteString, strings.Join by a stroke, strings.CutPrefix of a stroke, strings.Split at strokes. Conditions: at most 200 parts of at most 1000 bytes. -/
import Derived.Test.YtdnlenngbaaeaaaDoorVI
import Derived.Test.YtdnlenngbaaeaaaDoorBld
import Derived.Test.YtdnlenngbaaeaaaDoorStr
import Derived.Test.YtdnlenngbaaeaaaDoorL6
set_option linter.unusedVariables false
set_option linter.unusedSimpArgs false
set_option maxRecDepth 100000
namespace Go.Proofs.YtdnlenngbaaeaaaDoor
open Go.RowKit Go.Cn
theorem infoB : (Tryd.prog.info? 5).map (fun i => (i.zero, i.size, i.bytes)) = some (some (.int .u8 0), 1, 1) := by kernel_rfl
theorem tyB : ElemTy Tryd.prog 71 5 (.int .u8 0) 1 1 := ElemTy.mk' Tryd.underlying71 infoB rfl (by decide)
theorem to_own {w : World} {B n : Nat} {v : Value} {xs : List Value} (h : w.ownsRow B 5 1 v n xs) : Own w 5 1 v n xs v.ownBlock ∧ ∀ k, v.ownBlock = some k → B ≤ k := by
  refine ⟨Own.of_row h, fun k hk => ?_⟩
  rcases h.2 with ⟨rfl, _⟩ | ⟨g, cap, cur, rfl, hB, _⟩
  · cases hk
  · cases hk; exact hB
theorem of_own {w : World} {B n : Nat} {v : Value} {xs : List Value} {F : Option Nat} (h : Own w 5 1 v n xs F) (hF : ∀ k, F = some k → B ≤ k) : w.ownsRow B 5 1 v n xs ∧ v.ownBlock = F := by
  rcases h with ⟨rfl, rfl, rfl, rfl⟩ | ⟨g, cap, rfl, rfl, hl, cur, hb, h1, h2, h3, h4⟩
  · exact ⟨⟨by simp, .inl ⟨rfl, rfl⟩⟩, rfl⟩
  · exact ⟨⟨hl, .inr ⟨g, cap, cur, rfl, hF g rfl, hb, h1, h2, h3, h4⟩⟩, rfl⟩
theorem write_any {B b : Nat} {bs : List UInt8} {l : List UInt8} {w : World} {K : Value → World → Prop} (h : Lib.IsBuilder 85 5 B b (bs.map vb) w) (hl : bs.length + l.length ≤ 1000000) (hB : B ≤ w.heap.size)
    (hK : ∀ v w', Lib.IsBuilder 85 5 B b ((bs ++ l).map vb) w' → Below B w w' → B ≤ w'.heap.size → K v w') : CallK Tryd.prog 63 #[.pointer (some ⟨b, 0, none⟩), .string (txt l)] K w := by
  refine F63_calls _ _ _ _ ?_; unfold F63
  refine callV_of Tryd.func74 (by kernel_rfl) (by kernel_rfl) (copy_any B b _ w h) ?_
  rintro w1 ⟨⟨hBb, v, hb, ho, hvb⟩, hw1⟩
  obtain ⟨o1, hF⟩ := to_own ho
  obtain ⟨A, c, rfl, _⟩ := o1.shape
  have c1 : w1.cell? ⟨b, 1, none⟩ = some (.slice A (bs.map vb).length c) := by rw [blk_cell hb]; rfl
  have hs1 : w.heap.size ≤ w1.heap.size := hw1.size
  simp (maxSteps := 1000000) (disch := omega) only [hid1', hid2', guardK_u, takeG_u, wrap_in64, optK_some', fzK_false', nilK_ptr, brK_true', brK_false', guardK_tt', guardK_ff', guardK_tf', guardK_ft', takeG_tt', takeG_ff', takeG_tf', takeG_ft', pickK_t', pickK_f', pickT_t', pickT_f', notK, extract2_0', extract2_1', extract3_0', extract3_1', extract3_2', here_load, here_fieldAt, here_indexAt, here_extract, here_un, here_conv, here_slice, here_bin, here_nil, and_here, true_and, Nat.zero_add, Nat.add_assoc, Nat.add_zero, Int.toNat_natCast, size_alloc, World.cell?_drew, World.frozen?_drew, Bool.not_true, Bool.not_false, Int.toNat_zero, dec_t, dec_f, int_eq_t, int_eq_f, int_ne_t, int_ne_f, wrap_in, klen9, hlen9, kfa85_1, kld71, kst71, c1]
  obtain ⟨A2, c2, F2, w2, p2, o2, k2, f2⟩ := appendS_run (P := Tryd.prog) tyB Tryd.underlying9 o1 (txt l) (by rw [txt_size, List.length_map]; omega) 71
  refine appK p2 ?_
  have hb2 := k2.heap hb hvb
  have c21 : w2.cell? ⟨b, 1, none⟩ = some (.slice A (bs.map vb).length c) := by rw [blk_cell hb2]; rfl
  have z2 := blk_frozen hb2 1
  simp (maxSteps := 1000000) (disch := omega) only [hid1', hid2', guardK_u, takeG_u, wrap_in64, optK_some', fzK_false', nilK_ptr, brK_true', brK_false', guardK_tt', guardK_ff', guardK_tf', guardK_ft', takeG_tt', takeG_ff', takeG_tf', takeG_ft', pickK_t', pickK_f', pickT_t', pickT_f', notK, extract2_0', extract2_1', extract3_0', extract3_1', extract3_2', here_load, here_fieldAt, here_indexAt, here_extract, here_un, here_conv, here_slice, here_bin, here_nil, and_here, true_and, Nat.zero_add, Nat.add_assoc, Nat.add_zero, Int.toNat_natCast, size_alloc, World.cell?_drew, World.frozen?_drew, Bool.not_true, Bool.not_false, Int.toNat_zero, dec_t, dec_f, int_eq_t, int_eq_f, int_ne_t, int_ne_f, wrap_in, klen9, hlen9, kfa85_1, kld71, kst71, c21, z2]
  have hch : Chg (fun k => k = b) w2 (w2.setCell ⟨b, 1, none⟩ (.slice A2 ((bs.map vb).length + (txt l).size) c2)) := (Chg.refl (fun k => k = b) w2).setCell (p := ⟨b, _, none⟩) (.inl rfl) _
  have hF2b : F2 ≠ some b := fun e => by
    rcases f2 b e with h | h
    · exact hvb h
    · have := blk_lt hb; omega
  have hF2 : ∀ k, F2 = some k → B ≤ k := fun k hk => by
    rcases f2 k hk with h | h
    · exact hF k h
    · omega
  have o3 := o2.chg hch (fun k hk e => hF2b (by rw [hk, e]))
  have hbl : Below B w (w2.setCell ⟨b, 1, none⟩ (.slice A2 ((bs.map vb).length + (txt l).size) c2)) := (hw1.step k2 (by omega) hF).step hch (by have := k2.size; omega) (fun k hk => by rw [hk]; exact hBb)
  have hxs : (bs.map vb) ++ (txt l).data.toList.map vb = (bs ++ l).map vb := by rw [txt_data, List.map_append]
  have hlen : (bs.map vb).length + (txt l).size = ((bs ++ l).map vb).length := by rw [txt_size]; simp
  rw [hxs] at o3
  obtain ⟨r1, r2⟩ := of_own o3 hF2
  refine hK _ _ (.inr ⟨hBb, _, by rw [blk_set hb2]; rfl, ?_, ?_⟩) hbl (by have := hbl.size; omega)
  · rw [← hlen]; exact r1
  · rw [r2]; exact hF2b
def strs (ps : List (List UInt8)) : List Value := ps.map fun p => .string (txt p)
def joinB : List (List UInt8) → List UInt8
  | [] => []
  | p :: r => p ++ r.flatMap (fun q => 32 :: q)
theorem joinB_len (ps : List (List UInt8)) (h : ∀ p ∈ ps, p.length ≤ 1000) : (joinB ps).length ≤ ps.length * 1001 := by
  have key : ∀ r : List (List UInt8), (∀ p ∈ r, p.length ≤ 1000) → (r.flatMap (fun q => 32 :: q)).length ≤ r.length * 1001 := by
    intro r hr
    induction r with
    | nil => simp
    | cons a r ih =>
      have h1 := ih (fun p hp => hr p (by simp [hp]))
      have h2 := hr a (by simp)
      rw [List.flatMap_cons, List.length_append, List.length_cons, List.length_cons, Nat.succ_mul]; omega
  cases ps with
  | nil => simp [joinB]
  | cons p r =>
    have h1 := key r (fun q hq => h q (by simp [hq]))
    have h2 := h p (by simp)
    rw [joinB, List.length_append, List.length_cons, Nat.succ_mul]; omega
set_option maxHeartbeats 1000000 in
theorem join_any {ps : List (List UInt8)} {A : Option Addr} {c : Nat} {w : World} {K : Value → World → Prop} (hr : Reads w A (strs ps)) (hcp : ps.length ≤ c) (hn : ps.length ≤ 200) (hp : ∀ p ∈ ps, p.length ≤ 1000)
    (hK : ∀ w', Qt w w' → K (.string (txt (joinB ps))) w') : CallK Tryd.prog 53 #[.slice A ps.length c, .string (txt [32])] K w := by
  refine F53_calls _ _ _ _ ?_; unfold F53
  by_cases h0 : ps.length = 0
  · obtain rfl : ps = [] := List.eq_nil_of_length_eq_zero h0
    have e0 : ((([] : List (List UInt8)).length : Nat) : Int) = 0 := rfl
    simp (maxSteps := 1000000) (disch := omega) only [hid1', hid2', guardK_u, takeG_u, wrap_in64, optK_some', fzK_false', nilK_ptr, brK_true', brK_false', guardK_tt', guardK_ff', guardK_tf', guardK_ft', takeG_tt', takeG_ff', takeG_tf', takeG_ft', pickK_t', pickK_f', pickT_t', pickT_f', notK, extract2_0', extract2_1', extract3_0', extract3_1', extract3_2', here_load, here_fieldAt, here_indexAt, here_extract, here_un, here_conv, here_slice, here_bin, here_nil, and_here, true_and, Nat.zero_add, Nat.add_assoc, Nat.add_zero, Int.toNat_natCast, size_alloc, World.cell?_drew, World.frozen?_drew, Bool.not_true, Bool.not_false, Int.toNat_zero, dec_t, dec_f, int_eq_t, int_eq_f, int_ne_t, int_ne_f, wrap_in, kbsub3, kbeql3, klen9, hlen9, kbgtr3, kblss3, kbadd3, kld9, kbgeq3, klen59, hlen59, kia59, kbquo3, kbmul3, kal85, ksl59_100z, ksl59_100, e0, beq_self_eq_true]
    exact hK w Qt.refl
  obtain ⟨p0, rest, rfl⟩ : ∃ p r, ps = p :: r := by cases ps with | nil => exact absurd rfl h0 | cons p r => exact ⟨p, r, rfl⟩
  have hget : ∀ (w' : World) (i : Nat) (hi : i < (p0 :: rest).length), Qt w w' → ∃ g o, A = some ⟨g, o, none⟩ ∧ w'.cell? ⟨g, o + i, none⟩ = some (.string (txt ((p0 :: rest)[i]))) := by
    intro w' i hi hq
    obtain ⟨g, o, hA, hc⟩ := Reads.get (enc := fun p => Value.string (txt p)) (hr.quiet hq) hi
    refine ⟨g, o, hA, ?_⟩
    rw [hc, List.getD_eq_getElem?_getD, List.getElem?_eq_getElem hi]; rfl
  obtain ⟨g, o, rfl, hc0⟩ := hget w 0 (by simp) Qt.refl
  have hget' : ∀ (w' : World) (i : Nat) (hi : i < (p0 :: rest).length), Qt w w' → w'.cell? ⟨g, o + i, none⟩ = some (.string (txt ((p0 :: rest)[i]))) := by
    intro w' i hi hq
    obtain ⟨_, _, e, h⟩ := hget w' i hi hq
    cases e; exact h
  have hc0' : w.cell? ⟨g, o, none⟩ = some (.string (txt p0)) := hc0
  by_cases h1 : rest.length = 0
  · obtain rfl : rest = [] := List.eq_nil_of_length_eq_zero h1
    have e1 : ((([p0] : List (List UInt8)).length : Nat) : Int) = 1 := rfl
    simp (maxSteps := 1000000) (disch := omega) only [hid1', hid2', guardK_u, takeG_u, wrap_in64, optK_some', fzK_false', nilK_ptr, brK_true', brK_false', guardK_tt', guardK_ff', guardK_tf', guardK_ft', takeG_tt', takeG_ff', takeG_tf', takeG_ft', pickK_t', pickK_f', pickT_t', pickT_f', notK, extract2_0', extract2_1', extract3_0', extract3_1', extract3_2', here_load, here_fieldAt, here_indexAt, here_extract, here_un, here_conv, here_slice, here_bin, here_nil, and_here, true_and, Nat.zero_add, Nat.add_assoc, Nat.add_zero, Int.toNat_natCast, size_alloc, World.cell?_drew, World.frozen?_drew, Bool.not_true, Bool.not_false, Int.toNat_zero, dec_t, dec_f, int_eq_t, int_eq_f, int_ne_t, int_ne_f, wrap_in, kbsub3, kbeql3, klen9, hlen9, kbgtr3, kblss3, kbadd3, kld9, kbgeq3, klen59, hlen59, kia59, kbquo3, kbmul3, kal85, ksl59_100z, ksl59_100, e1, hc0', beq_self_eq_true]
    have := hK w Qt.refl
    simpa [joinB] using this
  have hlen : (((p0 :: rest).length : Nat) : Int) = (rest.length : Int) + 1 := by simp
  have hrl : rest.length ≤ 199 := by simp at hn; omega
  have ht : (txt [32]).size = 1 := rfl
  have ht' : ((1 : Nat) : Int) = 1 := rfl
  simp (maxSteps := 1000000) (disch := omega) only [hid1', hid2', guardK_u, takeG_u, wrap_in64, optK_some', fzK_false', nilK_ptr, brK_true', brK_false', guardK_tt', guardK_ff', guardK_tf', guardK_ft', takeG_tt', takeG_ff', takeG_tf', takeG_ft', pickK_t', pickK_f', pickT_t', pickT_f', notK, extract2_0', extract2_1', extract3_0', extract3_1', extract3_2', here_load, here_fieldAt, here_indexAt, here_extract, here_un, here_conv, here_slice, here_bin, here_nil, and_here, true_and, Nat.zero_add, Nat.add_assoc, Nat.add_zero, Int.toNat_natCast, size_alloc, World.cell?_drew, World.frozen?_drew, Bool.not_true, Bool.not_false, Int.toNat_zero, dec_t, dec_f, int_eq_t, int_eq_f, int_ne_t, int_ne_f, wrap_in, kbsub3, kbeql3, klen9, hlen9, kbgtr3, kblss3, kbadd3, kld9, kbgeq3, klen59, hlen59, kia59, kbquo3, kbmul3, kal85, ksl59_100z, ksl59_100, hlen, ht, ht']
  refine cutK1 (fun v w' => v = .int .i64 (rest.length : Int) ∧ w' = w) ?_ ?_
  · simp (maxSteps := 1000000) (disch := omega) only [hid1', hid2', guardK_u, takeG_u, wrap_in64, optK_some', fzK_false', nilK_ptr, brK_true', brK_false', guardK_tt', guardK_ff', guardK_tf', guardK_ft', takeG_tt', takeG_ff', takeG_tf', takeG_ft', pickK_t', pickK_f', pickT_t', pickT_f', notK, extract2_0', extract2_1', extract3_0', extract3_1', extract3_2', here_load, here_fieldAt, here_indexAt, here_extract, here_un, here_conv, here_slice, here_bin, here_nil, and_here, true_and, Nat.zero_add, Nat.add_assoc, Nat.add_zero, Int.toNat_natCast, size_alloc, World.cell?_drew, World.frozen?_drew, Bool.not_true, Bool.not_false, Int.toNat_zero, dec_t, dec_f, int_eq_t, int_eq_f, int_ne_t, int_ne_f, wrap_in, kbsub3, kbeql3, klen9, hlen9, kbgtr3, kblss3, kbadd3, kld9, kbgeq3, klen59, hlen59, kia59, kbquo3, kbmul3, kal85, ksl59_100z, ksl59_100, hlen, ht, ht']
    refine cutK0 (fun w' => w' = w) ?_ ?_
    · have hq : 2 ≤ (9223372036854775807 : Int) / ((rest.length : Int) + 1 - 1) := by
        rw [Int.le_ediv_iff_mul_le (by omega)]; omega
      simp (maxSteps := 1000000) (disch := omega) only [hid1', hid2', guardK_u, takeG_u, wrap_in64, optK_some', fzK_false', nilK_ptr, brK_true', brK_false', guardK_tt', guardK_ff', guardK_tf', guardK_ft', takeG_tt', takeG_ff', takeG_tf', takeG_ft', pickK_t', pickK_f', pickT_t', pickT_f', notK, extract2_0', extract2_1', extract3_0', extract3_1', extract3_2', here_load, here_fieldAt, here_indexAt, here_extract, here_un, here_conv, here_slice, here_bin, here_nil, and_here, true_and, Nat.zero_add, Nat.add_assoc, Nat.add_zero, Int.toNat_natCast, size_alloc, World.cell?_drew, World.frozen?_drew, Bool.not_true, Bool.not_false, Int.toNat_zero, dec_t, dec_f, int_eq_t, int_eq_f, int_ne_t, int_ne_f, wrap_in, kbsub3, kbeql3, klen9, hlen9, kbgtr3, kblss3, kbadd3, kld9, kbgeq3, klen59, hlen59, kia59, kbquo3, kbmul3, kal85, ksl59_100z, ksl59_100, hlen, ht, ht']
      exact rfl
    rintro _ w' hw
    obtain rfl : w' = w := hw
    simp (maxSteps := 1000000) (disch := omega) only [hid1', hid2', guardK_u, takeG_u, wrap_in64, optK_some', fzK_false', nilK_ptr, brK_true', brK_false', guardK_tt', guardK_ff', guardK_tf', guardK_ft', takeG_tt', takeG_ff', takeG_tf', takeG_ft', pickK_t', pickK_f', pickT_t', pickT_f', notK, extract2_0', extract2_1', extract3_0', extract3_1', extract3_2', here_load, here_fieldAt, here_indexAt, here_extract, here_un, here_conv, here_slice, here_bin, here_nil, and_here, true_and, Nat.zero_add, Nat.add_assoc, Nat.add_zero, Int.toNat_natCast, size_alloc, World.cell?_drew, World.frozen?_drew, Bool.not_true, Bool.not_false, Int.toNat_zero, dec_t, dec_f, int_eq_t, int_eq_f, int_ne_t, int_ne_f, wrap_in, kbsub3, kbeql3, klen9, hlen9, kbgtr3, kblss3, kbadd3, kld9, kbgeq3, klen59, hlen59, kia59, kbquo3, kbmul3, kal85, ksl59_100z, ksl59_100, hlen, ht, ht']
    refine ⟨?_, rfl⟩
    congr 1
    omega
  rintro _ _ w' ⟨rfl, hw⟩
  obtain rfl : w' = w := hw
  have hcl : rest.length + 1 ≤ c := by simpa using hcp
  simp (maxSteps := 1000000) (disch := omega) only [hid1', hid2', guardK_u, takeG_u, wrap_in64, optK_some', fzK_false', nilK_ptr, brK_true', brK_false', guardK_tt', guardK_ff', guardK_tf', guardK_ft', takeG_tt', takeG_ff', takeG_tf', takeG_ft', pickK_t', pickK_f', pickT_t', pickT_f', notK, extract2_0', extract2_1', extract3_0', extract3_1', extract3_2', here_load, here_fieldAt, here_indexAt, here_extract, here_un, here_conv, here_slice, here_bin, here_nil, and_here, true_and, Nat.zero_add, Nat.add_assoc, Nat.add_zero, Int.toNat_natCast, size_alloc, World.cell?_drew, World.frozen?_drew, Bool.not_true, Bool.not_false, Int.toNat_zero, dec_t, dec_f, int_eq_t, int_eq_f, int_ne_t, int_ne_f, wrap_in, kbsub3, kbeql3, klen9, hlen9, kbgtr3, kblss3, kbadd3, kld9, kbgeq3, klen59, hlen59, kia59, kbquo3, kbmul3, kal85, ksl59_100z, ksl59_100, hlen]
  refine loopK2 (fun x v w2 => w2 = w' ∧ ∃ i s : Nat, v = .int .i64 i ∧ x = .int .i64 s ∧ i ≤ rest.length + 1 ∧ s ≤ 200 + i * 1000) (fun _ v _ => rest.length + 1 - (intOf v).toNat) ⟨rfl, 0, rest.length, rfl, rfl, by omega, by omega⟩ ?_
  rintro _ _ _ w2 ⟨hw, i, s, rfl, rfl, hi, hs⟩
  obtain rfl : w2 = w' := hw
  by_cases hlt : i < rest.length + 1
  · have hil : i < (p0 :: rest).length := by simpa using hlt
    have hci := hget' w2 i hil Qt.refl
    have hpl := hp _ (List.getElem_mem hil)
    have hsz : (txt (p0 :: rest)[i]).size = (p0 :: rest)[i].length := txt_size _
    generalize (p0 :: rest)[i] = p at *
    simp (maxSteps := 1000000) (disch := omega) only [hid1', hid2', guardK_u, takeG_u, wrap_in64, optK_some', fzK_false', nilK_ptr, brK_true', brK_false', guardK_tt', guardK_ff', guardK_tf', guardK_ft', takeG_tt', takeG_ff', takeG_tf', takeG_ft', pickK_t', pickK_f', pickT_t', pickT_f', notK, extract2_0', extract2_1', extract3_0', extract3_1', extract3_2', here_load, here_fieldAt, here_indexAt, here_extract, here_un, here_conv, here_slice, here_bin, here_nil, and_here, true_and, Nat.zero_add, Nat.add_assoc, Nat.add_zero, Int.toNat_natCast, size_alloc, World.cell?_drew, World.frozen?_drew, Bool.not_true, Bool.not_false, Int.toNat_zero, dec_t, dec_f, int_eq_t, int_eq_f, int_ne_t, int_ne_f, wrap_in, kbsub3, kbeql3, klen9, hlen9, kbgtr3, kblss3, kbadd3, kld9, kbgeq3, klen59, hlen59, kia59, kbquo3, kbmul3, kal85, ksl59_100z, ksl59_100, hci]
    refine cutK0 (fun w3 => w3 = w2) ?_ ?_
    · simp (maxSteps := 1000000) (disch := omega) only [hid1', hid2', guardK_u, takeG_u, wrap_in64, optK_some', fzK_false', nilK_ptr, brK_true', brK_false', guardK_tt', guardK_ff', guardK_tf', guardK_ft', takeG_tt', takeG_ff', takeG_tf', takeG_ft', pickK_t', pickK_f', pickT_t', pickT_f', notK, extract2_0', extract2_1', extract3_0', extract3_1', extract3_2', here_load, here_fieldAt, here_indexAt, here_extract, here_un, here_conv, here_slice, here_bin, here_nil, and_here, true_and, Nat.zero_add, Nat.add_assoc, Nat.add_zero, Int.toNat_natCast, size_alloc, World.cell?_drew, World.frozen?_drew, Bool.not_true, Bool.not_false, Int.toNat_zero, dec_t, dec_f, int_eq_t, int_eq_f, int_ne_t, int_ne_f, wrap_in, kbsub3, kbeql3, klen9, hlen9, kbgtr3, kblss3, kbadd3, kld9, kbgeq3, klen59, hlen59, kia59, kbquo3, kbmul3, kal85, ksl59_100z, ksl59_100, hsz]
      exact rfl
    rintro _ w3 hw
    obtain rfl : w3 = w2 := hw
    simp (maxSteps := 1000000) (disch := omega) only [hid1', hid2', guardK_u, takeG_u, wrap_in64, optK_some', fzK_false', nilK_ptr, brK_true', brK_false', guardK_tt', guardK_ff', guardK_tf', guardK_ft', takeG_tt', takeG_ff', takeG_tf', takeG_ft', pickK_t', pickK_f', pickT_t', pickT_f', notK, extract2_0', extract2_1', extract3_0', extract3_1', extract3_2', here_load, here_fieldAt, here_indexAt, here_extract, here_un, here_conv, here_slice, here_bin, here_nil, and_here, true_and, Nat.zero_add, Nat.add_assoc, Nat.add_zero, Int.toNat_natCast, size_alloc, World.cell?_drew, World.frozen?_drew, Bool.not_true, Bool.not_false, Int.toNat_zero, dec_t, dec_f, int_eq_t, int_eq_f, int_ne_t, int_ne_f, wrap_in, kbsub3, kbeql3, klen9, hlen9, kbgtr3, kblss3, kbadd3, kld9, kbgeq3, klen59, hlen59, kia59, kbquo3, kbmul3, kal85, ksl59_100z, ksl59_100, hsz]
    exact ⟨⟨rfl, i + 1, s + p.length, by go_num, by go_num, by omega, by omega⟩, by simp [rel, intOf]; omega⟩
  · simp (maxSteps := 1000000) (disch := omega) only [hid1', hid2', guardK_u, takeG_u, wrap_in64, optK_some', fzK_false', nilK_ptr, brK_true', brK_false', guardK_tt', guardK_ff', guardK_tf', guardK_ft', takeG_tt', takeG_ff', takeG_tf', takeG_ft', pickK_t', pickK_f', pickT_t', pickT_f', notK, extract2_0', extract2_1', extract3_0', extract3_1', extract3_2', here_load, here_fieldAt, here_indexAt, here_extract, here_un, here_conv, here_slice, here_bin, here_nil, and_here, true_and, Nat.zero_add, Nat.add_assoc, Nat.add_zero, Int.toNat_natCast, size_alloc, World.cell?_drew, World.frozen?_drew, Bool.not_true, Bool.not_false, Int.toNat_zero, dec_t, dec_f, int_eq_t, int_eq_f, int_ne_t, int_ne_f, wrap_in, kbsub3, kbeql3, klen9, hlen9, kbgtr3, kblss3, kbadd3, kld9, kbgeq3, klen59, hlen59, kia59, kbquo3, kbmul3, kal85, ksl59_100z, ksl59_100]
    have hbn : (w2.alloc (.cells #[.pointer none, .slice none 0 0] 85)).heap[w2.heap.size]? = some (.cells #[.pointer none, .slice none 0 0] 85 (0, 0)) := blk_new _ _
    have hs1 : (w2.alloc (.cells #[.pointer none, .slice none 0 0] 85)).heap.size = w2.heap.size + 1 := size_alloc _ _
    have q1 : Qt w2 (w2.alloc (.cells #[.pointer none, .slice none 0 0] 85)) := Chg.alloc Qt.refl _
    generalize (w2.alloc (.cells #[.pointer none, .slice none 0 0] 85)) = w3 at *
    refine callV_of Tryd.func62 (by kernel_rfl) (by kernel_rfl) (Tryd.Builder_Grow_fresh w2.heap.size w2.heap.size s w3 (Nat.le_refl _) hbn (by omega) (by omega)) ?_
    rintro w4 ⟨hb4, hl4⟩
    have qof : ∀ w', Below w2.heap.size w3 w' → Qt w2 w' := fun w' h => Qt.then q1 (Chg.of_below h) (fun k hk => hk)
    have c4 := hget' w4 0 (by simp) (qof w4 hl4)
    have c4' : w4.cell? ⟨g, o, none⟩ = some (.string (txt p0)) := c4
    simp (maxSteps := 1000000) (disch := omega) only [hid1', hid2', guardK_u, takeG_u, wrap_in64, optK_some', fzK_false', nilK_ptr, brK_true', brK_false', guardK_tt', guardK_ff', guardK_tf', guardK_ft', takeG_tt', takeG_ff', takeG_tf', takeG_ft', pickK_t', pickK_f', pickT_t', pickT_f', notK, extract2_0', extract2_1', extract3_0', extract3_1', extract3_2', here_load, here_fieldAt, here_indexAt, here_extract, here_un, here_conv, here_slice, here_bin, here_nil, and_here, true_and, Nat.zero_add, Nat.add_assoc, Nat.add_zero, Int.toNat_natCast, size_alloc, World.cell?_drew, World.frozen?_drew, Bool.not_true, Bool.not_false, Int.toNat_zero, dec_t, dec_f, int_eq_t, int_eq_f, int_ne_t, int_ne_f, wrap_in, kbsub3, kbeql3, klen9, hlen9, kbgtr3, kblss3, kbadd3, kld9, kbgeq3, klen59, hlen59, kia59, kbquo3, kbmul3, kal85, ksl59_100z, ksl59_100, c4']
    have s4 := hl4.size
    refine ck63 (write_any (bs := []) (.inr hb4) (by have := hp p0 (by simp); simp; omega) (by omega) ?_)
    intro _ w5 b5 l5 s5
    have hc1 : ¬ c = 1 := by omega
    have hT : Int.toNat 1 = 1 := rfl
    simp (maxSteps := 1000000) (disch := omega) only [hid1', hid2', guardK_u, takeG_u, wrap_in64, optK_some', fzK_false', nilK_ptr, brK_true', brK_false', guardK_tt', guardK_ff', guardK_tf', guardK_ft', takeG_tt', takeG_ff', takeG_tf', takeG_ft', pickK_t', pickK_f', pickT_t', pickT_f', notK, extract2_0', extract2_1', extract3_0', extract3_1', extract3_2', here_load, here_fieldAt, here_indexAt, here_extract, here_un, here_conv, here_slice, here_bin, here_nil, and_here, true_and, Nat.zero_add, Nat.add_assoc, Nat.add_zero, Int.toNat_natCast, size_alloc, World.cell?_drew, World.frozen?_drew, Bool.not_true, Bool.not_false, Int.toNat_zero, dec_t, dec_f, int_eq_t, int_eq_f, int_ne_t, int_ne_f, wrap_in, kbsub3, kbeql3, klen9, hlen9, kbgtr3, kblss3, kbadd3, kld9, kbgeq3, klen59, hlen59, kia59, kbquo3, kbmul3, kal85, ksl59_100z, ksl59_100, hT, eq_false hc1, if_false]
    rw [List.nil_append] at b5
    have l35 := hl4.trans l5
    have hsub : (p0 :: rest).length - 1 = rest.length := by simp
    rw [hsub]
    refine loopK1 (fun v w' => ∃ i : Nat, v = .int .i64 i ∧ i ≤ rest.length ∧ Lib.IsBuilder 85 5 w2.heap.size w2.heap.size ((p0 ++ (rest.take i).flatMap (fun q => 32 :: q)).map vb) w' ∧ Below w2.heap.size w3 w' ∧ w2.heap.size ≤ w'.heap.size) (fun v _ => rest.length - (intOf v).toNat) ⟨0, rfl, by omega, by simpa using b5, l35, s5⟩ ?_
    rintro _ _ w6 ⟨i, rfl, hi6, b6, l6, s6⟩
    have hjl := joinB_len (p0 :: rest.take i) (fun p h => hp p (by
      rcases List.mem_cons.1 h with h | h
      · rw [h]; simp
      · exact List.mem_cons_of_mem _ (List.mem_of_mem_take h)))
    have hjl2 : (p0 ++ (rest.take i).flatMap (fun q => 32 :: q)).length ≤ 201201 := by
      have e : joinB (p0 :: rest.take i) = p0 ++ (rest.take i).flatMap (fun q => 32 :: q) := rfl
      rw [e] at hjl
      simp only [List.length_cons, List.length_take] at hjl
      omega
    by_cases hlt6 : i < rest.length
    · have hil : i + 1 < (p0 :: rest).length := by simpa using hlt6
      have hci := hget' w6 (i + 1) hil (qof w6 l6)
      have hgi : (p0 :: rest)[i + 1] = rest[i] := rfl
      rw [hgi] at hci
      have hpl := hp rest[i] (List.mem_cons_of_mem _ (List.getElem_mem hlt6))
      have htk : rest.take (i + 1) = rest.take i ++ [rest[i]] := List.take_succ_eq_append_getElem hlt6
      generalize rest[i] = p at *
      have hadd : o + (1 + i) = o + (i + 1) := by omega
      simp (maxSteps := 1000000) (disch := omega) only [hid1', hid2', guardK_u, takeG_u, wrap_in64, optK_some', fzK_false', nilK_ptr, brK_true', brK_false', guardK_tt', guardK_ff', guardK_tf', guardK_ft', takeG_tt', takeG_ff', takeG_tf', takeG_ft', pickK_t', pickK_f', pickT_t', pickT_f', notK, extract2_0', extract2_1', extract3_0', extract3_1', extract3_2', here_load, here_fieldAt, here_indexAt, here_extract, here_un, here_conv, here_slice, here_bin, here_nil, and_here, true_and, Nat.zero_add, Nat.add_assoc, Nat.add_zero, Int.toNat_natCast, size_alloc, World.cell?_drew, World.frozen?_drew, Bool.not_true, Bool.not_false, Int.toNat_zero, dec_t, dec_f, int_eq_t, int_eq_f, int_ne_t, int_ne_f, wrap_in, kbsub3, kbeql3, klen9, hlen9, kbgtr3, kblss3, kbadd3, kld9, kbgeq3, klen59, hlen59, kia59, kbquo3, kbmul3, kal85, ksl59_100z, ksl59_100, hadd, hci]
      refine ck63 (write_any b6 (by rw [List.length_singleton]; omega) s6 ?_)
      intro _ w7 b7 l7 s7
      simp (maxSteps := 1000000) (disch := omega) only [hid1', hid2', guardK_u, takeG_u, wrap_in64, optK_some', fzK_false', nilK_ptr, brK_true', brK_false', guardK_tt', guardK_ff', guardK_tf', guardK_ft', takeG_tt', takeG_ff', takeG_tf', takeG_ft', pickK_t', pickK_f', pickT_t', pickT_f', notK, extract2_0', extract2_1', extract3_0', extract3_1', extract3_2', here_load, here_fieldAt, here_indexAt, here_extract, here_un, here_conv, here_slice, here_bin, here_nil, and_here, true_and, Nat.zero_add, Nat.add_assoc, Nat.add_zero, Int.toNat_natCast, size_alloc, World.cell?_drew, World.frozen?_drew, Bool.not_true, Bool.not_false, Int.toNat_zero, dec_t, dec_f, int_eq_t, int_eq_f, int_ne_t, int_ne_f, wrap_in, kbsub3, kbeql3, klen9, hlen9, kbgtr3, kblss3, kbadd3, kld9, kbgeq3, klen59, hlen59, kia59, kbquo3, kbmul3, kal85, ksl59_100z, ksl59_100]
      refine ck63 (write_any b7 (by rw [List.length_append, List.length_singleton]; omega) s7 ?_)
      intro _ w8 b8 l8 s8
      simp (maxSteps := 1000000) (disch := omega) only [hid1', hid2', guardK_u, takeG_u, wrap_in64, optK_some', fzK_false', nilK_ptr, brK_true', brK_false', guardK_tt', guardK_ff', guardK_tf', guardK_ft', takeG_tt', takeG_ff', takeG_tf', takeG_ft', pickK_t', pickK_f', pickT_t', pickT_f', notK, extract2_0', extract2_1', extract3_0', extract3_1', extract3_2', here_load, here_fieldAt, here_indexAt, here_extract, here_un, here_conv, here_slice, here_bin, here_nil, and_here, true_and, Nat.zero_add, Nat.add_assoc, Nat.add_zero, Int.toNat_natCast, size_alloc, World.cell?_drew, World.frozen?_drew, Bool.not_true, Bool.not_false, Int.toNat_zero, dec_t, dec_f, int_eq_t, int_eq_f, int_ne_t, int_ne_f, wrap_in, kbsub3, kbeql3, klen9, hlen9, kbgtr3, kblss3, kbadd3, kld9, kbgeq3, klen59, hlen59, kia59, kbquo3, kbmul3, kal85, ksl59_100z, ksl59_100]
      refine ⟨⟨i + 1, by go_num, by omega, ?_, (l6.trans l7).trans l8, s8⟩, by simp [rel, intOf]; omega⟩
      have e : p0 ++ (rest.take i).flatMap (fun q => 32 :: q) ++ [32] ++ p = p0 ++ (rest.take (i + 1)).flatMap (fun q => 32 :: q) := by
        rw [htk, List.flatMap_append]; simp
      rw [← e]
      exact b8
    · obtain rfl : i = rest.length := by omega
      rw [List.take_length] at b6
      simp (maxSteps := 1000000) (disch := omega) only [hid1', hid2', guardK_u, takeG_u, wrap_in64, optK_some', fzK_false', nilK_ptr, brK_true', brK_false', guardK_tt', guardK_ff', guardK_tf', guardK_ft', takeG_tt', takeG_ff', takeG_tf', takeG_ft', pickK_t', pickK_f', pickT_t', pickT_f', notK, extract2_0', extract2_1', extract3_0', extract3_1', extract3_2', here_load, here_fieldAt, here_indexAt, here_extract, here_un, here_conv, here_slice, here_bin, here_nil, and_here, true_and, Nat.zero_add, Nat.add_assoc, Nat.add_zero, Int.toNat_natCast, size_alloc, World.cell?_drew, World.frozen?_drew, Bool.not_true, Bool.not_false, Int.toNat_zero, dec_t, dec_f, int_eq_t, int_eq_f, int_ne_t, int_ne_f, wrap_in, kbsub3, kbeql3, klen9, hlen9, kbgtr3, kblss3, kbadd3, kld9, kbgeq3, klen59, hlen59, kia59, kbquo3, kbmul3, kal85, ksl59_100z, ksl59_100]
      refine callV_of Tryd.func64 (by kernel_rfl) (by kernel_rfl) (Tryd.Builder_String_any w2.heap.size w2.heap.size (p0 ++ rest.flatMap (fun q => 32 :: q)) w6 b6 s6) ?_
      intro w7 l7
      simp (maxSteps := 1000000) (disch := omega) only [hid1', hid2', guardK_u, takeG_u, wrap_in64, optK_some', fzK_false', nilK_ptr, brK_true', brK_false', guardK_tt', guardK_ff', guardK_tf', guardK_ft', takeG_tt', takeG_ff', takeG_tf', takeG_ft', pickK_t', pickK_f', pickT_t', pickT_f', notK, extract2_0', extract2_1', extract3_0', extract3_1', extract3_2', here_load, here_fieldAt, here_indexAt, here_extract, here_un, here_conv, here_slice, here_bin, here_nil, and_here, true_and, Nat.zero_add, Nat.add_assoc, Nat.add_zero, Int.toNat_natCast, size_alloc, World.cell?_drew, World.frozen?_drew, Bool.not_true, Bool.not_false, Int.toNat_zero, dec_t, dec_f, int_eq_t, int_eq_f, int_ne_t, int_ne_f, wrap_in, kbsub3, kbeql3, klen9, hlen9, kbgtr3, kblss3, kbadd3, kld9, kbgeq3, klen59, hlen59, kia59, kbquo3, kbmul3, kal85, ksl59_100z, ksl59_100]
      exact hK w7 (qof w7 (l6.trans l7))
end Go.Proofs.YtdnlenngbaaeaaaDoor
