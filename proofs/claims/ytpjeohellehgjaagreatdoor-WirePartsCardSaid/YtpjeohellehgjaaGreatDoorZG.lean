import Derived.Lib.SlBytesConst
import Derived.Test.YtpjeohellehgjaaGreatDoorL1
import Derived.Test.YtpjeohellehgjaaGreatDoorTie
import Derived.Test.YtpjeohellehgjaaGreatDoorCards
import Derived.ProofKit
import Derived.OpenShut
import Derived.LaidMore
import Derived.Lay
import Derived.SevenTiedAt
import Derived.Stop.Joined
import Derived.Shelf.Vars
import Derived.Deep.DeepHandedRow
import Derived.Test.YtpjeohellehgjaaGreatDoorZF
section
/- The law's same of two rows of rows. Condition: rows that lie there. -/
set_option linter.unusedVariables false
set_option linter.unusedSimpArgs false
set_option maxRecDepth 100000
namespace Go.Proofs.YtpjeohellehgjaaGreatDoor
open Go.RowKit Go.Cn Go.Cn.Num
theorem tk_not {P : Program} (b : Bool) {K : Value → Prop} {T : Nat → Prop} {w1 : World} : TakeS P (Chs T w1) (Op.unary .not (.bool b)) (@Cn.hid _ ⟨K⟩) = K (.bool !b) := tk_S (fun w' _ => (Eq.mpr (notK (P := P) b (fun v' w'' => v' = .bool (!b) ∧ w'' = w') w') ⟨rfl, rfl⟩))
def sameRs : List RowD → List RowD → Bool
  | [], [] => true
  | a :: r, b :: s => sameR a b && sameRs r s
  | _, _ => false
theorem sameRs_at {a b : List RowD} {i : Nat} (ha : i < a.length) (hb : i < b.length) : sameRs (a.drop i) (b.drop i) = (sameR (a.getD i default) (b.getD i default) && sameRs (a.drop (i + 1)) (b.drop (i + 1))) := by
  rw [List.drop_eq_getElem_cons ha, List.drop_eq_getElem_cons hb, sameRs]
  have e : a.getD i default = a[i] := by simp [ha]
  have e2 : b.getD i default = b[i] := by simp [hb]
  rw [e, e2]
theorem sameRs_len : ∀ {a b : List RowD}, a.length ≠ b.length → sameRs a b = false
  | [], [], h => absurd rfl h
  | [], _ :: _, _ => rfl
  | _ :: _, [], _ => rfl
  | a :: r, b :: s, h => by
    rw [sameRs, sameRs_len (a := r) (b := s) (fun e => h (by simp [e]))]; simp
/-- A row that same takes. -/
def OkS (r : RowH) : Prop := (∀ h ∈ r.2.2.2.2, AttSz h) ∧ r.2.2.2.2.length ≤ 100000
theorem OkS.good {w : World} {r : RowH} (h : OkS r) (ha : AttsAt w r.2.2.1 r.2.2.2.2) : RowGood w r.1 r.2.1 r.2.2.1 r.2.2.2.2 := ⟨ha, h.1, by have := h.2; omega⟩
theorem attSz_map {hs : List AttH} (h : ∀ x ∈ hs, AttSz x) : ∀ a ∈ hs.map attP, a.1.size ≤ 9223372036854775807 ∧ a.2.2.2.1.size ≤ 9223372036854775807 ∧ a.2.2.2.2.length ≤ 9223372036854775807 := by
  intro a ha
  obtain ⟨x, hx, rfl⟩ := List.mem_map.1 ha
  exact h x hx
set_option maxHeartbeats 4000000 in
theorem same7_any {ra rb : List RowH} {A B : Option Addr} {c d : Nat} {w : World} {K : Value → World → Prop} (ha : RowsAt w A ra) (hb : RowsAt w B rb) (oa : ∀ r ∈ ra, OkS r) (ob : ∀ r ∈ rb, OkS r) (la : ra.length ≤ 9223372036854775807) (lb : rb.length ≤ 9223372036854775807)
    (hK : ∀ w', Qt w w' → K (.bool (sameRs (ra.map rowP) (rb.map rowP))) w') : CallK Tryz.prog 20 #[.slice A ra.length c, .slice B rb.length d] K w := by
  refine F20_calls _ _ _ _ ?_; unfold F20
  by_cases hl : ra.length = rb.length
  case neg =>
    have e : ((ra.length : Int) != (rb.length : Int)) = true := by rw [bne_iff_ne]; omega
    rw [sameRs_len (by simpa using hl)] at hK
    simp (maxSteps := 1000000) (disch := omega) only [genAll, decAll, tk_nil, st20, e]
    exact hK w Qt.refl
  have e : ((ra.length : Int) != (rb.length : Int)) = false := by rw [hl]; exact bne_self_eq_false _
  simp (maxSteps := 1000000) (disch := omega) only [genAll, decAll, tk_nil, st20, e]
  refine loopK1 (fun v w' => ∃ i : Nat, v = .int .i64 i ∧ i ≤ ra.length ∧ sameRs (ra.map rowP) (rb.map rowP) = sameRs ((ra.map rowP).drop i) ((rb.map rowP).drop i) ∧ Qt w w') (fun v _ => ra.length - (intOf v).toNat) ⟨0, rfl, by omega, rfl, Qt.refl⟩ ?_
  rintro _ _ w1 ⟨i, rfl, hi, hlo, q1⟩
  by_cases hlt : i < ra.length
  · have hlt2 : i < rb.length := by omega
    rw [sameRs_at (by rw [List.length_map]; exact hlt) (by rw [List.length_map]; exact hlt2), rowP_getD, rowP_getD] at hlo
    have Za := fun w' (q : Qt w w') => row_at (ha.1.quiet q) hlt
    have Zb := fun w' (q : Qt w w') => row_at (hb.1.quiet q) hlt2
    obtain ⟨g, o, hA, _⟩ := Za w1 q1
    obtain ⟨g2, o2, hB, _⟩ := Zb w1 q1
    subst hA hB
    have hta := ha.get hlt
    have htb := hb.get hlt2
    have hoa := oa _ (getD_mem hlt)
    have hob := ob _ (getD_mem hlt2)
    generalize ra.getD i default = x at *
    generalize rb.getD i default = y at *
    obtain ⟨k1, s1, A1, c1, h1⟩ := x
    obtain ⟨k2, s2, A2, c2, h2⟩ := y
    have Xa : ∀ w', Quiets w w' → w'.cell? ⟨g, o + i * 6, none⟩ = some (.string k1) ∧ w'.cell? ⟨g, o + i * 6 + 1, none⟩ = some (.int .i64 s1.1) ∧ w'.cell? ⟨g, o + i * 6 + 2, none⟩ = some (.int .i64 s1.2.1) ∧ w'.cell? ⟨g, o + i * 6 + 3, none⟩ = some (.int .i64 s1.2.2.1) ∧ w'.cell? ⟨g, o + i * 6 + 4, none⟩ = some (.string s1.2.2.2) ∧ w'.cell? ⟨g, o + i * 6 + 5, none⟩ = some (.slice A1 h1.length c1) := fun w' q => by
      obtain ⟨g', o', hA', z⟩ := Za w' q
      cases hA'
      exact z
    have Xb : ∀ w', Quiets w w' → w'.cell? ⟨g2, o2 + i * 6, none⟩ = some (.string k2) ∧ w'.cell? ⟨g2, o2 + i * 6 + 1, none⟩ = some (.int .i64 s2.1) ∧ w'.cell? ⟨g2, o2 + i * 6 + 2, none⟩ = some (.int .i64 s2.2.1) ∧ w'.cell? ⟨g2, o2 + i * 6 + 3, none⟩ = some (.int .i64 s2.2.2.1) ∧ w'.cell? ⟨g2, o2 + i * 6 + 4, none⟩ = some (.string s2.2.2.2) ∧ w'.cell? ⟨g2, o2 + i * 6 + 5, none⟩ = some (.slice A2 h2.length c2) := fun w' q => by
      obtain ⟨g', o', hA', z⟩ := Zb w' q
      cases hA'
      exact z
    simp (maxSteps := 1000000) (disch := omega) only [genAll, decAll, tk_nil, st20]
    have q1d : Qt w w1.drew := q1.trans (Qt.drew Qt.refl)
    refine drawQ w q1d ?_
    generalize w1.drew = wd at *
    simp (maxSteps := 1000000) (disch := omega) only [genAll, decAll, tk_nil, st20, qkld26 Xa, qkld38 Xb]
    refine ⟨?_, trivial⟩
    refine ck12 (ofR_any (hta.quiet q1d) hoa.2 ?_)
    intro A3 c3 w3 a3 q3 f3
    have q13 := q1d.trans q3
    simp (maxSteps := 1000000) (disch := omega) only [genAll, decAll, tk_nil, st20]
    refine ⟨q13, ?_, trivial⟩
    have ga : RowGood w3 k1 s1 A3 h1 := ⟨a3, hoa.1, by have := hoa.2; simp only at this; omega⟩
    have gb : RowGood w3 k2 s2 A2 h2 := (hob.good htb).quiet q13
    refine ck14 (sameR_any ga gb ?_)
    intro w4 q4
    have q14 := q13.trans q4
    have e : rowP (k1, s1, A1, c1, h1) = (k1, s1, h1.map attP) := rfl
    have e2 : rowP (k2, s2, A2, c2, h2) = (k2, s2, h2.map attP) := rfl
    rw [e, e2] at hlo
    generalize sameR (k1, s1, h1.map attP) (k2, s2, h2.map attP) = z at *
    simp (maxSteps := 1000000) (disch := omega) only [genAll, decAll, tk_nil, st20]
    refine ⟨q14, ?_⟩
    cases z
    · rw [Bool.false_and] at hlo
      rw [hlo] at hK
      simp (maxSteps := 1000000) (disch := omega) only [genAll, decAll, tk_nil, st20, tk_not]
      exact hK _ q14
    · rw [Bool.true_and] at hlo
      simp (maxSteps := 1000000) (disch := omega) only [genAll, decAll, tk_nil, st20, tk_not]
      exact ⟨⟨i + 1, by go_num, by omega, hlo, q14⟩, by simp [rel, intOf]; omega⟩
  · obtain rfl : i = ra.length := by omega
    have e0 : (ra.map rowP).drop ra.length = [] := List.drop_eq_nil_of_le (by rw [List.length_map]; omega)
    have e1 : (rb.map rowP).drop ra.length = [] := List.drop_eq_nil_of_le (by rw [List.length_map]; omega)
    rw [e0, e1] at hlo
    rw [hlo] at hK
    simp (maxSteps := 1000000) (disch := omega) only [genAll, decAll, tk_nil, st20]
    exact hK _ q1
end Go.Proofs.YtpjeohellehgjaaGreatDoor
end

section
/- There and back: what a row's, rows' bytes say. No program in sight. -/
set_option linter.unusedVariables false
set_option linter.unusedSimpArgs false
set_option maxRecDepth 100000
namespace Go.Proofs.YtpjeohellehgjaaGreatDoor
open Go.RowKit Go.Cn Go.Cn.Num
theorem openL_sealed (l : List UInt8) : openL (sealed l) = (0, l) := by
  have h : (sealed l).take ((sealed l).length - 4) = l := by rw [seal_len]; simp [sealed]
  rw [openL_ok (by rw [seal_len]; omega) (by rw [h]), h]
theorem checkV_ints {v : Val} (h : checkV v = 0) (h3 : v.1 = 3) : v.2.2.2.length ≤ 16 := by
  unfold checkV at h
  rw [if_neg (by omega), if_neg (by omega), if_pos h3] at h
  unfold listE at h
  split at h
  · cases h
  · omega
theorem row_put {r : RowD} (hc : checkR r = 0) (hok : RowOk r) (t : List UInt8) : rowD 0 (rowB r ++ t) = (normR r, 0, t) := by
  obtain ⟨p1, p2, p3, p4⟩ := checkR_parts hc
  exact rowD_put r hok p3 (fun a ha h3 => checkV_ints (p4 a ha).2 h3) t
theorem wire_back {r : RowD} (hok : RowOk r) (h : (encL r).2 = 0) : decodeL (encL r).1 = (normR r, 0) := by
  unfold encL at h ⊢
  by_cases hc : checkR r = 0
  · rw [if_neg (fun e => e hc)]
    unfold decodeL
    have e := row_put hc hok []
    rw [List.append_nil] at e
    simp only [openL_sealed, e]
    rw [if_neg (by simp), if_neg (by simp), if_neg (by simp), normR_check, if_neg (fun e => e hc)]
  · rw [if_pos hc] at h
    exact absurd h hc
theorem enc_zero {r : RowD} (h : checkR r = 0) : encL r = (sealed (rowB r), 0) := by unfold encL; rw [if_neg (fun e => e h)]
theorem enc_err (r : RowD) : (encL r).2 = checkR r := by
  unfold encL
  by_cases hc : checkR r = 0
  · rw [if_neg (fun e => e hc), hc]
  · rw [if_pos hc]
theorem badR_norm : ∀ l : List RowD, badR (l.map normR) = badR l
  | [] => rfl
  | r :: l => by rw [List.map_cons, badR, badR, normR_check, badR_norm l]
theorem rightR_norm (l : List RowD) : rightR (l.map normR) = rightR l := by unfold rightR; rw [List.length_map, badR_norm]
theorem rightR_parts {l : List RowD} (h : rightR l = 0) : l.length ≤ 64 ∧ ∀ r ∈ l, checkR r = 0 := by
  unfold rightR at h
  split at h
  · cases h
  · exact ⟨by omega, badR_zero l h⟩
theorem wire_rows {l : List RowD} (hok : ∀ r ∈ l, RowOk r) (h : (allL l).2 = 0) : rowsL (allL l).1 = (l.map normR, 0) := by
  unfold allL at h ⊢
  by_cases hc : rightR l = 0
  · rw [if_neg (fun e => e hc)]
    obtain ⟨h64, hz⟩ := rightR_parts hc
    unfold rowsL
    have e := rowsD_put l h64 (fun x hx => ⟨hok x hx, (checkR_parts (hz x hx)).2.2.1, fun a ha h3 => checkV_ints ((checkR_parts (hz x hx)).2.2.2 a ha).2 h3⟩) []
    rw [List.append_nil] at e
    simp only [openL_sealed, e]
    rw [if_neg (by simp), if_neg (by simp), if_neg (by simp), rightR_norm, if_neg (fun e => e hc)]
  · rw [if_pos hc] at h
    exact absurd h hc
theorem sameRs_norm : ∀ l : List RowD, sameRs (l.map normR) l = true
  | [] => rfl
  | r :: l => by rw [List.map_cons, sameRs, normR_same, sameRs_norm l]; rfl
theorem sameRs_self : ∀ l : List RowD, sameRs l l = true
  | [] => rfl
  | r :: l => by rw [sameRs, sameR_self, sameRs_self l]; rfl
theorem all_err (l : List RowD) : (allL l).2 = rightR l := by
  unfold allL
  by_cases hc : rightR l = 0
  · rw [if_neg (fun e => e hc), hc]
  · rw [if_pos hc]
end Go.Proofs.YtpjeohellehgjaaGreatDoor
end

section
/- What the laws of this chapter ask first. -/
set_option linter.unusedVariables false
set_option linter.unusedSimpArgs false
set_option maxRecDepth 100000
namespace Go.Proofs.YtpjeohellehgjaaGreatDoor
open Go.RowKit Go.Cn Go.Cn.Num
theorem convK_const {P : Program} {t e : TypeId} (ht : P.underlying t = some (.slice e)) (he : P.underlying e = some (.int .u8)) {w : World} {C : Array Value} {n c : Nat} {K : Value → World → Prop} (h : K (.slice (some ⟨w.heap.size, 0, none⟩) n c) (w.alloc (.cells C e (C.size, C.size + 1)))) : ConvK P t t (.slice (some ⟨w.heap.size, 0, none⟩) n c) K (w.alloc (.cells C e)) := by
  unfold ConvK
  rw [Go.Lib.run_convert_bytes_const w t e C n c ht he]; exact h
theorem reads_newF (w : World) (xs : List Value) (e : TypeId) (fr : Nat × Nat) : Reads (w.alloc (.cells xs.toArray e fr)) (some ⟨w.heap.size, 0, none⟩) xs := by
  refine .inr ⟨_, _, rfl, fun j hj => ?_⟩
  rw [blk_cell (blk_new _ _)]
  simp
theorem reads_blk {w : World} {b : Nat} {xs : List Value} {e : TypeId} (h : w.heap[b]? = some (.cells xs.toArray e (0, 0))) : Reads w (some ⟨b, 0, none⟩) xs := by
  refine .inr ⟨_, _, rfl, fun j hj => ?_⟩
  rw [blk_cell h]
  simp
def kN : ByteArray := ⟨#[97]⟩
def kK : ByteArray := ⟨#[107]⟩
def kZ : ByteArray := ⟨#[47, 122]⟩
def kS : Stm := (1, 0, 0, kZ)
def kV : Val := (3, 0, ByteArray.empty, [1, 2])
def kR : RowD := (kK, kS, [(kN, kV)])
theorem kR_check : checkR kR = 0 := by kernel_rfl
theorem kR_right : rightR [kR, kR] = 0 := by kernel_rfl
theorem kX : (decodeL [120, 120, 120, 120, 120]).2 = 10 := by
  unfold decodeL
  have h : (openL [120, 120, 120, 120, 120]).1 = 10 := by kernel_rfl
  rw [if_pos (by rw [h]; decide), h]
theorem in64_lit (z : Int) (h : (decide (-9223372036854775808 ≤ z) && decide (z ≤ 9223372036854775807)) = true) : in64 z := by
  simpa [in64] using h
def kH (b : Nat) : List AttH := [(kN, kV, some ⟨b, 0, none⟩, 2)]
theorem kR_ok : RowOk kR := by
  refine ⟨by decide, ⟨in64_lit _ rfl, in64_lit _ rfl, in64_lit _ rfl, by decide⟩, fun a ha => ?_⟩
  have : a = (kN, kV) := by simpa [kR] using ha
  subst this
  refine ⟨by decide, in64_lit _ rfl, in64_lit _ rfl, fun x hx => ?_, by decide⟩
  have : x = 1 ∨ x = 2 := by simpa [kV] using hx
  rcases this with rfl | rfl <;> exact in64_lit _ rfl
theorem kH_map (b : Nat) : (kH b).map attP = [(kN, kV)] := rfl
theorem kSmall (b : Nat) : SmallR kK kS (kH b) := by
  refine ⟨by decide, by decide, Nat.le_of_ble_eq_true rfl, fun h hh => ?_, kR_ok⟩
  have : h = (kN, kV, some ⟨b, 0, none⟩, 2) := by simpa [kH] using hh
  subst this
  exact ⟨by show kN.size ≤ 100; decide, by show kV.2.2.1.size ≤ 200; decide, by show kV.2.2.2.length ≤ 40; decide⟩
def k2 (b : Nat) : List RowH := [(kK, kS, some ⟨b + 1, 0, none⟩, 1, kH b), (kK, kS, some ⟨b + 1, 0, none⟩, 1, kH b)]
set_option maxHeartbeats 400000 in
theorem known_any {w : World} {K : Value → World → Prop} (hm : MaxAt w) (hK : ∀ w', Qt w w' → K (.bool true) w') : CallK Tryz.prog 8 #[] K w := by
  refine F8_calls _ _ ?_; unfold F8
  simp (maxSteps := 1000000) (disch := omega) only [genAll, decAll, tk_nil, st8]
  obtain ⟨q1, b1, e1⟩ := newb w #[.int .i64 1, .int .i64 2] 2
  generalize (w.alloc (.cells #[.int .i64 1, .int .i64 2] 2)) = w1 at *
  generalize hb : w.heap.size = b at *
  obtain ⟨q2, b2, e2⟩ := newb w1 #[.string { data := #[97] }, .int .i64 3, .int .i64 0, .string ByteArray.empty, .slice (some ⟨b, 0, none⟩) 2 2] 64
  generalize (w1.alloc (.cells #[.string { data := #[97] }, .int .i64 3, .int .i64 0, .string ByteArray.empty, .slice (some ⟨b, 0, none⟩) 2 2] 64)) = w2 at *
  rw [e1] at b2 e2
  obtain ⟨q3, b3, e3⟩ := newb w2 #[.string ByteArray.empty, .int .i64 0, .int .i64 0, .int .i64 0, .string ByteArray.empty, .slice none 0 0] 26
  generalize (w2.alloc (.cells #[.string ByteArray.empty, .int .i64 0, .int .i64 0, .int .i64 0, .string ByteArray.empty, .slice none 0 0] 26)) = w3 at *
  rw [e2] at b3 e3
  have a3 : AttsAt w3 (some ⟨b + 1, 0, none⟩) (kH b) := ⟨reads_blk (q3.heap b2 (fun h => h)), fun x hx => by
    have : x = (kN, kV, some ⟨b, 0, none⟩, 2) := by simpa [kH] using hx
    subst this
    exact reads_blk (q3.heap (q2.heap b1 (fun h => h)) (fun h => h))⟩
  refine aggStore6 (x := .string kK) (y := .int .i64 kS.1) (z := .int .i64 kS.2.1) (u := .int .i64 kS.2.2.1) (p := .string kS.2.2.2) (q := .slice (some ⟨b + 1, 0, none⟩) 1 1) b3 rfl (by kernel_rfl) (row_one (key := kK) (s := kS) (A := some ⟨b + 1, 0, none⟩) (n := 1) (c := 1)) (fun w4 b4 k4 => ?_)
  have q04 : Qt w w4 := Qt.then ((q1.trans q2).trans q3) k4 (fun k hk => by omega)
  have a4 := a3.sep k4 ⟨fun _ ad e h => (by cases e; simp at h), fun x hx _ ad e h => by
    have : x = (kN, kV, some ⟨b, 0, none⟩, 2) := by simpa [kH] using hx
    subst this
    cases e; simp at h⟩
  clear q1 q2 q3 b1 b2 b3 a3 k4
  have s4 := blk_lt b4
  have X := fun w' (q : Qt w4 w') => cell6 (q.heap b4 (fun h => h))
  obtain ⟨x0, x1, x2, x3, x4, x5⟩ := X w4 Qt.refl
  simp (maxSteps := 1000000) (disch := omega) only [genAll, decAll, tk_nil, st8, x0, x1, x2, x3, x4, x5]
  refine ck10 (encode_any (hs := kH b) a4 (kSmall b) (hm.quiet q04) ?_)
  rw [show (kK, kS, (kH b).map attP) = kR from rfl, enc_zero kR_check]
  intro A5 c5 w5 r5 hc5 q5
  have q05 := q04.trans q5
  have hl5 : (sealed (rowB kR)).length ≤ 7004 := by
    have := rowB_ok kR_check kR_ok (by decide)
    rw [seal_len]; omega
  simp (maxSteps := 1000000) (disch := omega) only [genAll, decAll, tk_nil, st8]
  refine ck13 (decode_any r5 (by omega) hc5 (hm.quiet q05) ?_)
  have hd := wire_back kR_ok (enc_err kR ▸ kR_check)
  rw [enc_zero kR_check] at hd
  rw [hd]
  intro hs6 A6 c6 w6 m6 a6 q6
  have q06 := q05.trans q6
  have q46 := q5.trans q6
  obtain ⟨q7, b7, e7⟩ := newb w6 #[.string (normR kR).1, .int .i64 (normR kR).2.1.1, .int .i64 (normR kR).2.1.2.1, .int .i64 (normR kR).2.1.2.2.1, .string (normR kR).2.1.2.2.2, .slice A6 hs6.length c6] 26
  simp (maxSteps := 1000000) (disch := omega) only [genAll, decAll, tk_nil, st8]
  generalize (w6.alloc (.cells #[.string (normR kR).1, .int .i64 (normR kR).2.1.1, .int .i64 (normR kR).2.1.2.1, .int .i64 (normR kR).2.1.2.2.1, .string (normR kR).2.1.2.2.2, .slice A6 hs6.length c6] 26)) = w7 at *
  have q07 := q06.trans q7
  have q47 := q46.trans q7
  obtain ⟨x0, x1, x2, x3, x4, x5⟩ := X w7 q47
  simp (maxSteps := 1000000) (disch := omega) only [genAll, decAll, tk_nil, st8, x0, x1, x2, x3, x4, x5]
  obtain ⟨q8, b8, e8⟩ := newb w7 #[.string kK, .int .i64 kS.1, .int .i64 kS.2.1, .int .i64 kS.2.2.1, .string kS.2.2.2, .slice (some ⟨b + 1, 0, none⟩) 1 1, .string kK, .int .i64 kS.1, .int .i64 kS.2.1, .int .i64 kS.2.2.1, .string kS.2.2.2, .slice (some ⟨b + 1, 0, none⟩) 1 1] 26
  generalize (w7.alloc (.cells #[.string kK, .int .i64 kS.1, .int .i64 kS.2.1, .int .i64 kS.2.2.1, .string kS.2.2.2, .slice (some ⟨b + 1, 0, none⟩) 1 1, .string kK, .int .i64 kS.1, .int .i64 kS.2.1, .int .i64 kS.2.2.1, .string kS.2.2.2, .slice (some ⟨b + 1, 0, none⟩) 1 1] 26)) = w8 at *
  have q08 := q07.trans q8
  have q48 := q47.trans q8
  have mem2 : ∀ x ∈ k2 b, x = (kK, kS, some ⟨b + 1, 0, none⟩, 1, kH b) := fun x hx => by simpa [k2] using hx
  have a8 : RowsAt w8 (some ⟨w7.heap.size, 0, none⟩) (k2 b) := ⟨reads_blk b8, fun x hx => by rw [mem2 x hx]; exact a4.quiet q48⟩
  have sm8 : ∀ r ∈ k2 b, SmallH r := fun r hr => by rw [mem2 r hr]; exact kSmall b
  refine ck16 (all_any (rs := k2 b) a8 sm8 (hm.quiet q08) ?_)
  rw [show (k2 b).map rowP = [kR, kR] from rfl]
  have h2 : (allL [kR, kR]).2 = 0 := by rw [all_err]; exact kR_right
  have hok2 : ∀ r ∈ [kR, kR], RowOk r := fun r hr => by
    have : r = kR := by simpa using hr
    rw [this]; exact kR_ok
  have hl2 : (allL [kR, kR]).1.length ≤ 20000 := by
    have h := rowsB_ok (k2 b) (fun r hr => ⟨sm8 r hr, by rw [mem2 r hr]; exact kR_check⟩)
    have h' : ([kR, kR].flatMap rowB).length ≤ 2 * 7000 := h
    have hp := (putInt_len (([kR, kR] : List RowD).length : Int) (by decide) (by decide)).2
    unfold allL
    rw [if_neg (fun e => e kR_right), seal_len, rowsB, List.length_append]
    omega
  have hr2 := wire_rows hok2 h2
  rw [h2]
  generalize (allL [kR, kR]).1 = l2 at *
  intro A9 c9 w9 r9 hc9 q9
  have q09 := q08.trans q9
  have q79 := q8.trans q9
  have q49 := q48.trans q9
  simp (maxSteps := 1000000) (disch := omega) only [genAll, decAll, tk_nil, st8]
  refine ck19 (rows_any r9 hl2 hc9 (hm.quiet q09) ?_)
  rw [hr2]
  intro rs10 A10 w10 m10 a10 q10
  have q010 := q09.trans q10
  have q710 := q79.trans q10
  have q410 := q49.trans q10
  have l10 : rs10.length = 2 := by have := congrArg List.length m10; simpa using this
  rw [l10]
  simp (maxSteps := 1000000) (disch := omega) only [genAll, decAll, tk_nil, st8]
  refine convK_const Tryz.underlying29 Tryz.underlying5 ?_
  have r12 := reads_newF w10 (([120, 120, 120, 120, 120] : List UInt8).map vb) 5 (5, 6)
  have q12 : Qt w10 (w10.alloc (.cells (([120, 120, 120, 120, 120] : List UInt8).map vb).toArray 5 (5, 6))) := Chg.alloc Qt.refl _
  have q012 := q010.trans q12
  have q712 := q710.trans q12
  have q412 := q410.trans q12
  have hgoal : w10.alloc (.cells #[.int .u8 120, .int .u8 120, .int .u8 120, .int .u8 120, .int .u8 120] 5 (Array.size (α := Value) #[.int .u8 120, .int .u8 120, .int .u8 120, .int .u8 120, .int .u8 120], Array.size (α := Value) #[.int .u8 120, .int .u8 120, .int .u8 120, .int .u8 120, .int .u8 120] + 1)) = w10.alloc (.cells (([120, 120, 120, 120, 120] : List UInt8).map vb).toArray 5 (5, 6)) := rfl
  rw [hgoal]
  clear hgoal
  generalize (w10.alloc (.cells (([120, 120, 120, 120, 120] : List UInt8).map vb).toArray 5 (5, 6))) = w12 at *
  simp (maxSteps := 1000000) (disch := omega) only [genAll, decAll, tk_nil, st8]
  refine ck13 (decode_any (l := [120, 120, 120, 120, 120]) r12 (by decide) (by decide) (hm.quiet q012) ?_)
  rw [kX]
  intro hs13 A13 c13 w13 m13 a13 q13
  have q013 := q012.trans q13
  have q713 := q712.trans q13
  have q413 := q412.trans q13
  generalize (decodeL [120, 120, 120, 120, 120]).1 = d13 at *
  obtain ⟨q14, b14, e14⟩ := newb w13 #[.string d13.1, .int .i64 d13.2.1.1, .int .i64 d13.2.1.2.1, .int .i64 d13.2.1.2.2.1, .string d13.2.1.2.2.2, .slice A13 hs13.length c13] 26
  have q014 := q013.trans q14
  have q714 := q713.trans q14
  have q414 := q413.trans q14
  obtain ⟨y0, y1, y2, y3, y4, y5⟩ := cell6 (q714.heap b7 (fun h => h))
  obtain ⟨x0, x1, x2, x3, x4, x5⟩ := X _ q414
  have z1 : IntKind.i64.wrap (0 + 0) = 0 := rfl
  simp (maxSteps := 1000000) (disch := omega) only [genAll, decAll, tk_nil, st8, z1]
  generalize (w13.alloc (.cells #[.string d13.1, .int .i64 d13.2.1.1, .int .i64 d13.2.1.2.1, .int .i64 d13.2.1.2.2.1, .string d13.2.1.2.2.2, .slice A13 hs13.length c13] 26)) = w14 at *
  simp (maxSteps := 1000000) (disch := omega) only [genAll, decAll, tk_nil, st8, z1, y0, y1, y2, y3, y4, y5, x0, x1, x2, x3, x4, x5]
  have hk6 : ∀ h ∈ hs6, attP h = (kN, normV kV) := fun h hh => by
    have := m6 ▸ List.mem_map_of_mem (f := attP) hh
    simpa [normR, normA, kR] using this
  have l6 : hs6.length = 1 := by have := congrArg List.length m6; simpa [normR, kR] using this
  have ga : RowGood w14 (normR kR).1 (normR kR).2.1 A6 hs6 := ⟨a6.quiet (q7.trans q714), fun h hh => by
    have e := hk6 h hh
    have e1 : h.1 = kN := congrArg Prod.fst e
    have e2 : h.2.1 = normV kV := congrArg Prod.snd e
    unfold AttSz
    rw [e1, e2]
    exact ⟨by decide, by decide, Nat.le_of_ble_eq_true rfl⟩, by rw [l6]; decide⟩
  have gb : RowGood w14 kK kS (some ⟨b + 1, 0, none⟩) (kH b) := ((good_of (r := (kK, kS, some ⟨b + 1, 0, none⟩, 1, kH b)) a4 (kSmall b))).quiet q414
  have hs15 : sameR ((normR kR).1, (normR kR).2.1, hs6.map attP) (kK, kS, (kH b).map attP) = true := by rw [m6]; exact normR_same kR
  generalize hn1 : (normR kR).1 = n1 at *
  generalize hn2 : (normR kR).2.1 = n2 at *
  generalize hkh : kH b = kh at *
  have hkl : 1 = kh.length := by rw [← hkh]; rfl
  rw [show (.slice (some ⟨b + 1, 0, none⟩) 1 1 : Value) = .slice (some ⟨b + 1, 0, none⟩) kh.length 1 by rw [← hkl]]
  refine ck42 (same_any ga gb ?_)
  intro w15 q15
  rw [hs15]
  simp (maxSteps := 1000000) (disch := omega) only [genAll, decAll, tk_nil, st8]
  exact hK _ (q014.trans q15)
end Go.Proofs.YtpjeohellehgjaaGreatDoor
end

section
/- Rows as arguments of a law: how they read. -/
set_option linter.unusedVariables false
set_option linter.unusedSimpArgs false
namespace Go.Proofs.YtpjeohellehgjaaGreatDoor
open Go.RowKit Go.Cn Go.Cn.Num Go.ChangeShapes Go.WideShapes
abbrev RVal : World → List Value → Val → Prop := RPair 1 (RInt .i64) (RPair 1 (RInt .i64) (RPair 1 RStr (RSlice 1 (RInt .i64))))
abbrev RStm : World → List Value → Stm → Prop := RPair 1 (RInt .i64) (RPair 1 (RInt .i64) (RPair 1 (RInt .i64) RStr))
abbrev RAtt : World → List Value → Att → Prop := RPair 1 RStr RVal
abbrev RRowD : World → List Value → RowD → Prop := RPair 1 RStr (RPair 4 RStm (RSlice 5 RAtt))
theorem opens_val : Opens Tryz.prog 61 RVal := by
  refine opens_struct4 1 1 1 1 Tryz.underlying61 (opens_int Tryz.underlying3) (opens_int Tryz.underlying2) (opens_str Tryz.underlying9) (opens_slice Tryz.underlying59 (by kernel_rfl) (opens_int Tryz.underlying2)) ?_ ?_ ?_ ?_ ?_ ?_ ?_ ?_ ?_ <;> kernel_rfl
theorem opens_stm : Opens Tryz.prog 23 RStm := by
  refine opens_struct4 1 1 1 1 Tryz.underlying23 (opens_int Tryz.underlying2) (opens_int Tryz.underlying2) (opens_int Tryz.underlying2) (opens_str Tryz.underlying9) ?_ ?_ ?_ ?_ ?_ ?_ ?_ ?_ ?_ <;> kernel_rfl
theorem opens_att : Opens Tryz.prog 64 RAtt := by
  refine opens_struct2 1 4 Tryz.underlying64 (opens_str Tryz.underlying9) opens_val ?_ ?_ ?_ ?_ ?_ <;> kernel_rfl
theorem opens_row : Opens Tryz.prog 26 RRowD := by
  refine opens_struct3 1 4 1 Tryz.underlying26 (opens_str Tryz.underlying9) opens_stm (opens_slice Tryz.underlying24 (by kernel_rfl) opens_att) ?_ ?_ ?_ ?_ ?_ ?_ ?_ <;> kernel_rfl
theorem rrow_choose {sz : Nat} {α β : Type} [Inhabited β] {R : World → List Value → α → Prop} {C : β → List Value} {Q : β → α → Prop} {w : World} {A : Option Addr} {l : List α} (h : RRow sz R w A l) (hq : ∀ cs x, R w cs x → cs.length = sz → ∃ y, cs = C y ∧ Q y x) :
    ∃ ys : List β, ys.length = l.length ∧ (∀ i (h1 : i < ys.length) (h2 : i < l.length), Q ys[i] l[i]) ∧ RRow sz (fun _ cs y => cs = C y) w A ys := by
  obtain ⟨f, hf⟩ := Deep.choose_lt (n := l.length) (p := fun i (y : β) => ∃ (hi : i < l.length) (ad : Addr), A = some ad ∧ (C y).length = sz ∧ (∀ j, j < sz → w.cell? (ad.add (i * sz + j)) = (C y)[j]?) ∧ Q y l[i]) (fun i hi => by
    obtain ⟨ad, cs, h1, h2, h3, h4⟩ := h i hi
    obtain ⟨y, rfl, hy⟩ := hq cs _ h2 h3
    exact ⟨y, hi, ad, h1, h3, h4, hy⟩)
  refine ⟨(List.range l.length).map f, by simp, fun i h1 h2 => ?_, fun i hi => ?_⟩
  · obtain ⟨_, ad, _, _, _, hq⟩ := hf i h2
    simpa using hq
  · have hi' : i < l.length := by simpa using hi
    obtain ⟨_, ad, h1, h3, h4, _⟩ := hf i hi'
    refine ⟨ad, C (f i), h1, ?_, h3, h4⟩
    simp
theorem map_of_all {α β γ : Type} {ys : List β} {l : List α} {g : β → γ} {g' : α → γ} (hl : ys.length = l.length) (h : ∀ i (h1 : i < ys.length) (h2 : i < l.length), g ys[i] = g' l[i]) : ys.map g = l.map g' := by
  apply List.ext_getElem
  · simp [hl]
  · intro i h1 h2
    simp only [List.getElem_map]
    exact h i (by simpa using h1) (by simpa using h2)
theorem in64_wf {n : Int} (h : (Lit.int .i64 n).wf = true) : in64 n := ⟨(bounds_i64 h).1, (bounds_i64 h).2⟩
theorem att_cells {w : World} {cs : List Value} {x : Att} (h : RAtt w cs x) (hl : cs.length = 5) : ∃ y : AttH, cs = attC y ∧ (attP y = x ∧ Reads w y.2.2.1 (ints' y.2.1.2.2.2) ∧ AttOk x) := by
  match cs, hl with
  | [n, a, b, c, d], _ =>
    obtain ⟨⟨h0, z0⟩, ⟨h1, z1⟩, ⟨h2, z2⟩, ⟨h4, z4⟩, A, cap, h5, _, _, hr⟩ := h
    have e0 : n = .string x.1 := by simpa using h0
    have e1 : a = .int .i64 x.2.1 := by simpa using h1
    have e2 : b = .int .i64 x.2.2.1 := by simpa using h2
    have e3 : c = .string x.2.2.2.1 := by simpa using h4
    have e4 : d = .slice A x.2.2.2.2.length cap := by simpa using h5
    refine ⟨(x.1, x.2, A, cap), by rw [e0, e1, e2, e3, e4]; rfl, rfl, Reads.of_row (enc := fun z => Value.int .i64 z) rint_one hr, z0, in64_wf z1, in64_wf z2, fun z hz => ?_, z4⟩
    obtain ⟨i, hi, rfl⟩ := List.mem_iff_getElem.1 hz
    obtain ⟨cs, h, hw⟩ := hr.elem hi
    exact in64_wf hw
theorem atts_arg {w : World} {A : Option Addr} {l : List Att} (h : RRow 5 RAtt w A l) : ∃ hs : List AttH, hs.map attP = l ∧ AttsAt w A hs ∧ ∀ a ∈ l, AttOk a := by
  obtain ⟨ys, hl, hq, hr⟩ := rrow_choose h (fun cs x => att_cells)
  have hm : ys.map attP = l := by
    have := map_of_all (g := attP) (g' := id) hl (fun i h1 h2 => (hq i h1 h2).1)
    simpa using this
  refine ⟨ys, hm, ⟨Reads.of_rows (by omega) attC_len (fun _ _ _ h _ => h) hr, fun x hx => ?_⟩, fun a ha => ?_⟩
  · obtain ⟨i, hi, rfl⟩ := List.mem_iff_getElem.1 hx
    exact (hq i hi (by omega)).2.1
  · obtain ⟨i, hi, rfl⟩ := List.mem_iff_getElem.1 ha
    exact (hq i (by omega) hi).2.2
/-- What an argument's row tells. -/
structure RowArg (w : World) (A : Option Addr) (x : RowD) (hs : List AttH) : Prop where
  atts : AttsAt w A hs
  map : hs.map attP = x.2.2
  ok : RowOk x
theorem row_cells {w : World} {cs : List Value} {x : RowD} (h : RRowD w cs x) (hl : cs.length = 6) : ∃ y : RowH, cs = rowC y ∧ (rowP y = x ∧ RowArg w y.2.2.1 x y.2.2.2.2) := by
  match cs, hl with
  | [k, a, b, c, d, e], _ =>
    obtain ⟨⟨h0, z0⟩, ⟨⟨h1, z1⟩, ⟨h2, z2⟩, ⟨h3, z3⟩, ⟨h4, z4⟩⟩, A, cap, h5, _, _, hr⟩ := h
    obtain ⟨hs, hm, ha, hok⟩ := atts_arg hr
    have e0 : k = .string x.1 := by simpa using h0
    have e1 : a = .int .i64 x.2.1.1 := by simpa using h1
    have e2 : b = .int .i64 x.2.1.2.1 := by simpa using h2
    have e3 : c = .int .i64 x.2.1.2.2.1 := by simpa using h3
    have e4 : d = .string x.2.1.2.2.2 := by simpa using h4
    have hlen : x.2.2.length = hs.length := by rw [← hm]; simp
    have e5 : e = .slice A hs.length cap := by rw [← hlen]; simpa using h5
    refine ⟨(x.1, x.2.1, A, cap, hs), by rw [e0, e1, e2, e3, e4, e5]; rfl, ?_, ha, hm, z0, ⟨in64_wf z1, in64_wf z2, in64_wf z3, z4⟩, hok⟩
    show (x.1, x.2.1, hs.map attP) = x
    rw [hm]
theorem rows_arg {w : World} {A : Option Addr} {l : List RowD} (h : RRow 6 RRowD w A l) : ∃ rs : List RowH, rs.length = l.length ∧ rs.map rowP = l ∧ RowsAt w A rs ∧ ∀ r ∈ rs, RowOk (rowP r) := by
  obtain ⟨ys, hl, hq, hr⟩ := rrow_choose h (fun cs x => row_cells)
  have hm : ys.map rowP = l := by
    have := map_of_all (g := rowP) (g' := id) hl (fun i h1 h2 => (hq i h1 h2).1)
    simpa using this
  refine ⟨ys, hl, hm, ⟨Reads.of_rows (by omega) rowC_len (fun _ _ _ h _ => h) hr, fun x hx => ?_⟩, fun a ha => ?_⟩
  · obtain ⟨i, hi, rfl⟩ := List.mem_iff_getElem.1 hx
    exact (hq i hi (by omega)).2.atts
  · obtain ⟨i, hi, rfl⟩ := List.mem_iff_getElem.1 ha
    obtain ⟨h1, h2⟩ := hq i hi (by omega)
    rw [h1]; exact h2.ok
/-- The cells of an argument that is a row. -/
theorem rowArg_cells {w : World} {cs : List Value} {x : RowD} (h : RRowD w cs x) (hl : cs.length = 6) : ∃ A c hs, cs = [.string x.1, .int .i64 x.2.1.1, .int .i64 x.2.1.2.1, .int .i64 x.2.1.2.2.1, .string x.2.1.2.2.2, .slice A hs.length c] ∧ RowArg w A x hs := by
  obtain ⟨⟨k, s, A, c, hs⟩, h1, h2, h3⟩ := row_cells h hl
  subst h2
  exact ⟨A, c, hs, h1, h3⟩
end Go.Proofs.YtpjeohellehgjaaGreatDoor
end

section
/- The wrap of a row that lists variables, the world's shape kept. And the variable that holds some int. -/
namespace Go.Cn
open Go
variable {H : Type} {enc : TypeId × Value → H}
theorem returns_shaped {a : Assume} {C : Checked} {os : Os} {f : FuncId} {fn : Func} {s : ChangeSpec} {conds : List PathCond} {apart fresh handsOn again : Bool} {X : World → Array Value → Prop}
    (hX : ∀ (w w' : World) (args : Array Value), w.heap = w'.heap → X w args → X w' args)
    (own : ownKnob C.prog.godebug = none) (started : os.Started) (noInit : C.prog.inits.idxOf? f = none) (hfn : C.prog.funcs[f]? = some fn)
    (witness : ∃ (w : World) (tape : Tape) (i : Input), w.os = os ∧ (w.forCall tape i).Shaped C.prog ∧ i.vars = [] ∧ Input.okWide C.prog (w.forCall tape i) .any w.heap.size f i ∧
      ((s.pre enc C.prog fn conds apart (w.forCall tape i).memory i.args ∧ X (w.forCall tape i).memory i.args) ∧ sizedMet enc C.prog fn (OpenSpec.ofChange s) apart (w.forCall tape i).memory i.args) ∧ a.holds C.prog (lone (Frame.enter C.prog f i.args .normal) [] (w.forCall tape i)))
    (contract : ∀ (W : World) (base : Nat) (args : Array Value) (ds gs : List (DataW H)) (before : List MemPlace),
      (∀ (j : Nat) t v, fn.params[j]? = some t → args[j]? = some v → Value.okWide C.prog W .any base t v) →
      DataW.Whole enc C.prog fn.params.toList s.vars apart W args.toList ds gs before →
      conds.all (PathCond.test C.prog ⟨fn.params.toList, ds, s.plain.varTypes C.prog, gs⟩) = true →
      X W args → W.ShapedOpen C.prog →
      Calls C.prog f args W fun e W' => ∃ v, e = .returned v ∧ s.post enc C.prog fn apart fresh handsOn again W args v W') :
    ReturnsInHanded a C os f .any (fun w args => (s.pre enc C.prog fn conds apart w args ∧ X w args) ∧ sizedMet enc C.prog fn (OpenSpec.ofChange s) apart w args) (s.post enc C.prog fn apart fresh handsOn again) := by
  refine returnsInHanded_of_calls own started noInit witness ?_
  intro w tape i _ hsh _ hok hpre hholds
  obtain ⟨_, _, _, fn', hfn', _, _, _, _, hval⟩ := hok
  have e : fn' = fn := Option.some.inj (hfn'.symm.trans hfn)
  subst e
  obtain ⟨⟨⟨ds, gs, before, hw, hc⟩, hx⟩, hz⟩ := hpre
  have hw' := DataW.Whole.of_heap (w' := w.forCall tape i) (by rfl) hw
  refine (contract (w.forCall tape i) w.heap.size i.args ds gs before hval hw' hc (hX _ _ _ (by rfl) hx) hsh).mono fun e W' ⟨v, he, hp⟩ => ?_
  subst he
  exact ChangeSpec.post_blind hp
theorem witness_up {C : Checked} {os : Os} {f : FuncId} {fn : Func} {s : OpenSpec} {conds : List PathCond} {apart : Bool} {laid : List (String × DataW Unit)} (modest : Bool) (w0 : World) (args : Array Value) (hos : w0.os = os)
    (hsh : (w0.forCall (fun _ _ => 0) ⟨#[], args, []⟩).Shaped C.prog)
    (hok : Input.okWideB C.prog (w0.forCall (fun _ _ => 0) ⟨#[], args, []⟩) f ⟨#[], args, []⟩ = true)
    (hrow : s.preRow enc C.prog fn conds apart laid (w0.forCall (fun _ _ => 0) ⟨#[], args, []⟩).memory args) :
    ∃ (w : World) (tape : Tape) (i : Input), w.os = os ∧ (w.forCall tape i).Shaped C.prog ∧ i.vars = [] ∧ Input.okWide C.prog (w.forCall tape i) .any w.heap.size f i ∧
      s.preRow enc C.prog fn conds apart laid (w.forCall tape i).memory i.args ∧ ({ modest := modest } : Assume).holds C.prog (lone (Frame.enter C.prog f i.args .normal) [] (w.forCall tape i)) :=
  ⟨w0, fun _ _ => 0, ⟨#[], args, []⟩, hos, hsh, (Input.okWide_of_okWideB (base := 0) hok).1, (Input.okWide_of_okWideB hok).2, hrow, by
    simp only [Assume.holds]
    exact ⟨by simp, by simp, fun _ => Modest.zero, by simp, by simp⟩⟩
end Go.Cn
end
