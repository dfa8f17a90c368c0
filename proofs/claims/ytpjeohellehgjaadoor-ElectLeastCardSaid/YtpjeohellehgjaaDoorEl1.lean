/- An attribute of a name: the program's by halves, the document's one after the other. Conditions: the attributes read; the program's rise. -/
import Derived.Test.YtpjeohellehgjaaDoorEl
import Derived.Test.YtpjeohellehgjaaDoorZE
set_option linter.unusedVariables false
set_option linter.unusedSimpArgs false
set_option maxRecDepth 100000
namespace Go.Proofs.YtpjeohellehgjaaDoor
open Go.RowKit Go.Cn
theorem find1_any {h : AttH} {nm : ByteArray} {w : World} {K : Value → World → Prop} (hK : ∀ w', Qt w w' → K (.int .i64 (cmpS h.1 nm)) w') : CallK Tryd.prog 116 #[.agg #[.string h.1, .int .i64 h.2.1.1, .int .i64 h.2.1.2.1, .string h.2.1.2.2.1, .slice h.2.2.1 h.2.1.2.2.2.length h.2.2.2], .string nm] K w := by
  refine F116_calls _ _ _ _ ?_; unfold F116
  obtain ⟨q1, h1, s1⟩ := newb w #[.string h.1, .int .i64 h.2.1.1, .int .i64 h.2.1.2.1, .string h.2.1.2.2.1, .slice h.2.2.1 h.2.1.2.2.2.length h.2.2.2] 128
  simp (maxSteps := 1000000) (disch := omega) only [genAll, decAll, tk_nil, st116]
  generalize (w.alloc (.cells #[.string h.1, .int .i64 h.2.1.1, .int .i64 h.2.1.2.1, .string h.2.1.2.2.1, .slice h.2.2.1 h.2.1.2.2.2.length h.2.2.2] 128)) = w1 at *
  obtain ⟨x0, _⟩ := cell5 h1
  simp (maxSteps := 1000000) (disch := omega) only [genAll, decAll, tk_nil, st116, x0]
  refine ck40 (cmp37 ?_)
  simp (maxSteps := 1000000) (disch := omega) only [genAll, decAll, tk_nil, st116]
  exact hK _ q1
theorem half_go (i j : Nat) : IntKind.i64.wrap (((i : Int) + (j : Int)) / (2 : Int) ^ min (Int.toNat 1) 64) = (((i + j) / 2 : Nat) : Int) ∨ ¬ i + j ≤ 1000000 := by
  by_cases h : i + j ≤ 1000000
  · left
    rw [show min (Int.toNat 1) 64 = 1 from rfl, IntKind.wrap_i64]; omega
  · exact .inr h
theorem cmpS_lt {a b : ByteArray} : cmpS a b < 0 ↔ ltS a b = true := by
  rw [ltS_iff]
  rcases cmpL_three (bts a.data.toList) (bts b.data.toList) with e | e | e
  · have e : cmpS a b = -1 := e
    rw [e]; decide
  · have e : cmpS a b = 0 := e
    rw [e]; decide
  · have e : cmpS a b = 1 := e
    rw [e]; decide
set_option maxHeartbeats 4000000 in
theorem findA_any {hs : List AttH} {nm : ByteArray} {A : Option Addr} {c : Nat} {w : World} {K : Value → World → Prop} (ha : Reads w A (hs.flatMap attC)) (hu : UpK (hs.map (·.1))) (hl : hs.length ≤ 100000)
    (hK : ∀ (i : Nat) (b : Bool) w', Qt w w' → (b = true → i < hs.length ∧ (hs.getD i default).1 = nm) → (b = false → ∀ h ∈ hs, h.1 ≠ nm) → K (.tuple #[.int .i64 i, .bool b]) w') : CallK Tryd.prog 103 #[.slice A hs.length c, .string nm] K w := by
  have hbs : ∀ K : Value → World → Prop, (∀ (i : Nat) (b : Bool) w', Qt w w' → (b = true → i < hs.length ∧ (hs.getD i default).1 = nm) → (b = false → ∀ h ∈ hs, h.1 ≠ nm) → K (.tuple #[.int .i64 i, .bool b]) w') → CallK Tryd.prog 115 #[.slice A hs.length c, .string nm, .func (.func 116) #[] #[]] K w := fun K hK => by
    refine F115_calls _ _ _ _ _ ?_; unfold F115
    simp (maxSteps := 1000000) (disch := omega) only [genAll, decAll, tk_nil, st115]
    refine loopK2 (fun x y w' => Qt w w' ∧ ∃ i j : Nat, x = .int .i64 i ∧ y = .int .i64 j ∧ i ≤ j ∧ j ≤ hs.length ∧ (∀ q, q < i → ltS (hs.getD q default).1 nm = true) ∧ (∀ q, j ≤ q → q < hs.length → ltS (hs.getD q default).1 nm = false)) (fun x y _ => (intOf y).toNat - (intOf x).toNat) ⟨Qt.refl, 0, hs.length, rfl, rfl, by omega, by omega, fun q hq => by omega, fun q hq h => by omega⟩ ?_
    rintro _ _ _ w' ⟨hq, i, j, rfl, rfl, hij, hj, hlo, hhi⟩
    have hr' := ha.quiet hq
    by_cases hlt : i < j
    · have hh : IntKind.i64.wrap (((i : Int) + (j : Int)) / (2 : Int) ^ min (Int.toNat 1) 64) = (((i + j) / 2 : Nat) : Int) := by
        rcases half_go i j with h | h
        · exact h
        · omega
      have hm : (i + j) / 2 < hs.length := by omega
      have hm1 : i ≤ (i + j) / 2 ∧ (i + j) / 2 < j := by omega
      generalize (i + j) / 2 = m at *
      obtain ⟨g, o, rfl, z0, z1, z2, z3, z4⟩ := att_at hr' hm
      have hupm : ∀ q, q < m → ltS (hs.getD m default).1 nm = true → ltS (hs.getD q default).1 nm = true := fun q h1 h2 => ltS_trans (upK_at hu h1 hm) h2
      have hdnm : ∀ q, m < q → q < hs.length → ltS (hs.getD m default).1 nm = false → ltS (hs.getD q default).1 nm = false := fun q h1 h3 h2 => by
        cases h : ltS (hs.getD q default).1 nm with
        | false => rfl
        | true => rw [ltS_trans (upK_at hu h1 h3) h] at h2; cases h2
      have hmm : ∀ b, ltS (hs.getD m default).1 nm = b → ∀ q, q = m → ltS (hs.getD q default).1 nm = b := fun b h q e => by rw [e]; exact h
      generalize hs.getD m default = h at *
      simp (maxSteps := 1000000) (disch := omega) only [genAll, decAll, tk_nil, st115, hh]
      simp (maxSteps := 1000000) (disch := omega) only [genAll, decAll, tk_nil, st115, z0, z1, z2, z3, z4]
      refine ck116 (find1_any (h := h) ?_)
      intro w2 q2
      by_cases hb : cmpS h.1 nm < 0
      · have hb' := cmpS_lt.1 hb
        simp (maxSteps := 1000000) (disch := omega) only [genAll, decAll, tk_nil, st115]
        refine ⟨⟨hq.trans q2, m + 1, j, by go_num, rfl, by omega, hj, fun q hqm => ?_, hhi⟩, by simp [rel, intOf]; omega⟩
        by_cases e : q = m
        · exact hmm _ hb' q e
        · exact hupm q (by omega) hb'
      · have hb' : ltS h.1 nm = false := by
          cases h2 : ltS h.1 nm with
          | false => rfl
          | true => exact absurd (cmpS_lt.2 h2) hb
        simp (maxSteps := 1000000) (disch := omega) only [genAll, decAll, tk_nil, st115]
        refine ⟨⟨hq.trans q2, i, m, rfl, rfl, by omega, by omega, hlo, fun q hqm h2 => ?_⟩, by simp [rel, intOf]; omega⟩
        by_cases e : q = m
        · exact hmm _ hb' q e
        · exact hdnm q (by omega) h2 hb'
    · obtain rfl : i = j := by omega
      have hne : ∀ q, q < hs.length → q ≠ i → (hs.getD q default).1 ≠ nm := fun q h1 h2 e => by
        rcases Nat.lt_or_ge q i with h | h
        · have := hlo q h
          rw [e, ltS_self] at this; cases this
        · have h3 := hhi i (Nat.le_refl _) (by omega)
          have h4 := upK_at hu (show i < q by omega) h1
          rw [e, h3] at h4; cases h4
      have hnone : (∀ q, q < hs.length → (hs.getD q default).1 ≠ nm) → ∀ h ∈ hs, h.1 ≠ nm := fun hh h hm e => by
        obtain ⟨q, hq, rfl⟩ := List.mem_iff_getElem.1 hm
        exact hh q hq (by simpa [hq] using e)
      by_cases hin : i < hs.length
      · obtain ⟨g, o, rfl, z0, z1, z2, z3, z4⟩ := att_at hr' hin
        have hyes : ∀ b : Bool, b = decide ((hs.getD i default).1 = nm) → ∀ w', Qt w w' → K (.tuple #[.int .i64 i, .bool b]) w' := fun b hb w' q => hK i b w' q (fun h => ⟨hin, of_decide_eq_true (hb ▸ h)⟩) (fun h => hnone (fun p hp => by
          by_cases e : p = i
          · subst e; exact of_decide_eq_false (hb ▸ h)
          · exact hne p hp e))
        generalize hs.getD i default = h at *
        simp (maxSteps := 1000000) (disch := omega) only [genAll, decAll, tk_nil, st115, z0, z1, z2, z3, z4]
        refine ck116 (find1_any (h := h) ?_)
        intro w2 q2
        by_cases hb : cmpS h.1 nm = 0
        · have e : (cmpS h.1 nm == 0) = true := by rw [hb]; rfl
          simp (maxSteps := 1000000) (disch := omega) only [genAll, decAll, tk_nil, st115, e]
          exact hyes true (decide_eq_true (cmpS_zero.1 hb)).symm _ (hq.trans q2)
        · have e : (cmpS h.1 nm == 0) = false := beq_eq_false_iff_ne.2 hb
          simp (maxSteps := 1000000) (disch := omega) only [genAll, decAll, tk_nil, st115, e]
          exact hyes false (decide_eq_false (fun e => hb (cmpS_zero.2 e))).symm _ (hq.trans q2)
      · simp (maxSteps := 1000000) (disch := omega) only [genAll, decAll, tk_nil, st115, guardK_u]
        exact hK i false _ hq (fun h => by cases h) (fun _ => hnone (fun p hp => hne p hp (by omega)))
  refine F103_calls _ _ _ _ ?_; unfold F103
  refine ck115 (hbs _ ?_)
  intro i b w2 q2 h1 h2
  simp (maxSteps := 1000000) (disch := omega) only [genAll, decAll, tk_nil, st115]
  exact hK i b _ q2 h1 h2
set_option maxHeartbeats 2000000 in
theorem getA_any {hs : List AttH} {nm : ByteArray} {A : Option Addr} {c : Nat} {w : World} {K : Value → World → Prop} (ha : AttsAt w A hs) (hu : UpK (hs.map (·.1))) (hl : hs.length ≤ 100000) (hv : ∀ h ∈ hs, h.2.1.2.2.2.length ≤ 100000)
    (hK : ∀ A' w', Qt w w' → K (.tuple #[vv (getB (hs.map attP) nm).1 A' (getB (hs.map attP) nm).1.2.2.2.length, .bool (getB (hs.map attP) nm).2]) w') : CallK Tryd.prog 90 #[.slice A hs.length c, .string nm] K w := by
  refine F90_calls _ _ _ _ ?_; unfold F90
  obtain ⟨q1, h1, s1⟩ := newb w #[.int .i64 0, .int .i64 0, .string ByteArray.empty, .slice none 0 0] 126
  simp (maxSteps := 1000000) (disch := omega) only [genAll, decAll, tk_nil, st90]
  generalize (w.alloc (.cells #[.int .i64 0, .int .i64 0, .string ByteArray.empty, .slice none 0 0] 126)) = w1 at *
  generalize hb : w.heap.size = b at *
  refine ck103 (findA_any (ha.1.quiet q1) hu hl ?_)
  intro i bb w2 q2 ht hf
  have q02 := q1.trans q2
  have h2 := q2.heap h1 (fun h => h)
  cases bb with
  | false =>
    rw [getB_none (l := hs.map attP) (nm := nm) (fun a ha' => by
      obtain ⟨h, hh, rfl⟩ := List.mem_map.1 ha'
      exact hf rfl h hh)] at hK
    simp (maxSteps := 1000000) (disch := omega) only [genAll, decAll, tk_nil, st90]
    refine aggStoreW (cs := [.int .i64 0, .int .i64 0, .string ByteArray.empty, .slice none 0 0]) h2 rfl (by kernel_rfl) (by intro u hu; simp at hu; rcases hu with rfl | rfl | rfl <;> rfl) ?_
    intro w3 h3 k3
    obtain ⟨y0, y1, y2, y3⟩ := cell4 h3
    simp (maxSteps := 1000000) (disch := omega) only [genAll, decAll, tk_nil, st90, y0, y1, y2, y3]
    exact hK none _ (Qt.then q02 k3 (fun k hk => by omega))
  | true =>
    obtain ⟨hi, he⟩ := ht rfl
    have hg : getB (hs.map attP) nm = ((hs.getD i default).2.1, true) := by
      rw [getB_some (i := i) (l := hs.map attP) (nm := nm) (by rw [List.length_map]; exact hi) (by simpa [hi, attP] using he) (fun j hj e => by
        rw [List.length_map] at hj
        exact upK_one hu hj hi (by rw [he]; simpa [hj, attP] using e))]
      simp [hi, attP]
    rw [hg] at hK
    obtain ⟨g, o, rfl, z0, z1, z2, z3, z4⟩ := att_at (ha.1.quiet q02) hi
    have hL := (ha.2.get hi).quiet q02
    have hln := hv _ (getD_mem hi)
    generalize hs.getD i default = h at *
    obtain ⟨hn, v, B, d⟩ := h
    simp only at z0 z1 z2 z3 z4 hL hln hK
    simp (maxSteps := 1000000) (disch := omega) only [genAll, decAll, tk_nil, st90, z1, z2, z3, z4]
    refine ck99 (apartV_any hL hln ?_)
    intro B3 w3 r3 q3 f3
    have h3 := q3.heap h2 (fun h => h)
    simp (maxSteps := 1000000) (disch := omega) only [genAll, decAll, tk_nil, st90]
    refine aggStoreW (cs := [.int .i64 v.1, .int .i64 v.2.1, .string v.2.2.1, .slice B3 v.2.2.2.length v.2.2.2.length]) h3 rfl (by kernel_rfl) (by intro u hu; simp at hu; rcases hu with rfl | rfl | rfl | rfl <;> rfl) ?_
    intro w4 h4 k4
    obtain ⟨y0, y1, y2, y3⟩ := cell4 h4
    simp (maxSteps := 1000000) (disch := omega) only [genAll, decAll, tk_nil, st90, y0, y1, y2, y3]
    exact hK B3 _ (Qt.then (q02.trans q3) k4 (fun k hk => by omega))
end Go.Proofs.YtpjeohellehgjaaDoor
