/- DigestAny: the walk. Conditions: rows, marks, keys read. -/
import Derived.Test.YtpjeohellehgjaaDoorZE
set_option linter.unusedVariables false
set_option linter.unusedSimpArgs false
set_option maxRecDepth 100000
namespace Go.Proofs.YtpjeohellehgjaaDoor
open Go.RowKit Go.Cn
theorem chkM_up : ∀ (l : List MarkD) (p : Option ByteArray), chkM p l = 0 → (∀ q, p = some q → ∀ m ∈ l, ltS q m.1 = true) ∧ UpK (l.map (·.1))
  | [], p, _ => ⟨fun _ _ _ h => (by cases h), List.Pairwise.nil⟩
  | m :: r, p, h => by
    rw [chkM] at h
    by_cases h1 : nameL m.1.data.toList = false
    · rw [if_pos h1] at h; exact absurd h (by decide)
    rw [if_neg h1] at h
    by_cases h2 : (p.all fun q => ltS q m.1) = false
    · rw [if_pos h2] at h; exact absurd h (by decide)
    rw [if_neg h2] at h
    by_cases h3 : checkS m.2 = 0
    case neg => rw [if_pos h3] at h; exact absurd h h3
    rw [if_neg (fun e => e h3)] at h
    obtain ⟨i1, i2⟩ := chkM_up r (some m.1) h
    have hp : ∀ q, p = some q → ltS q m.1 = true := fun q e => by
      subst e
      simpa using h2
    refine ⟨fun q e x hx => ?_, ?_⟩
    · rcases List.mem_cons.1 hx with rfl | hx
      · exact hp q e
      · exact ltS_trans (hp q e) (i1 m.1 rfl x hx)
    · refine List.Pairwise.cons (fun k hk => ?_) i2
      obtain ⟨x, hx, rfl⟩ := List.mem_map.1 hk
      exact i1 m.1 rfl x hx
theorem checkMs_up {l : List MarkD} (h : checkMs l = 0) : UpK (l.map (·.1)) := by
  unfold checkMs at h
  by_cases h64 : 64 < l.length
  · rw [if_pos h64] at h; exact absurd h (by decide)
  rw [if_neg h64] at h
  exact (chkM_up l none h).2
theorem kbneM (a : MarkD) (K : Value → World → Prop) (w : World) : BinK Tryd.prog .neq 40 (markV a) (markV a) K w = K (.bool false) w := by
  unfold BinK; (first | (go_simp; rfl) | (go_simp; done))
theorem qkbneM (a : MarkD) {K : Value → Prop} {T : Nat → Prop} {w1 : World} : BinT Tryd.prog (Chs T w1) .neq 40 (markV a) (markV a) (@Cn.hid _ ⟨K⟩) = K (.bool false) := tk_B (fun w' => (kbneM a (fun v' w'' => v' = (.bool false) ∧ w'' = w') w').mpr ⟨rfl, rfl⟩)
theorem okS_sub {rs rs' : List RowH} (h : ∀ r ∈ rs, OkS r) (hs : ∀ x ∈ rs'.map rowP, x ∈ rs.map rowP) : ∀ r ∈ rs', OkS r := fun r hr => by
  obtain ⟨y, hy, he⟩ := List.mem_map.1 (hs _ (List.mem_map_of_mem hr))
  exact okS_same he (h y hy)
theorem len_sub {rs rs' : List RowH} {f : RowD → Bool} (h : rs'.map rowP = (rs.map rowP).filter f) : rs'.length ≤ rs.length := by
  have := congrArg List.length h
  have h2 := List.length_filter_le f (rs.map rowP)
  rw [List.length_map] at this h2
  omega
theorem ofM_len {ms : List MarkD} {n : Nat} {A : Option Addr} {c : Nat} {w : World} {K : Value → World → Prop} (e : ms.length = n) (ha : Reads w A (ms.flatMap markC)) (hn : n ≤ 100000)
    (hK : ∀ A' c' w', Reads w' A' (ms.flatMap markC) → Qt w w' → K (.slice A' n c') w') : CallK Tryd.prog 12 #[.slice A n c] K w := by
  subst e; exact ofM_any ha hn hK
/-- What few rows tell. -/
theorem riseH_ok {rs : List RowH} (h : RiseH rs) : ∀ r ∈ rs, OkS r := fun r hr => ⟨(fewR_good (h.few r hr)).1, (fewR_good (h.few r hr)).2.1⟩
theorem riseH_n {rs : List RowH} (h : RiseH rs) : ∀ r ∈ rs, r.2.2.2.2.length ≤ 100000 := fun r hr => (fewR_good (h.few r hr)).2.1
theorem riseH_v {rs : List RowH} (h : RiseH rs) : ∀ r ∈ rs, ∀ x ∈ r.2.2.2.2, x.2.1.2.2.2.length ≤ 100000 := fun r hr x hx => by
  have := ((h.few r hr).2.2.2 x hx).2.2
  omega
set_option maxHeartbeats 8000000 in
theorem digestAny_any {rs : List RowH} {ms : List MarkD} {ks : List ByteArray} {A B C : Option Addr} {c d e : Nat} {w : World} {K : Value → World → Prop} (hm : MaxAt w) (ha : RowsAt w A rs) (hb : Reads w B (ms.flatMap markC)) (hc : Reads w C (ks.map Value.string)) (hK : ∀ w', Qt w w' → K (.bool true) w') : CallK Tryd.prog 3 #[.slice A rs.length c, .slice B ms.length d, .slice C ks.length e] K w := by
  refine F3_calls _ _ _ _ _ ?_; unfold F3
  refine ck9 (known14_any hm ?_)
  intro w1 q1
  simp (maxSteps := 1000000) (disch := omega) only [genAll, decAll, tk_nil, st3]
  refine ck10 (fewM_any (hb.quiet q1) ?_)
  intro b hf
  cases b with
  | false =>
    simp (maxSteps := 1000000) (disch := omega) only [genAll, decAll, tk_nil, st3, guardK_u]
    exact hK _ q1
  | true =>
  obtain ⟨f1, f2⟩ := hf rfl
  clear hf
  by_cases h40 : 40 < ks.length
  · simp (maxSteps := 1000000) (disch := omega) only [genAll, decAll, tk_nil, st3, guardK_u]
    exact hK _ q1
  simp (maxSteps := 1000000) (disch := omega) only [genAll, decAll, tk_nil, st3]
  refine ck12 (ofM_any (hb.quiet q1) (by omega) ?_)
  intro A2 c2 w2 r2 q2
  have q02 := q1.trans q2
  simp (maxSteps := 1000000) (disch := omega) only [genAll, decAll, tk_nil, st3]
  refine ck11 (chkMR_any r2 (fun m hm => by have := (f2 m hm).2; omega) ?_)
  intro w3 q3
  have q03 := q02.trans q3
  simp (maxSteps := 1000000) (disch := omega) only [genAll, decAll, tk_nil, st3]
  refine ck13 (chkM_any (hm.quiet q03) (hb.quiet q03) (fun m hm => by have := (f2 m hm).2; omega) ?_)
  intro w4 q4
  have q04 := q03.trans q4
  have e0 : (checkMs ms != checkMs ms) = false := bne_self_eq_false _
  have hup := checkMs_up (l := ms)
  generalize checkMs ms = z at *
  by_cases hz : z = 0
  case neg =>
    have e1 : (z != 0) = true := by rw [bne_iff_ne]; exact hz
    simp (maxSteps := 1000000) (disch := omega) only [genAll, decAll, tk_nil, st3, e0, e1, guardK_u]
    exact hK _ q04
  have e1 : (z != 0) = false := by rw [hz]; rfl
  have um := hup hz
  simp (maxSteps := 1000000) (disch := omega) only [genAll, decAll, tk_nil, st3, e0, e1]
  refine ck14 (rise_any (ha.quiet q04) ?_)
  intro b w5 q5 hr
  have q05 := q04.trans q5
  cases b with
  | false =>
    simp (maxSteps := 1000000) (disch := omega) only [genAll, decAll, tk_nil, st3]
    exact hK _ q05
  | true =>
  have hr := hr rfl
  simp (maxSteps := 1000000) (disch := omega) only [genAll, decAll, tk_nil, st3]
  refine loopK1 (fun v w' => ∃ i : Nat, v = .int .i64 i ∧ i ≤ ks.length ∧ Qt w w') (fun v _ => ks.length - (intOf v).toNat) ⟨0, rfl, by omega, q05⟩ ?_
  rintro _ _ w6 ⟨i, rfl, hi, q6⟩
  by_cases hlt : i < ks.length
  · have X := fun w' (q : Quiets w w') => key_at (Reads.quiet hc q) hlt
    obtain ⟨g, o, hA, _⟩ := X w Qt.refl
    have hn1 : ((i : Int) - 1).toNat = i - 1 := by omega
    have Y0 : 0 < i → ∀ w', Quiets w w' → w'.cell? ⟨g, o + (i - 1), none⟩ = some (.string (ks.getD (i - 1) default)) := fun h0 w' q => by
      obtain ⟨g', o', he, y0⟩ := key_at (Reads.quiet hc q) (show i - 1 < ks.length by omega)
      rw [hA] at he
      cases he
      exact y0
    subst hA
    generalize ks.getD (i - 1) default = pk at *
    generalize ks.getD i default = k at *
    have X0 : ∀ w', Quiets w w' → w'.cell? ⟨g, o + i, none⟩ = some (.string k) := fun w' q => by obtain ⟨_, _, he, h⟩ := X w' q; cases he; exact h
    have q6d : Qt w w6.drew := q6.trans (Qt.drew Qt.refl)
    simp (maxSteps := 1000000) (disch := omega) only [genAll, decAll, tk_nil, st3]
    refine drawQ w q6d ?_
    generalize w6.drew = wd at *
    by_cases h100 : 100 < k.size
    · simp (maxSteps := 1000000) (disch := omega) only [genAll, decAll, tk_nil, st3, qkld9 X0, takeG_u, guardK_u]
      exact hK _ q6d
    by_cases h0 : 0 < i
    case neg =>
      simp (maxSteps := 1000000) (disch := omega) only [genAll, decAll, tk_nil, st3, qkld9 X0, takeG_u, guardK_u]
      exact ⟨⟨i + 1, by go_num, by omega, q6d⟩, by simp [rel, intOf]; omega⟩
    have Y1 := Y0 h0
    cases hl : ltS pk k with
    | true =>
      simp (maxSteps := 1000000) (disch := omega) only [genAll, decAll, tk_nil, st3, qkld9 X0, hn1, qkld9 Y1, less_lt, hl]
      exact ⟨⟨i + 1, by go_num, by omega, q6d⟩, by simp [rel, intOf]; omega⟩
    | false =>
      simp (maxSteps := 1000000) (disch := omega) only [genAll, decAll, tk_nil, st3, qkld9 X0, hn1, qkld9 Y1, less_lt, hl]
      exact hK _ q6d
  have h64 := hr.len
  have okr := riseH_ok hr
  have nr := riseH_n hr
  have vr := riseH_v hr
  simp (maxSteps := 1000000) (disch := omega) only [genAll, decAll, tk_nil, st3]
  refine ck15 (ofRows_any (ha.quiet q6) (by omega) nr ?_)
  intro A7 c7 rs7 w7 m7 a7 q7
  have q07 := q6.trans q7
  have l7 : rs.length = rs7.length := by have := congrArg List.length m7; simpa using this.symm
  have ok7 : ∀ r ∈ rs7, OkS r := okS_sub okr (fun x hx => m7 ▸ hx)
  simp (maxSteps := 1000000) (disch := omega) only [genAll, decAll, tk_nil, st3]
  refine ck16 (dOf_any (ha.1.quiet q07) (by omega) ?_)
  intro A8 w8 r8 q8 _
  have q08 := q07.trans q8
  simp (maxSteps := 1000000) (disch := omega) only [genAll, decAll, tk_nil, st3]
  have lm : rs.length = (rs.map mkH).length := (List.length_map ..).symm
  refine ck12 (ofM_len lm.symm r8 (by omega) ?_)
  intro A9 c9 w9 r9 q9
  have q09 := q08.trans q9
  simp (maxSteps := 1000000) (disch := omega) only [genAll, decAll, tk_nil, st3]
  rw [l7]
  refine ck17 (marksR_any (a7.1.quiet (q8.trans q9)) (by omega) ?_)
  rw [mkH_rowP rs7, m7, ← mkH_rowP rs]
  intro A10 c10 w10 r10 q10
  have q010 := q09.trans q10
  have r9 := r9.quiet q10
  have en : ((rs7.length : Int) != (rs7.length : Int)) = false := bne_self_eq_false _
  simp (maxSteps := 1000000) (disch := omega) only [genAll, decAll, tk_nil, st3, en]
  refine loopK1 (fun v w' => ∃ i : Nat, v = .int .i64 i ∧ i ≤ rs7.length ∧ Qt w10 w') (fun v _ => rs7.length - (intOf v).toNat) ⟨0, rfl, by omega, Qt.refl⟩ ?_
  rintro _ _ w11 ⟨i, rfl, hi, q11⟩
  have q011 := q010.trans q11
  by_cases hlt : i < rs7.length
  · have hlt' : i < (rs.map mkH).length := by omega
    have X := fun w' (q : Quiets w10 w') => mark_at (Reads.quiet r9 q) hlt'
    have Y := fun w' (q : Quiets w10 w') => mark_at (Reads.quiet r10 q) hlt'
    obtain ⟨g, o, hA, _⟩ := X w10 Qt.refl
    obtain ⟨g2, o2, hB, _⟩ := Y w10 Qt.refl
    subst hA hB
    generalize (rs.map mkH).getD i default = m at *
    have X1 : ∀ w', Quiets w10 w' → w'.cell? ⟨g, o + i * 5, none⟩ = some (.string m.1) ∧ w'.cell? ⟨g, o + i * 5 + 1, none⟩ = some (.int .i64 m.2.1) ∧ w'.cell? ⟨g, o + i * 5 + 2, none⟩ = some (.int .i64 m.2.2.1) ∧ w'.cell? ⟨g, o + i * 5 + 3, none⟩ = some (.int .i64 m.2.2.2.1) ∧ w'.cell? ⟨g, o + i * 5 + 4, none⟩ = some (.string m.2.2.2.2) := fun w' q => by obtain ⟨_, _, he, z⟩ := X w' q; cases he; exact z
    have Y1 : ∀ w', Quiets w10 w' → w'.cell? ⟨g2, o2 + i * 5, none⟩ = some (.string m.1) ∧ w'.cell? ⟨g2, o2 + i * 5 + 1, none⟩ = some (.int .i64 m.2.1) ∧ w'.cell? ⟨g2, o2 + i * 5 + 2, none⟩ = some (.int .i64 m.2.2.1) ∧ w'.cell? ⟨g2, o2 + i * 5 + 3, none⟩ = some (.int .i64 m.2.2.2.1) ∧ w'.cell? ⟨g2, o2 + i * 5 + 4, none⟩ = some (.string m.2.2.2.2) := fun w' q => by obtain ⟨_, _, he, z⟩ := Y w' q; cases he; exact z
    have q11d : Qt w10 w11.drew := q11.trans (Qt.drew Qt.refl)
    simp (maxSteps := 1000000) (disch := omega) only [genAll, decAll, tk_nil, st3]
    refine drawQ w10 q11d ?_
    generalize w11.drew = wd at *
    simp (maxSteps := 1000000) (disch := omega) only [genAll, decAll, tk_nil, st3, qkld40 X1, qkld40 Y1, qkbneM]
    exact ⟨⟨i + 1, by go_num, by omega, q11d⟩, by simp [rel, intOf]; omega⟩
  simp (maxSteps := 1000000) (disch := omega) only [genAll, decAll, tk_nil, st3]
  rw [← l7]
  refine ck19 (send_any (ha.quiet q011) (hb.quiet q011) (by omega) (by omega) nr vr hr.up um ?_)
  intro A12 rs12 w12 m12 a12 q12
  have q012 := q011.trans q12
  simp (maxSteps := 1000000) (disch := omega) only [genAll, decAll, tk_nil, st3]
  refine ck12 (ofM_any (hb.quiet q012) (by omega) ?_)
  intro A13 c13 w13 r13 q13
  have q013 := q012.trans q13
  have a7w := a7.quiet ((q8.trans q9).trans (q10.trans (q11.trans (q12.trans q13))))
  simp (maxSteps := 1000000) (disch := omega) only [genAll, decAll, tk_nil, st3]
  rw [l7]
  refine ck20 (sendR_any a7w r13 (by omega) (by omega) ?_)
  rw [m7]
  intro A14 c14 rs14 w14 m14 s14 a14 q14
  have q014 := q013.trans q14
  simp (maxSteps := 1000000) (disch := omega) only [genAll, decAll, tk_nil, st3]
  have l12 := len_sub m12
  have l14 : rs14.length ≤ rs.length := len_sub m14
  refine ck18 (rows14_any (a12.quiet (q13.trans q14)) a14 (okS_sub okr (fun x hx => (List.mem_filter.1 (m12 ▸ hx)).1)) (okS_sub okr (fun x hx => (List.mem_filter.1 (m14 ▸ hx)).1)) (by omega) (by omega) ?_)
  rw [m12, m14, sameRs_self]
  intro w15 q15
  have q015 := q014.trans q15
  simp (maxSteps := 1000000) (disch := omega) only [genAll, decAll, tk_nil, st3]
  rw [← l7]
  refine ck22 (want_any (ha.1.quiet q015) (hb.quiet q015) (by omega) (by omega) hr.up um ?_)
  intro A16 w16 r16 q16
  have q016 := q015.trans q16
  simp (maxSteps := 1000000) (disch := omega) only [genAll, decAll, tk_nil, st3]
  refine ck12 (ofM_any (hb.quiet q016) (by omega) ?_)
  intro A17 c17 w17 r17 q17
  have q017 := q016.trans q17
  have a7x := a7w.quiet ((q14.trans q15).trans (q16.trans q17))
  simp (maxSteps := 1000000) (disch := omega) only [genAll, decAll, tk_nil, st3]
  rw [l7]
  refine ck23 (wantR_any a7x.1 r17 (by omega) (by omega) ?_)
  rw [m7]
  intro A18 c18 w18 r18 q18
  have q018 := q017.trans q18
  simp (maxSteps := 1000000) (disch := omega) only [genAll, decAll, tk_nil, st3]
  have lw : (wantL (rs.map rowP) ms).length ≤ ms.length := by
    unfold wantL
    rw [List.length_map]
    exact List.length_filter_le ..
  refine ck21 (texts_alike (r16.quiet (q17.trans q18)) r18 (by omega) ?_)
  intro w19 q19
  have q019 := q018.trans q19
  simp (maxSteps := 1000000) (disch := omega) only [genAll, decAll, tk_nil, st3]
  rw [← l7]
  refine ck24 (pick_any (ha.quiet q019) (hc.quiet q019) (by omega) (by omega) nr vr ?_)
  intro A20 rs20 w20 m20 a20 q20
  have q020 := q019.trans q20
  simp (maxSteps := 1000000) (disch := omega) only [genAll, decAll, tk_nil, st3]
  rw [l7]
  refine ck25 (pickR_any (a7x.quiet ((q18.trans q19).trans q20)) (hc.quiet q020) (by omega) (by omega) ?_)
  rw [m7]
  intro A21 c21 rs21 w21 m21 s21 a21 q21
  have l20 := len_sub m20
  have l21 : rs21.length ≤ rs.length := len_sub m21
  simp (maxSteps := 1000000) (disch := omega) only [genAll, decAll, tk_nil, st3]
  refine ck18 (rows14_any (a20.quiet q21) a21 (okS_sub okr (fun x hx => (List.mem_filter.1 (m20 ▸ hx)).1)) (okS_sub okr (fun x hx => (List.mem_filter.1 (m21 ▸ hx)).1)) (by omega) (by omega) ?_)
  rw [m20, m21, sameRs_self]
  intro w22 q22
  simp (maxSteps := 1000000) (disch := omega) only [genAll, decAll, tk_nil, st3]
  exact hK _ ((q020.trans q21).trans q22)
end Go.Proofs.YtpjeohellehgjaaDoor
