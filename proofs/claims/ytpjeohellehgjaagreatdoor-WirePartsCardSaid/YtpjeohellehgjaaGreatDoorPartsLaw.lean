/- WireParts: the walk. Conditions: the rows read, the numbers are int64. -/
import Derived.Test.YtpjeohellehgjaaGreatDoorBackLaw
set_option linter.unusedVariables false
set_option linter.unusedSimpArgs false
set_option maxRecDepth 100000
namespace Go.Proofs.YtpjeohellehgjaaGreatDoor
open Go.RowKit Go.Cn Go.Cn.Num
theorem parts_back {v : Val} {u : Stm} {r : RowD} (v1 : in64 v.1) (v2 : in64 v.2.1) (v3 : ∀ x ∈ v.2.2.2, in64 x) (v4 : v.2.2.2.length ≤ 16) (v5 : v.2.2.1.size ≤ 200) (u1 : in64 u.1) (u2 : in64 u.2.1) (u3 : in64 u.2.2.1) (u4 : u.2.2.2.size ≤ 100) (hok : RowOk r) (hn : r.2.2.length ≤ 32) (h4 : ∀ a ∈ r.2.2, a.2.1 = 3 → a.2.2.2.2.length ≤ 16) :
    valD 0 (valB v ++ stmB u ++ rowB r) = (normV v, 0, stmB u ++ rowB r) ∧ stmD 0 (stmB u ++ rowB r) = (u, 0, rowB r) ∧ rowD 0 (rowB r) = (normR r, 0, []) := by
  refine ⟨?_, ?_, ?_⟩
  · rw [List.append_assoc]; exact valD_put v v1 v2 v3 (fun _ => v4) (by omega) _
  · exact stmD_put u u1 u2 u3 (by omega) _
  · have := rowD_put r hok hn h4 []
    rwa [List.append_nil] at this
theorem kbeqS (a : Stm) (K : Value → World → Prop) (w : World) : BinK Tryz.prog .eql 23 (stV a) (stV a) K w = K (.bool true) w := by
  unfold BinK; (first | (go_simp; rfl) | (go_simp; done))
theorem qkbeqS (a : Stm) {K : Value → Prop} {T : Nat → Prop} {w1 : World} : BinT Tryz.prog (Chs T w1) .eql 23 (stV a) (stV a) (@Cn.hid _ ⟨K⟩) = K (.bool true) := tk_B (fun w' => (kbeqS a (fun v' w'' => v' = (.bool true) ∧ w'' = w') w').mpr ⟨rfl, rfl⟩)
set_option maxHeartbeats 8000000 in
theorem wireParts_any {v : Val} {V : Option Addr} {cv : Nat} {u : Stm} {key : ByteArray} {s : Stm} {hs : List AttH} {A : Option Addr} {c : Nat} {w : World} {K : Value → World → Prop} (hm : MaxAt w) (hv : Reads w V (ints v.2.2.2)) (v1 : in64 v.1) (v2 : in64 v.2.1) (v3 : ∀ x ∈ v.2.2.2, in64 x) (u1 : in64 u.1) (u2 : in64 u.2.1) (u3 : in64 u.2.2.1) (ha : AttsAt w A hs) (hok : RowOk (key, s, hs.map attP)) (hK : ∀ w', Qt w w' → K (.bool true) w') : CallK Tryz.prog 6 #[vv v V cv, stV u, rowV key s A hs.length c] K w := by
  refine F6_calls _ _ _ _ _ ?_; unfold F6
  obtain ⟨q1, b1, e1⟩ := newb w #[.int .i64 v.1, .int .i64 v.2.1, .string v.2.2.1, .slice V v.2.2.2.length cv] 61
  simp (maxSteps := 1000000) (disch := omega) only [genAll, decAll, tk_nil, st6]
  generalize (w.alloc (.cells #[.int .i64 v.1, .int .i64 v.2.1, .string v.2.2.1, .slice V v.2.2.2.length cv] 61)) = w1 at *
  obtain ⟨q2, b2, e2⟩ := newb w1 #[.int .i64 u.1, .int .i64 u.2.1, .int .i64 u.2.2.1, .string u.2.2.2] 23
  rw [e1] at b2 e2
  generalize (w1.alloc (.cells #[.int .i64 u.1, .int .i64 u.2.1, .int .i64 u.2.2.1, .string u.2.2.2] 23)) = w2 at *
  obtain ⟨q3, b3, e3⟩ := newb w2 #[.string key, .int .i64 s.1, .int .i64 s.2.1, .int .i64 s.2.2.1, .string s.2.2.2, .slice A hs.length c] 26
  rw [e2] at b3 e3
  generalize (w2.alloc (.cells #[.string key, .int .i64 s.1, .int .i64 s.2.1, .int .i64 s.2.2.1, .string s.2.2.2, .slice A hs.length c] 26)) = w3 at *
  generalize w.heap.size = b at *
  have q03 := (q1.trans q2).trans q3
  have XV := fun w' (q : Qt w3 w') => cell4 (q.heap (q3.heap (q2.heap b1 (fun h => h)) (fun h => h)) (fun h => h))
  have XU := fun w' (q : Qt w3 w') => cell4 (q.heap (q3.heap b2 (fun h => h)) (fun h => h))
  have XR := fun w' (q : Qt w3 w') => cell6 (q.heap b3 (fun h => h))
  refine ck8 (known_any (hm.quiet q03) ?_)
  intro w4 q4
  have q04 := q03.trans q4
  obtain ⟨x0, x1, x2, x3⟩ := XV w4 q4
  simp (maxSteps := 1000000) (disch := omega) only [genAll, decAll, tk_nil, st6, x0, x1, x2, x3]
  refine ck24 (few10 ?_)
  intro f w5 q5 hf
  have q35 := q4.trans q5
  have q05 := q04.trans q5
  cases f with
  | false =>
    simp (maxSteps := 1000000) (disch := omega) only [genAll, decAll, tk_nil, st6, guardK_u]
    exact hK _ q05
  | true =>
  obtain ⟨f1, f2⟩ := hf.1 rfl
  clear hf
  obtain ⟨x0, x1, x2, x3⟩ := XV w5 q35
  by_cases hL : 16 < v.2.2.2.length
  · simp (maxSteps := 1000000) (disch := omega) only [genAll, decAll, tk_nil, st6, guardK_u, x3]
    exact hK _ q05
  obtain ⟨y0, y1, y2, y3⟩ := XU w5 q35
  by_cases hU : 100 < u.2.2.2.size
  · simp (maxSteps := 1000000) (disch := omega) only [genAll, decAll, tk_nil, st6, guardK_u, x3, y3]
    exact hK _ q05
  obtain ⟨z0, z1, z2, z3, z4, z5⟩ := XR w5 q35
  simp (maxSteps := 1000000) (disch := omega) only [genAll, decAll, tk_nil, st6, guardK_u, x3, y3, z0, z1, z2, z3, z4, z5]
  refine ck9 (fewR_any (ha.quiet q05) ?_)
  intro f w6 q6 hf
  have q36 := q35.trans q6
  have q06 := q05.trans q6
  cases f with
  | false =>
    simp (maxSteps := 1000000) (disch := omega) only [genAll, decAll, tk_nil, st6, guardK_u]
    exact hK _ q06
  | true =>
  obtain ⟨g1, g2, g3, g4⟩ := hf rfl
  simp only at g1 g2 g3 g4
  have hsm : SmallR key s hs := ⟨g1, g2, g3, g4, hok⟩
  obtain ⟨z0, z1, z2, z3, z4, z5⟩ := XR w6 q36
  by_cases hN : 32 < hs.length
  · simp (maxSteps := 1000000) (disch := omega) only [genAll, decAll, tk_nil, st6, guardK_u, z5]
    exact hK _ q06
  simp (maxSteps := 1000000) (disch := omega) only [genAll, decAll, tk_nil, st6, guardK_u, z5]
  have ha6 := ha.quiet q06
  refine loopK1 (fun x w' => ∃ i : Nat, x = .int .i64 i ∧ i ≤ hs.length ∧ (∀ h ∈ hs.take i, h.2.1.2.2.2.length ≤ 16) ∧ w' = w6) (fun x _ => hs.length - (intOf x).toNat) ⟨0, rfl, by omega, fun h hh => (by cases hh), rfl⟩ ?_
  rintro _ _ w7 ⟨i, rfl, hi, hall, hw7⟩
  rw [hw7]
  clear hw7 w7
  by_cases hlt : i < hs.length
  · obtain ⟨g, o, rfl, a0, a1, a2, a3, a4⟩ := att_at ha6.1 hlt
    have hmt : ∀ r ∈ hs.take (i + 1), r ∈ hs.take i ∨ r = hs.getD i default := fun r hr => by
      rw [List.take_succ_eq_append_getElem hlt] at hr
      rcases List.mem_append.1 hr with hr | hr
      · exact .inl hr
      · exact .inr (by simpa [hlt] using hr)
    generalize hs.getD i default = y at *
    by_cases h16 : 16 < y.2.1.2.2.2.length
    · simp (maxSteps := 1000000) (disch := omega) only [genAll, decAll, tk_nil, st6, z5, a4]
      exact hK _ q06
    · simp (maxSteps := 1000000) (disch := omega) only [genAll, decAll, tk_nil, st6, z5, a4]
      refine ⟨⟨i + 1, by go_num, by omega, fun h hh => ?_, rfl⟩, by simp [rel, intOf]; omega⟩
      rcases hmt h hh with hh | rfl
      · exact hall h hh
      · omega
  obtain rfl : i = hs.length := by omega
  rw [List.take_length] at hall
  clear hlt hi
  have he := enc_new w6
  have q7 : Qt w6 (w6.alloc (.cells #[.slice none 0 0] 67)) := Chg.alloc Qt.refl _
  have q37 := q36.trans q7
  have q07 := q06.trans q7
  obtain ⟨x0, x1, x2, x3⟩ := XV _ q37
  simp (maxSteps := 1000000) (disch := omega) only [genAll, decAll, tk_nil, st6, z5, x0, x1, x2, x3]
  have hge : w.heap.size ≤ w6.heap.size := q06.size
  have hes : ∀ k, ES w6.heap.size none k → w6.heap.size ≤ k := fun k hk => by
    rcases hk with hk | hk
    · omega
    · cases hk
  generalize (w6.alloc (.cells #[.slice none 0 0] 67)) = w7 at *
  generalize hg : w6.heap.size = g at *
  have st := EncTo.start he
  refine ck25 (putV_any st (hv.quiet q07) (Sep.low hv.low (fun k hk => by have := hes k hk; omega)) v1 v2 v3 (by omega) (by omega) (by simp) ?_)
  intro F8 w8 h8
  rw [List.nil_append] at h8
  have b8 : ∀ k, ES g F8 k → g ≤ k := fun k hk => (h8.es k hk).elim (hes k) (fun e => by have := q7.size; omega)
  have qq8 : Qt w3 w8 := Qt.then q37 h8.chg (fun k hk => by have := hes k hk; have := q36.size; omega)
  have q08 : Qt w w8 := q03.trans qq8
  obtain ⟨y0, y1, y2, y3⟩ := XU w8 qq8
  simp (maxSteps := 1000000) (disch := omega) only [genAll, decAll, tk_nil, st6, y0, y1, y2, y3]
  refine ck26 (putS_any h8 u1 u2 u3 (by omega) (by have := valB_len (v := v) v1 v2 v3 (by omega) (by omega); omega) ?_)
  intro F9 w9 h9
  have qq9 : Qt w3 w9 := Qt.then q37 h9.chg (fun k hk => by have := hes k hk; have := q36.size; omega)
  have q09 : Qt w w9 := q03.trans qq9
  have b9 : ∀ k, ES g F9 k → g ≤ k := fun k hk => (h9.es k hk).elim (hes k) (fun e => by have := q7.size; omega)
  obtain ⟨z0, z1, z2, z3, z4, z5⟩ := XR w9 qq9
  simp (maxSteps := 1000000) (disch := omega) only [genAll, decAll, tk_nil, st6, z0, z1, z2, z3, z4, z5]
  have lv := valB_len (v := v) v1 v2 v3 (by omega) (by omega)
  have lu := stmB_len (s := u) u1 u2 u3 (by omega)
  have lr := rowB_len hsm
  refine ck27 (putR_any h9 (ha.quiet q09) (ha.low (fun k hk => by have := b9 k hk; omega)) hsm (by rw [List.length_append]; omega) ?_)
  intro F10 w10 h10
  have qq10 : Qt w3 w10 := Qt.then q37 h10.chg (fun k hk => by have := hes k hk; have := q36.size; omega)
  have q010 : Qt w w10 := q03.trans qq10
  have he10 := h10.here
  have XV1 : ∀ w', Quiets w10 w' → _ := fun w' q => XV w' (qq10.trans q)
  have XU1 : ∀ w', Quiets w10 w' → _ := fun w' q => XU w' (qq10.trans q)
  clear h8 h9 h10 he st
  have qd : Qt w10 w10.drew := Qt.drew Qt.refl
  refine drawQ w10 qd ?_
  generalize w10.drew = wd at *
  simp (maxSteps := 1000000) (disch := omega) only [genAll, decAll, tk_nil, st6, qkld61 XV1, qkld23 XU1]
  refine ⟨?_, trivial⟩
  refine ck29 (of12 ?_)
  intro w11 q11
  have qd11 := qd.trans q11
  simp (maxSteps := 1000000) (disch := omega) only [genAll, decAll, tk_nil, st6]
  refine ⟨qd11, ?_, trivial⟩
  have q011 := q010.trans qd11
  refine ck28 (putVR_any (hv.quiet q011) v1 v2 v3 (by omega) (by omega) ?_)
  intro A12 c12 F12 w12 o12 q12 f12
  have qd12 := qd11.trans q12
  simp (maxSteps := 1000000) (disch := omega) only [genAll, decAll, tk_nil, st6]
  refine ⟨qd12, ?_, trivial⟩
  refine ck31 (stOf_any ?_)
  intro w13 q13
  have qd13 := qd12.trans q13
  simp (maxSteps := 1000000) (disch := omega) only [genAll, decAll, tk_nil, st6]
  refine ⟨qd13, ?_, trivial⟩
  refine ck30 (putSR_any u1 u2 u3 (by omega) ?_)
  intro A14 c14 F14 w14 o14 q14 f14
  have qd14 := qd13.trans q14
  have f12' : ∀ k, F12 = some k → w10.heap.size ≤ k := fun k hk => by have := f12 k hk; have := qd11.size; omega
  simp (maxSteps := 1000000) (disch := omega) only [genAll, decAll, tk_nil, st6]
  refine ⟨qd14, ?_, trivial⟩
  refine appB (ownB_quiet o12 (q13.trans q14)) (reads_own o14) (by omega) ?_
  intro A15 c15 F15 w15 o15 k15 f15
  obtain ⟨qd15, f15'⟩ := up_qt qd14 k15 f12' f15
  simp (maxSteps := 1000000) (disch := omega) only [genAll, decAll, tk_nil, st6]
  refine ⟨qd15, ?_⟩
  obtain ⟨z0, z1, z2, z3, z4, z5⟩ := XR w15 (qq10.trans qd15)
  simp (maxSteps := 1000000) (disch := omega) only [genAll, decAll, tk_nil, st6, z0, z1, z2, z3, z4, z5]
  have q015 := q010.trans qd15
  refine ck12 (ofR_any (ha.quiet q015) (by omega) ?_)
  intro A16 c16 w16 a16 q16 _
  simp (maxSteps := 1000000) (disch := omega) only [genAll, decAll, tk_nil, st6]
  refine ck32 (putRR_any a16 hsm ?_)
  intro A17 c17 F17 w17 o17 q17 f17
  have qd17 := (qd15.trans q16).trans q17
  simp (maxSteps := 1000000) (disch := omega) only [genAll, decAll, tk_nil, st6]
  refine appB (ownB_quiet o15 (q16.trans q17)) (reads_own o17) (by rw [List.length_append]; omega) ?_
  intro A18 c18 F18 w18 o18 k18 f18
  obtain ⟨qd18, f18'⟩ := up_qt qd17 k18 f15' f18
  have r18 := reads_own o18
  have he18 := he10.chg qd18 (fun h => h) (fun _ _ h => h)
  have lbs : (valB v ++ stmB u ++ rowB (key, s, hs.map attP)).length ≤ 30000 := by simp only [List.length_append]; omega
  have hparts := parts_back (v := v) (u := u) (r := (key, s, hs.map attP)) v1 v2 v3 (by omega) (by omega) u1 u2 u3 (by omega) hok (by rw [List.length_map]; omega) (fun a ha' h3 => by
    obtain ⟨x, hx, rfl⟩ := List.mem_map.1 ha'
    exact hall x hx)
  generalize hbs : valB v ++ stmB u ++ rowB (key, s, hs.map attP) = bs at *
  have q018 := q010.trans qd18
  have qd' : Qt w18 w18.drew := Qt.drew Qt.refl
  refine drawQ w18 qd' ?_
  generalize w18.drew = we at *
  refine ⟨.string (txt bs), fun w' hq => conv_run Tryz.underlying29 Tryz.underlying5 Tryz.underlying9 (r18.quiet hq), ?_⟩
  simp (maxSteps := 1000000) (disch := omega) only [genAll, decAll, tk_nil, st6]
  refine ⟨?_, trivial⟩
  refine ck33 (enc_bytes (he18.chg qd' (fun h => h) (fun _ _ h => h)) (by omega) ?_)
  intro A19 c19 w19 r19 q19
  have qe19 : Qt w18 w19 := qd'.trans q19
  simp (maxSteps := 1000000) (disch := omega) only [genAll, decAll, tk_nil, st6]
  refine ⟨qe19, ?_⟩
  refine ⟨?_, trivial⟩
  refine convK Tryz.underlying29 Tryz.underlying5 Tryz.underlying9 r19 ?_
  have el : (!((txt bs).toList == (txt bs).toList)) = false := by rw [beq_self_eq_true]; rfl
  simp (maxSteps := 1000000) (disch := omega) only [genAll, decAll, tk_nil, st6, el]
  refine ⟨qe19, ?_⟩
  obtain ⟨p1, p2, p3⟩ := hparts
  have q019 := q018.trans qe19
  have qq19 : Qt w3 w19 := (qq10.trans qd18).trans qe19
  have nv1 : (normV v).1 = v.1 := rfl
  refine ck34 (of_any2 (r18.quiet qe19) (by omega) ?_)
  intro gd D w20 d20 q20 hgd hD
  have qq20 := qq19.trans q20
  simp (maxSteps := 1000000) (disch := omega) only [genAll, decAll, tk_nil, st6]
  refine ck35 (takeV_any d20 (by omega) (fun k hk => (hD k hk).2) ?_)
  rw [p1]
  intro A21 c21 w21 d21 r21 s21n k21
  have qq21 : Qt w3 w21 := Qt.then qq20 k21 (fun k hk => by have := qq19.size; omega)
  obtain ⟨q22, b22, e22⟩ := newb w21 #[.int .i64 (normV v).1, .int .i64 (normV v).2.1, .string (normV v).2.2.1, .slice A21 (normV v).2.2.2.length c21] 61
  simp (maxSteps := 1000000) (disch := omega) only [genAll, decAll, tk_nil, st6]
  have qq22 := qq21.trans q22
  have d22 := d21.chg q22 (fun h => h) (fun _ _ h => h)
  have r22 := r21.quiet q22
  generalize (w21.alloc (.cells #[.int .i64 (normV v).1, .int .i64 (normV v).2.1, .string (normV v).2.2.1, .slice A21 (normV v).2.2.2.length c21] 61)) = w22 at *
  generalize hb21 : w21.heap.size = bv at *
  have s20 := q20.size
  have s21 := k21.size
  have s22 := blk_lt b22
  refine ck36 (takeS_any d22 (by rw [List.length_append]; omega) (fun k hk => by have := (hD k hk).2; omega) ?_)
  rw [p2]
  intro w23 d23 k23
  have qq23 : Qt w3 w23 := Qt.then qq22 k23 (fun k hk => by have := qq19.size; omega)
  have b23 := k23.heap b22 (by have := DecAt.lt d20; omega)
  have r23 := r22.sep k23 (fun hx ad e h => by have h1 := s21n (fun hz => hx (by rw [hz]; rfl)) ad e; have := DecAt.lt d20; omega)
  obtain ⟨q24, b24, e24⟩ := newb w23 #[.int .i64 u.1, .int .i64 u.2.1, .int .i64 u.2.2.1, .string u.2.2.2] 23
  simp (maxSteps := 1000000) (disch := omega) only [genAll, decAll, tk_nil, st6]
  have qq24 := qq23.trans q24
  have d24 := d23.chg q24 (fun h => h) (fun _ _ h => h)
  have r24 := r23.quiet q24
  have bv24 := q24.heap b23 (fun h => h)
  generalize (w23.alloc (.cells #[.int .i64 u.1, .int .i64 u.2.1, .int .i64 u.2.2.1, .string u.2.2.2] 23)) = w24 at *
  generalize hb23 : w23.heap.size = bu at *
  have s23 := k23.size
  have s24 := blk_lt b24
  have lr2 := rowB_len hsm
  refine ck37 (takeR_any d24 (Nat.le_trans lr2 (by omega)) (fun k hk => by have := (hD k hk).2; omega) ?_)
  rw [p3]
  intro hs25 A25 c25 w25 m25 d25 a25 as25 k25
  have qq25 : Qt w3 w25 := Qt.then qq24 k25 (fun k hk => by have := qq19.size; omega)
  have bv25 := k25.heap bv24 (by have := DecAt.lt d20; omega)
  have bu25 := k25.heap b24 (by have := DecAt.lt d20; omega)
  have r25 := r24.sep k25 (fun hx ad e h => by have h1 := s21n (fun hz => hx (by rw [hz]; rfl)) ad e; have := DecAt.lt d20; omega)
  obtain ⟨q26, b26, e26⟩ := newb w25 #[.string (normR (key, s, hs.map attP)).1, .int .i64 (normR (key, s, hs.map attP)).2.1.1, .int .i64 (normR (key, s, hs.map attP)).2.1.2.1, .int .i64 (normR (key, s, hs.map attP)).2.1.2.2.1, .string (normR (key, s, hs.map attP)).2.1.2.2.2, .slice A25 hs25.length c25] 26
  simp (maxSteps := 1000000) (disch := omega) only [genAll, decAll, tk_nil, st6]
  have qq26 := qq25.trans q26
  have d26 := d25.chg q26 (fun h => h) (fun _ _ h => h)
  have r26 := r25.quiet q26
  have a26 := a25.quiet q26
  have bv26 := q26.heap bv25 (fun h => h)
  have bu26 := q26.heap bu25 (fun h => h)
  generalize (w25.alloc (.cells #[.string (normR (key, s, hs.map attP)).1, .int .i64 (normR (key, s, hs.map attP)).2.1.1, .int .i64 (normR (key, s, hs.map attP)).2.1.2.1, .int .i64 (normR (key, s, hs.map attP)).2.1.2.2.1, .string (normR (key, s, hs.map attP)).2.1.2.2.2, .slice A25 hs25.length c25] 26)) = w26 at *
  generalize w25.heap.size = br at *
  have q026 : Qt w w26 := q03.trans qq26
  have hsame := normR_same (key, s, hs.map attP)
  have hcmp := normV_cmp v
  have hsmall : SmallD 30000 (normR (key, s, hs.map attP)) := by
    have h := rowD_small (N := 30000) (e := 0) (r := rowB (key, s, hs.map attP)) (by omega)
    rw [p3] at h
    exact h
  generalize normR (key, s, hs.map attP) = d at *
  obtain ⟨k2, s2, as2⟩ := d
  simp only at m25 b26 hsame hsmall ⊢
  subst m25
  have YV : ∀ w', Quiets w26 w' → _ := fun w' q => cell4 (Chg.heap q bv26 (fun h => h))
  have YU : ∀ w', Quiets w26 w' → _ := fun w' q => cell4 (Chg.heap q bu26 (fun h => h))
  have YR : ∀ w', Quiets w26 w' → _ := fun w' q => cell6 (Chg.heap q b26 (fun h => h))
  have XV2 : ∀ w', Quiets w26 w' → _ := fun w' q => XV w' (qq26.trans q)
  have XU2 : ∀ w', Quiets w26 w' → _ := fun w' q => XU w' (qq26.trans q)
  have XR2 : ∀ w', Quiets w26 w' → _ := fun w' q => XR w' (qq26.trans q)
  have qx : Qt w26 w26.drew := Qt.drew Qt.refl
  refine drawQ w26 qx ?_
  generalize w26.drew = wx at *
  have ek : (v.1 == v.1) = true := beq_self_eq_true _
  simp (maxSteps := 1000000) (disch := omega) only [genAll, decAll, tk_nil, st6, nv1, ek, qkld3 (fun w' q => (YV w' q).1), qkld3 (fun w' q => (XV2 w' q).1), qkld61 YV, qkld61 XV2]
  refine ⟨?_, trivial⟩
  refine ck29 (of12 (a := normV v) ?_)
  intro w27 q27
  have qx27 := qx.trans q27
  simp (maxSteps := 1000000) (disch := omega) only [genAll, decAll, tk_nil, st6, qkld61 XV2]
  refine ⟨qx27, ?_, trivial⟩
  refine ck29 (of12 ?_)
  intro w28 q28
  have qx28 := qx27.trans q28
  simp (maxSteps := 1000000) (disch := omega) only [genAll, decAll, tk_nil, st6]
  refine ⟨qx28, ?_, trivial⟩
  have ln : (normV v).2.2.2.length ≤ 16 := by
    unfold normV
    by_cases h3 : v.1 = 3
    · simp only [h3, if_true]; omega
    · simp only [h3, if_false]; exact Nat.zero_le _
  refine ck38 (cmp14 (a := normV v) (b := v) (r26.quiet qx28) (hv.quiet (q026.trans qx28)) (by omega) (by omega) ?_)
  rw [hcmp]
  intro w29 q29
  have qx29 := qx28.trans q29
  have e0 : ((0 : Int) == 0) = true := rfl
  simp (maxSteps := 1000000) (disch := omega) only [genAll, decAll, tk_nil, st6, e0, qkld23 YU, qkld23 XU2, qkbeqS]
  refine ⟨qx29, ?_⟩
  simp (maxSteps := 1000000) (disch := omega) only [genAll, decAll, tk_nil, st6, qkld26 YR, qkld26 XR2]
  refine ⟨?_, trivial⟩
  have a29 := a26.quiet qx29
  have hs8 : OkS (k2, s2, A25, c25, hs25) := oks_of (by omega) hsmall
  have hl8 : hs25.length ≤ 100000 := hs8.2
  refine ck12 (ofR_any a29 hl8 ?_)
  intro A30 c30 w30 a30 q30 _
  have qx30 := qx29.trans q30
  simp (maxSteps := 1000000) (disch := omega) only [genAll, decAll, tk_nil, st6]
  refine ⟨qx30, ?_, trivial⟩
  refine ck12 (ofR_any (ha.quiet (q026.trans qx30)) (by omega) ?_)
  intro A31 c31 w31 a31 q31 _
  have qx31 := qx30.trans q31
  simp (maxSteps := 1000000) (disch := omega) only [genAll, decAll, tk_nil, st6]
  refine ⟨qx31, ?_, trivial⟩
  have ga : RowGood w31 k2 s2 A30 hs25 := ⟨a30.quiet q31, hs8.1, by omega⟩
  have gb : RowGood w31 key s A31 hs := good_of (r := (key, s, A31, c31, hs)) a31 hsm
  refine ck14 (sameR_any ga gb ?_)
  rw [hsame]
  intro w32 q32
  have qx32 := qx31.trans q32
  have d32 := d26.chg qx32 (fun h => h) (fun _ _ h => h)
  simp (maxSteps := 1000000) (disch := omega) only [genAll, decAll, tk_nil, st6]
  refine ⟨qx32, ?_⟩
  refine ⟨?_, trivial⟩
  refine ck39 (left_any d32 ?_)
  rw [show leftD 0 [] = 0 from rfl]
  simp (maxSteps := 1000000) (disch := omega) only [genAll, decAll, tk_nil, st6, e0]
  refine ⟨qx32, ?_⟩
  refine ⟨?_, trivial⟩
  refine ck40 (err_any d32 ?_)
  simp (maxSteps := 1000000) (disch := omega) only [genAll, decAll, tk_nil, st6, e0]
  exact ⟨qx32, hK _ (q026.trans qx32)⟩
end Go.Proofs.YtpjeohellehgjaaGreatDoor
