/- ElectAny: the walk. Conditions: rows read. -/
import Derived.Test.YtpjeohellehgjaaDoorOrdR
import Derived.Test.YtpjeohellehgjaaDoorOneLaw
set_option linter.unusedVariables false
set_option linter.unusedSimpArgs false
set_option maxRecDepth 100000
namespace Go.Proofs.YtpjeohellehgjaaDoor
open Go.RowKit Go.Cn
theorem repR_any {rs : List RowH} {A : Option Addr} {c : Nat} {w : World} {K : Value → World → Prop} (ha : RowsAt w A rs) (lr : rs.length ≤ 100000) (hok : ∀ r ∈ rs, ElOk r)
    (hK : ∀ w', Qt w w' → K (.tuple #[choV (firstC (ordL (standL (rs.map rowP)))), .bool (!(ordL (standL (rs.map rowP))).isEmpty)]) w') : CallK Tryd.prog 34 #[.slice A rs.length c] K w := by
  refine F34_calls _ _ _ ?_; unfold F34
  obtain ⟨q1, h1, s1⟩ := newb w #[.string ByteArray.empty, .string ByteArray.empty, .int .i64 0] 76
  simp (maxSteps := 1000000) (disch := omega) only [genAll, decAll, tk_nil, st34]
  generalize (w.alloc (.cells #[.string ByteArray.empty, .string ByteArray.empty, .int .i64 0] 76)) = w1 at *
  generalize hb : w.heap.size = b at *
  refine ck32 (orderR_any (ha.quiet q1) lr hok ?_)
  generalize ordL (standL (rs.map rowP)) = l at *
  intro A2 c2 w2 r2 q2
  have q02 := q1.trans q2
  have h12 := q2.heap h1 (fun h => h)
  cases l with
  | nil =>
    have e : (((([] : List ChoD).length : Nat) : Int) == 0) = true := rfl
    simp (maxSteps := 1000000) (disch := omega) only [genAll, decAll, tk_nil, st34, e]
    refine aggStoreW (cs := choC cho0) h12 rfl (by kernel_rfl) (choC_one _) ?_
    intro w3 h3 k3
    obtain ⟨y0, y1, y2⟩ := cell3 h3
    simp (maxSteps := 1000000) (disch := omega) only [genAll, decAll, tk_nil, st34, y0, y1, y2]
    exact hK _ (Qt.then q02 k3 (fun k hk => by omega))
  | cons x l =>
    have e : ((((x :: l).length : Nat) : Int) == 0) = false := beq_eq_false_iff_ne.2 (by rw [List.length_cons]; omega)
    obtain ⟨g, o, rfl, z0, z1, z2⟩ := cho_at r2 (i := 0) (by simp)
    have ex : (x :: l).getD 0 default = x := rfl
    rw [ex] at z0 z1 z2
    have hlp : 0 < (x :: l).length := by simp
    simp (maxSteps := 1000000) (disch := omega) only [genAll, decAll, tk_nil, st34, e, z0, z1, z2]
    refine aggStoreW (cs := choC x) h12 rfl (by kernel_rfl) (choC_one _) ?_
    intro w3 h3 k3
    obtain ⟨y0, y1, y2⟩ := cell3 h3
    simp (maxSteps := 1000000) (disch := omega) only [genAll, decAll, tk_nil, st34, y0, y1, y2]
    exact hK _ (Qt.then q02 k3 (fun k hk => by omega))
theorem elOk_same {x r : RowH} (e : rowP x = rowP r) (h : ElOk x) : ElOk r := by
  have he : x.2.2.2.2.map attP = r.2.2.2.2.map attP := congrArg (fun z : RowD => z.2.2) e
  have hl : x.2.2.2.2.length = r.2.2.2.2.length := by have := congrArg List.length he; simpa using this
  have hn : x.2.2.2.2.map (·.1) = r.2.2.2.2.map (·.1) := by
    have := congrArg (fun l : List Att => l.map (·.1)) he
    simpa [List.map_map, Function.comp_def, attP] using this
  have hm : ∀ a ∈ r.2.2.2.2, ∃ y ∈ x.2.2.2.2, y.2.1 = a.2.1 := fun a ha => by
    have h1 : attP a ∈ x.2.2.2.2.map attP := he ▸ List.mem_map_of_mem ha
    obtain ⟨y, hy, hya⟩ := List.mem_map.1 h1
    exact ⟨y, hy, congrArg (fun z : Att => z.2) hya⟩
  refine ⟨hn ▸ h.up, by have := h.n; omega, fun a ha => ?_, fun a ha => ?_⟩
  · obtain ⟨y, hy, e⟩ := hm a ha
    have := h.l y hy
    rw [e] at this; exact this
  · obtain ⟨y, hy, e⟩ := hm a ha
    have := h.s y hy
    rw [e] at this; exact this
theorem elOk_sub {rs rs' : List RowH} (h : ∀ r ∈ rs, ElOk r) (e : rs'.map rowP = rs.map rowP) : ∀ r ∈ rs', ElOk r := fun r hr => by
  have h1 : rowP r ∈ rs.map rowP := e ▸ List.mem_map_of_mem hr
  obtain ⟨y, hy, he⟩ := List.mem_map.1 h1
  exact elOk_same he (h y hy)
set_option maxHeartbeats 8000000 in
theorem electAny_any {rs : List RowH} {A : Option Addr} {c : Nat} {w : World} {K : Value → World → Prop} (hm : MaxAt w) (ha : RowsAt w A rs) (hK : ∀ w', Qt w w' → K (.bool true) w') : CallK Tryd.prog 6 #[.slice A rs.length c] K w := by
  refine F6_calls _ _ _ ?_; unfold F6
  refine ck30 (known15_any hm ?_)
  intro w1 q1
  simp (maxSteps := 1000000) (disch := omega) only [genAll, decAll, tk_nil, st6]
  refine ck14 (rise_any (ha.quiet q1) ?_)
  intro b w2 q2 hr
  have q02 := q1.trans q2
  cases b with
  | false =>
    simp (maxSteps := 1000000) (disch := omega) only [genAll, decAll, tk_nil, st6, guardK_u]
    exact hK _ q02
  | true =>
  have hr := hr rfl
  have h64 := hr.len
  have elr := riseH_el hr
  have nr := riseH_n hr
  simp (maxSteps := 1000000) (disch := omega) only [genAll, decAll, tk_nil, st6]
  refine ck31 (order_any (hm.quiet q02) (ha.quiet q02) (by omega) elr ?_)
  intro A3 w3 r3 q3
  have q03 := q02.trans q3
  simp (maxSteps := 1000000) (disch := omega) only [genAll, decAll, tk_nil, st6]
  refine ck15 (ofRows_any (ha.quiet q03) (by omega) nr ?_)
  intro A4 c4 rs4 w4 m4 a4 q4
  have q04 := q03.trans q4
  have l4 : rs.length = rs4.length := by have := congrArg List.length m4; simpa using this.symm
  have el4 := elOk_sub elr m4
  rw [l4]
  simp (maxSteps := 1000000) (disch := omega) only [genAll, decAll, tk_nil, st6]
  refine ck32 (orderR_any a4 (by omega) el4 ?_)
  rw [m4]
  intro A5 c5 w5 r5 q5
  have q05 := q04.trans q5
  simp (maxSteps := 1000000) (disch := omega) only [genAll, decAll, tk_nil, st6]
  rw [← l4]
  refine ck33 (rep_any (hm.quiet q05) (ha.quiet q05) (by omega) elr ?_)
  intro w6 q6
  have q06 := q05.trans q6
  have r3 := r3.quiet ((q4.trans q5).trans q6)
  have r5 := r5.quiet q6
  generalize hL : ordL (standL (rs.map rowP)) = L at *
  generalize hfc : firstC L = cc at *
  obtain ⟨is, his⟩ : ∃ is, is = (!L.isEmpty) := ⟨_, rfl⟩
  rw [← his]
  obtain ⟨q7, h7, s7⟩ := newb w6 #[.string cc.1, .string cc.2.1, .int .i64 cc.2.2] 73
  simp (maxSteps := 1000000) (disch := omega) only [genAll, decAll, tk_nil, st6]
  generalize (w6.alloc (.cells #[.string cc.1, .string cc.2.1, .int .i64 cc.2.2] 73)) = w7 at *
  generalize w6.heap.size = b7 at *
  have q07 := q06.trans q7
  refine ck15 (ofRows_any (ha.quiet q07) (by omega) nr ?_)
  intro A8 c8 rs8 w8 m8 a8 q8
  have q08 := q07.trans q8
  have l8 : rs.length = rs8.length := by have := congrArg List.length m8; simpa using this.symm
  have el8 := elOk_sub elr m8
  rw [l8]
  simp (maxSteps := 1000000) (disch := omega) only [genAll, decAll, tk_nil, st6]
  refine ck34 (repR_any a8 (by omega) el8 ?_)
  rw [m8, hL, hfc]
  intro w9 q9
  have q09 := q08.trans q9
  rw [← his]
  clear his
  obtain ⟨q10, h10, s10⟩ := newb w9 #[.string cc.1, .string cc.2.1, .int .i64 cc.2.2] 76
  have en : ((L.length : Int) != (L.length : Int)) = false := bne_self_eq_false _
  have ei : (is != is) = false := bne_self_eq_false _
  simp (maxSteps := 1000000) (disch := omega) only [genAll, decAll, tk_nil, st6]
  generalize (w9.alloc (.cells #[.string cc.1, .string cc.2.1, .int .i64 cc.2.2] 76)) = w10 at *
  generalize w9.heap.size = b10 at *
  have q010 := q09.trans q10
  have q710 := (q8.trans q9).trans q10
  obtain ⟨x0, x1, x2⟩ := cell3 (q710.heap h7 (fun h => h))
  obtain ⟨y0, y1, y2⟩ := cell3 h10
  have k0 : (!(cc.1.toList == cc.1.toList)) = false := by rw [beq_self_eq_true]; rfl
  have k1 : (!(cc.2.1.toList == cc.2.1.toList)) = false := by rw [beq_self_eq_true]; rfl
  have k2 : (cc.2.2 != cc.2.2) = false := bne_self_eq_false _
  simp (maxSteps := 1000000) (disch := omega) only [genAll, decAll, tk_nil, st6, en, ei, x0, x1, x2, y0, y1, y2, k0, k1, k2]
  have r3 := r3.quiet (q7.trans q710)
  have r5 := r5.quiet (q7.trans q710)
  refine loopK1 (fun v w' => ∃ i : Nat, v = .int .i64 i ∧ i ≤ L.length ∧ Qt w10 w') (fun v _ => L.length - (intOf v).toNat) ⟨0, rfl, by omega, Qt.refl⟩ ?_
  rintro _ _ w11 ⟨i, rfl, hi, q11⟩
  have hlL : L.length ≤ 100000 := by
    have := stand_len (rs.map rowP) rs.length
    rw [List.take_of_length_le (by rw [List.length_map]; omega), List.length_map] at this
    rw [← hL, ordL_len]; omega
  by_cases hlt : i < L.length
  · have X := fun w' (q : Quiets w10 w') => cho_at (Reads.quiet r3 q) hlt
    have Y := fun w' (q : Quiets w10 w') => cho_at (Reads.quiet r5 q) hlt
    obtain ⟨g, o, hA, _⟩ := X w10 Qt.refl
    obtain ⟨g2, o2, hB, _⟩ := Y w10 Qt.refl
    subst hA hB
    generalize L.getD i default = m at *
    have X0 : ∀ w', Quiets w10 w' → w'.cell? ⟨g, o + i * 3, none⟩ = some (.string m.1) := fun w' q => by obtain ⟨_, _, he, z, _⟩ := X w' q; cases he; exact z
    have X1 : ∀ w', Quiets w10 w' → w'.cell? ⟨g, o + (i * 3 + 1), none⟩ = some (.string m.2.1) := fun w' q => by obtain ⟨_, _, he, _, z, _⟩ := X w' q; cases he; exact z
    have X2 : ∀ w', Quiets w10 w' → w'.cell? ⟨g, o + (i * 3 + 2), none⟩ = some (.int .i64 m.2.2) := fun w' q => by obtain ⟨_, _, he, _, _, z⟩ := X w' q; cases he; exact z
    have Y0 : ∀ w', Quiets w10 w' → w'.cell? ⟨g2, o2 + i * 3, none⟩ = some (.string m.1) := fun w' q => by obtain ⟨_, _, he, z, _⟩ := Y w' q; cases he; exact z
    have Y1 : ∀ w', Quiets w10 w' → w'.cell? ⟨g2, o2 + (i * 3 + 1), none⟩ = some (.string m.2.1) := fun w' q => by obtain ⟨_, _, he, _, z, _⟩ := Y w' q; cases he; exact z
    have Y2 : ∀ w', Quiets w10 w' → w'.cell? ⟨g2, o2 + (i * 3 + 2), none⟩ = some (.int .i64 m.2.2) := fun w' q => by obtain ⟨_, _, he, _, _, z⟩ := Y w' q; cases he; exact z
    have q11d : Qt w10 w11.drew := q11.trans (Qt.drew Qt.refl)
    have e0 : (!(m.1.toList == m.1.toList)) = false := by rw [beq_self_eq_true]; rfl
    have e1 : (!(m.2.1.toList == m.2.1.toList)) = false := by rw [beq_self_eq_true]; rfl
    have e2 : (m.2.2 != m.2.2) = false := bne_self_eq_false _
    simp (maxSteps := 1000000) (disch := omega) only [genAll, decAll, tk_nil, st6]
    refine drawQ w10 q11d ?_
    generalize w11.drew = wd at *
    simp (maxSteps := 1000000) (disch := omega) only [genAll, decAll, tk_nil, st6, qkld9 X0, qkld9 Y0, qkld9 X1, qkld9 Y1, qkld2 X2, qkld2 Y2, e0, e1, e2]
    exact ⟨⟨i + 1, by go_num, by omega, q11d⟩, by simp [rel, intOf]; omega⟩
  · simp (maxSteps := 1000000) (disch := omega) only [genAll, decAll, tk_nil, st6]
    exact hK _ (q010.trans q11)
end Go.Proofs.YtpjeohellehgjaaDoor
