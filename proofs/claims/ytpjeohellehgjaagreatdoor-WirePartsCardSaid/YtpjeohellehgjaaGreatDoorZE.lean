import Derived.Test.YtpjeohellehgjaaGreatDoorV4
import Derived.Test.YtpjeohellehgjaaGreatDoorV3
import Derived.Test.YtpjeohellehgjaaGreatDoorZD
section
/- Values, stamps, rows in bytes, by the program: what an encoder holds behind it. Conditions: the rows read and lie apart from the encoder, few and short. -/
set_option linter.unusedVariables false
set_option linter.unusedSimpArgs false
set_option maxRecDepth 100000
namespace Go.Proofs.YtpjeohellehgjaaGreatDoor
open Go.RowKit Go.Cn Go.Cn.Num
theorem ES.lt {w : World} {g : Nat} {bs : List UInt8} {F : Option Nat} (h : EncAt w g bs F) {b : Nat} (hb : w.heap.size ≤ b) : ¬ ES g F b := fun e => e.elim (fun e => by have := h.lt.1; omega) (fun e => by have := h.lt.2 _ e; omega)
set_option maxHeartbeats 2000000 in
theorem putIs_any {l : List Int} {A : Option Addr} {c : Nat} {w0 w : World} {g : Nat} {F0 F : Option Nat} {bs : List UInt8} {K : Value → World → Prop} (h : EncTo w0 g F0 bs F w) (hr : Reads w A (ints l)) (hs : Sep (ES g F) A (ints l)) (hi : ∀ x ∈ l, in64 x) (hl : l.length ≤ 1000) (hsz : bs.length ≤ 2000000)
    (hK : ∀ F' w', EncTo w0 g F0 (bs ++ (putInt l.length ++ l.flatMap putInt)) F' w' → K (.tuple #[]) w') : CallK Tryz.prog 65 #[.pointer (some ⟨g, 0, none⟩), .slice A l.length c, .func (.func 66) #[] #[]] K w := by
  refine F65_calls _ _ _ _ _ ?_; unfold F65
  have hln := in64_nat (n := l.length) (by omega)
  simp (maxSteps := 1000000) (disch := omega) only [genAll, decAll, tk_nil, st65, st66]
  refine ck63 (encI hln (EncTo.start h.here) (by omega) ?_)
  intro F1 w1 h1
  have l1 := pI_len hln
  simp (maxSteps := 1000000) (disch := omega) only [genAll, decAll, tk_nil, st65, st66]
  refine loopK1 (fun v w' => ∃ (i : Nat) (F' : Option Nat), v = .int .i64 i ∧ i ≤ l.length ∧ EncTo w g F (bs ++ (putInt l.length ++ (l.take i).flatMap putInt)) F' w') (fun v _ => l.length - (intOf v).toNat) ⟨0, F1, rfl, by omega, by simpa using h1⟩ ?_
  rintro _ _ w2 ⟨i, F2, rfl, hi2, h2⟩
  by_cases hlt : i < l.length
  · obtain ⟨b, o, hA, z⟩ := int_at (hr.sep h2.chg hs) hlt
    subst hA
    have hx : in64 (l.getD i 0) := hi _ (getD_mem hlt)
    have hsn := ints_snoc l i hlt
    have hlen := ints_len l i hi
    generalize l.getD i 0 = n at *
    simp (maxSteps := 1000000) (disch := omega) only [genAll, decAll, tk_nil, st65, st66, z]
    refine ck66 ?_
    refine F66_calls _ _ _ _ ?_; unfold F66
    simp (maxSteps := 1000000) (disch := omega) only [genAll, decAll, tk_nil, st65, st66]
    refine ck63 (encI hx h2 (by simp only [List.length_append]; omega) ?_)
    intro F3 w3 h3
    simp (maxSteps := 1000000) (disch := omega) only [genAll, decAll, tk_nil, st65, st66]
    rw [List.append_assoc, List.append_assoc, ← hsn] at h3
    exact ⟨⟨i + 1, F3, by go_num, by omega, h3⟩, by simp [rel, intOf]; omega⟩
  · obtain rfl : i = l.length := by omega
    rw [List.take_length] at h2
    simp (maxSteps := 1000000) (disch := omega) only [genAll, decAll, tk_nil, st65, st66]
    exact hK _ _ (h.comp Qt.refl h2)
set_option maxHeartbeats 2000000 in
theorem putV_any {v : Val} {A : Option Addr} {c : Nat} {w0 w : World} {g : Nat} {F0 F : Option Nat} {bs : List UInt8} {K : Value → World → Prop} (h : EncTo w0 g F0 bs F w) (hr : Reads w A (ints v.2.2.2)) (hs : Sep (ES g F) A (ints v.2.2.2)) (h1 : in64 v.1) (h2 : in64 v.2.1) (h3 : ∀ x ∈ v.2.2.2, in64 x) (h4 : v.2.2.2.length ≤ 100) (h5 : v.2.2.1.size ≤ 500) (hsz : bs.length ≤ 1000000)
    (hK : ∀ F' w', EncTo w0 g F0 (bs ++ valB v) F' w' → K (.tuple #[]) w') : CallK Tryz.prog 25 #[.pointer (some ⟨g, 0, none⟩), vv v A c] K w := by
  refine F25_calls _ _ _ _ ?_; unfold F25
  simp (maxSteps := 1000000) (disch := omega) only [genAll, decAll, tk_nil, st25]
  obtain ⟨q1, b1⟩ := box4 w v A c 61
  generalize (w.alloc (.cells #[.int .i64 v.1, .int .i64 v.2.1, .string v.2.2.1, .slice A v.2.2.2.length c] 61)) = w1 at *
  have hlow := ES.lt h.here (Nat.le_refl w.heap.size)
  have e1 := EncTo.start (h.quiet q1).here
  have X := fun w' (k : Chg (ES g F) w1 w') => cell4 (k.heap b1 hlow)
  have hr1 := hr.quiet q1
  generalize w.heap.size = b at *
  obtain ⟨x0, x1, x2, x3⟩ := X w1 (Chg.refl _ _)
  simp (maxSteps := 1000000) (disch := omega) only [genAll, decAll, tk_nil, st25, x0]
  refine ck63 (encI h1 e1 (by omega) ?_)
  intro F2 w2 e2
  have l1 := pI_len h1
  obtain ⟨x0, x1, x2, x3⟩ := X w2 e2.chg
  have fin : ∀ F' w', EncTo w1 g F (bs ++ valB v) F' w' → K (.tuple #[]) w' := fun F' w' e => hK F' w' (h.comp q1 e)
  unfold valB at fin
  by_cases k1 : v.1 = 1
  · have g1 : (v.1 == 1) = true := by rw [k1]; rfl
    rw [if_pos k1] at fin
    simp (maxSteps := 1000000) (disch := omega) only [genAll, decAll, tk_nil, st25, x0, g1, x1]
    refine ck63 (encI h2 e2 (by simp only [List.length_append]; omega) ?_)
    intro F3 w3 e3
    simp (maxSteps := 1000000) (disch := omega) only [genAll, decAll, tk_nil, st25]
    rw [List.append_assoc] at e3
    exact fin _ _ e3
  · have g1 : (v.1 == 1) = false := beq_eq_false_iff_ne.2 k1
    rw [if_neg k1] at fin
    by_cases k2 : v.1 = 2
    · have g2 : (v.1 == 2) = true := by rw [k2]; rfl
      rw [if_pos k2] at fin
      simp (maxSteps := 1000000) (disch := omega) only [genAll, decAll, tk_nil, st25, x0, g1, g2, x2]
      refine ck64 (encT e2 (by omega) (by simp only [List.length_append]; omega) ?_)
      intro F3 w3 e3
      simp (maxSteps := 1000000) (disch := omega) only [genAll, decAll, tk_nil, st25]
      rw [List.append_assoc] at e3
      exact fin _ _ e3
    · have g2 : (v.1 == 2) = false := beq_eq_false_iff_ne.2 k2
      rw [if_neg k2] at fin
      by_cases k3 : v.1 = 3
      · have g3 : (v.1 == 3) = true := by rw [k3]; rfl
        rw [if_pos k3] at fin
        simp (maxSteps := 1000000) (disch := omega) only [genAll, decAll, tk_nil, st25, x0, g1, g2, g3, x3]
        refine ck65 (putIs_any e2 (hr1.sep e2.chg hs) (e2.sep e2.es hr1 hs) h3 (by omega) (by simp only [List.length_append]; omega) ?_)
        intro F3 w3 e3
        simp (maxSteps := 1000000) (disch := omega) only [genAll, decAll, tk_nil, st25]
        rw [List.append_assoc] at e3
        exact fin _ _ e3
      · have g3 : (v.1 == 3) = false := beq_eq_false_iff_ne.2 k3
        rw [if_neg k3, List.append_nil] at fin
        simp (maxSteps := 1000000) (disch := omega) only [genAll, decAll, tk_nil, st25, x0, g1, g2, g3]
        exact fin _ _ e2
set_option maxHeartbeats 2000000 in
theorem putS_any {s : Stm} {w0 w : World} {g : Nat} {F0 F : Option Nat} {bs : List UInt8} {K : Value → World → Prop} (h : EncTo w0 g F0 bs F w) (h1 : in64 s.1) (h2 : in64 s.2.1) (h3 : in64 s.2.2.1) (h4 : s.2.2.2.size ≤ 1000) (hsz : bs.length ≤ 1000000)
    (hK : ∀ F' w', EncTo w0 g F0 (bs ++ stmB s) F' w' → K (.tuple #[]) w') : CallK Tryz.prog 26 #[.pointer (some ⟨g, 0, none⟩), stV s] K w := by
  refine F26_calls _ _ _ _ ?_; unfold F26
  simp (maxSteps := 1000000) (disch := omega) only [genAll, decAll, tk_nil, st26]
  obtain ⟨q1, b1, s1⟩ := newb w #[.int .i64 s.1, .int .i64 s.2.1, .int .i64 s.2.2.1, .string s.2.2.2] 23
  generalize (w.alloc (.cells #[.int .i64 s.1, .int .i64 s.2.1, .int .i64 s.2.2.1, .string s.2.2.2] 23)) = w1 at *
  have hlow := ES.lt h.here (Nat.le_refl w.heap.size)
  have e1 := EncTo.start (h.quiet q1).here
  have X := fun w' (k : Chg (ES g F) w1 w') => cell4 (k.heap b1 hlow)
  generalize w.heap.size = b at *
  obtain ⟨x0, x1, x2, x3⟩ := X w1 (Chg.refl _ _)
  have l1 := pI_len h1
  have l2 := pI_len h2
  have l3 := pI_len h3
  simp (maxSteps := 1000000) (disch := omega) only [genAll, decAll, tk_nil, st26, x0, x1, x2]
  refine ck63 (encI3 h1 h2 h3 e1 (by omega) ?_)
  intro F2 w2 e2
  obtain ⟨x0, x1, x2, x3⟩ := X w2 e2.chg
  simp (maxSteps := 1000000) (disch := omega) only [genAll, decAll, tk_nil, st26, x3]
  refine ck64 (encT e2 (by omega) (by simp only [List.length_append]; omega) ?_)
  intro F3 w3 e3
  simp (maxSteps := 1000000) (disch := omega) only [genAll, decAll, tk_nil, st26]
  have e : bs ++ (putInt s.1 ++ (putInt s.2.1 ++ putInt s.2.2.1)) ++ putText s.2.2.2.data.toList = bs ++ stmB s := by unfold stmB; simp only [List.append_assoc]
  rw [e] at e3
  exact hK _ _ (h.comp q1 e3)
set_option maxHeartbeats 2000000 in
theorem putA_any {a : AttH} {w0 w : World} {g : Nat} {F0 F : Option Nat} {bs : List UInt8} {K : Value → World → Prop} (h : EncTo w0 g F0 bs F w) (hr : Reads w a.2.2.1 (ints a.2.1.2.2.2)) (hs : Sep (ES g F) a.2.2.1 (ints a.2.1.2.2.2)) (hf : FewA a) (ho : AttOk (attP a)) (hsz : bs.length ≤ 900000)
    (hK : ∀ F' w', EncTo w0 g F0 (bs ++ attB (attP a)) F' w' → K (.tuple #[]) w') : CallK Tryz.prog 68 #[.pointer (some ⟨g, 0, none⟩), attV a] K w := by
  refine F68_calls _ _ _ _ ?_; unfold F68
  simp (maxSteps := 1000000) (disch := omega) only [genAll, decAll, tk_nil, st68]
  obtain ⟨q1, b1, s1⟩ := newb w #[.string a.1, .int .i64 a.2.1.1, .int .i64 a.2.1.2.1, .string a.2.1.2.2.1, .slice a.2.2.1 a.2.1.2.2.2.length a.2.2.2] 64
  generalize (w.alloc (.cells #[.string a.1, .int .i64 a.2.1.1, .int .i64 a.2.1.2.1, .string a.2.1.2.2.1, .slice a.2.2.1 a.2.1.2.2.2.length a.2.2.2] 64)) = w1 at *
  have hlow := ES.lt h.here (Nat.le_refl w.heap.size)
  have e1 := EncTo.start (h.quiet q1).here
  have X := fun w' (k : Chg (ES g F) w1 w') => cell5 (k.heap b1 hlow)
  have hr1 := hr.quiet q1
  generalize w.heap.size = b at *
  obtain ⟨p1, p2, p3⟩ := hf
  obtain ⟨m1, m2, m3, m4, m5⟩ := ho
  have l1 := pT_len a.1 (by omega)
  obtain ⟨x0, x1, x2, x3, x4⟩ := X w1 (Chg.refl _ _)
  simp (maxSteps := 1000000) (disch := omega) only [genAll, decAll, tk_nil, st68, x0]
  refine ck64 (encT e1 (by omega) (by omega) ?_)
  intro F2 w2 e2
  obtain ⟨x0, x1, x2, x3, x4⟩ := X w2 e2.chg
  simp (maxSteps := 1000000) (disch := omega) only [genAll, decAll, tk_nil, st68, x1, x2, x3, x4]
  refine ck25 (putV_any (v := a.2.1) e2 (hr1.sep e2.chg hs) (e2.sep e2.es hr1 hs) m2 m3 m4 (by omega) (by omega) (by simp only [List.length_append]; omega) ?_)
  intro F3 w3 e3
  simp (maxSteps := 1000000) (disch := omega) only [genAll, decAll, tk_nil, st68]
  have e : bs ++ putText a.1.data.toList ++ valB a.2.1 = bs ++ attB (attP a) := by unfold attB attP; simp only [List.append_assoc]
  rw [e] at e3
  exact hK _ _ (h.comp q1 e3)
set_option maxHeartbeats 4000000 in
theorem putAs_any {hs : List AttH} {A : Option Addr} {c : Nat} {w0 w : World} {g : Nat} {F0 F : Option Nat} {bs : List UInt8} {K : Value → World → Prop} (h : EncTo w0 g F0 bs F w) (hr : AttsAt w A hs) (hsp : AttsSep (ES g F) A hs) (hn : hs.length ≤ 40) (hf : ∀ x ∈ hs, FewA x) (ho : ∀ a ∈ hs.map attP, AttOk a) (hsz : bs.length ≤ 800000)
    (hK : ∀ F' w', EncTo w0 g F0 (bs ++ (putInt hs.length ++ (hs.map attP).flatMap attB)) F' w' → K (.tuple #[]) w') : CallK Tryz.prog 67 #[.pointer (some ⟨g, 0, none⟩), .slice A hs.length c, .func (.func 68) #[] #[]] K w := by
  refine F67_calls _ _ _ _ _ ?_; unfold F67
  have hln := in64_nat (n := hs.length) (by omega)
  simp (maxSteps := 1000000) (disch := omega) only [genAll, decAll, tk_nil, st67]
  refine ck63 (encI hln (EncTo.start h.here) (by omega) ?_)
  intro F1 w1 h1
  have l1 := pI_len hln
  simp (maxSteps := 1000000) (disch := omega) only [genAll, decAll, tk_nil, st67]
  refine loopK1 (fun v w' => ∃ (i : Nat) (F' : Option Nat), v = .int .i64 i ∧ i ≤ hs.length ∧ EncTo w g F (bs ++ (putInt hs.length ++ ((hs.take i).map attP).flatMap attB)) F' w') (fun v _ => hs.length - (intOf v).toNat) ⟨0, F1, rfl, by omega, by simpa using h1⟩ ?_
  rintro _ _ w2 ⟨i, F2, rfl, hi2, h2⟩
  by_cases hlt : i < hs.length
  · obtain ⟨r2, s2⟩ := h2.atts hr hsp
    obtain ⟨b, o, hA, z0, z1, z2, z3, z4⟩ := att_at r2.1 hlt
    subst hA
    have hL := r2.2.get hlt
    have hLs := s2.2 _ (getD_mem hlt)
    have hfa := hf _ (getD_mem hlt)
    have hok := attOk_of (getD_mem hlt) ho
    have hsn := attP_snoc hs i hlt
    have hpf := atts_len (hs.take i) (fun h hh => hf h (List.mem_of_mem_take hh)) (fun a ha => by
      obtain ⟨h, hh, rfl⟩ := List.mem_map.1 ha
      exact ho _ (List.mem_map_of_mem (List.mem_of_mem_take hh)))
    rw [List.length_take] at hpf
    have hmul : (min i hs.length) * 540 ≤ 40 * 540 := Nat.mul_le_mul_right 540 (by omega)
    generalize hs.getD i default = a at *
    obtain ⟨q3, b3, s3⟩ := newb w2 #[.string a.1, .int .i64 a.2.1.1, .int .i64 a.2.1.2.1, .string a.2.1.2.2.1, .slice a.2.2.1 a.2.1.2.2.2.length a.2.2.2] 64
    simp (maxSteps := 1000000) (disch := omega) only [genAll, decAll, tk_nil, st67, z0, z1, z2, z3, z4]
    generalize (w2.alloc (.cells #[.string a.1, .int .i64 a.2.1.1, .int .i64 a.2.1.2.1, .string a.2.1.2.2.1, .slice a.2.2.1 a.2.1.2.2.2.length a.2.2.2] 64)) = w3 at *
    obtain ⟨x0, x1, x2, x3, x4⟩ := cell5 b3
    simp (maxSteps := 1000000) (disch := omega) only [genAll, decAll, tk_nil, st67, x0, x1, x2, x3, x4]
    refine ck68 (putA_any (a := a) (h2.quiet q3) (hL.quiet q3) hLs hfa hok (by simp only [List.length_append]; omega) ?_)
    intro F4 w4 h4
    simp (maxSteps := 1000000) (disch := omega) only [genAll, decAll, tk_nil, st67]
    rw [List.append_assoc, List.append_assoc, ← hsn] at h4
    exact ⟨⟨i + 1, F4, by go_num, by omega, h4⟩, by simp [rel, intOf]; omega⟩
  · obtain rfl : i = hs.length := by omega
    rw [List.take_length] at h2
    simp (maxSteps := 1000000) (disch := omega) only [genAll, decAll, tk_nil, st67]
    exact hK _ _ (h.comp Qt.refl h2)
set_option maxHeartbeats 2000000 in
theorem putR_any {key : ByteArray} {s : Stm} {hs : List AttH} {A : Option Addr} {c : Nat} {w0 w : World} {g : Nat} {F0 F : Option Nat} {bs : List UInt8} {K : Value → World → Prop} (h : EncTo w0 g F0 bs F w) (hr : AttsAt w A hs) (hsp : AttsSep (ES g F) A hs) (hsm : SmallR key s hs) (hsz : bs.length ≤ 700000)
    (hK : ∀ F' w', EncTo w0 g F0 (bs ++ rowB (key, s, hs.map attP)) F' w' → K (.tuple #[]) w') : CallK Tryz.prog 27 #[.pointer (some ⟨g, 0, none⟩), rowV key s A hs.length c] K w := by
  refine F27_calls _ _ _ _ ?_; unfold F27
  simp (maxSteps := 1000000) (disch := omega) only [genAll, decAll, tk_nil, st27]
  obtain ⟨q1, b1, e1'⟩ := newb w #[.string key, .int .i64 s.1, .int .i64 s.2.1, .int .i64 s.2.2.1, .string s.2.2.2, .slice A hs.length c] 26
  generalize (w.alloc (.cells #[.string key, .int .i64 s.1, .int .i64 s.2.1, .int .i64 s.2.2.1, .string s.2.2.2, .slice A hs.length c] 26)) = w1 at *
  have hlow := ES.lt h.here (Nat.le_refl w.heap.size)
  have e1 := EncTo.start (h.quiet q1).here
  have X := fun w' (k : Chg (ES g F) w1 w') => cell6 (k.heap b1 hlow)
  have hr1 := hr.quiet q1
  generalize w.heap.size = b at *
  obtain ⟨g1, g2, g3, g4, g5⟩ := hsm
  obtain ⟨r1, ⟨r2, r3, r4, r5⟩, r6⟩ := g5
  have l1 := pT_len key (by omega)
  have l2 := stmB_len (s := s) r2 r3 r4 (by omega)
  obtain ⟨x0, x1, x2, x3, x4, x5⟩ := X w1 (Chg.refl _ _)
  simp (maxSteps := 1000000) (disch := omega) only [genAll, decAll, tk_nil, st27, x0]
  refine ck64 (encT e1 (by omega) (by omega) ?_)
  intro F2 w2 e2
  obtain ⟨x0, x1, x2, x3, x4, x5⟩ := X w2 e2.chg
  simp (maxSteps := 1000000) (disch := omega) only [genAll, decAll, tk_nil, st27, x1, x2, x3, x4]
  refine ck26 (putS_any e2 r2 r3 r4 (by omega) (by simp only [List.length_append]; omega) ?_)
  intro F3 w3 e3
  obtain ⟨x0, x1, x2, x3, x4, x5⟩ := X w3 e3.chg
  obtain ⟨y1, y2⟩ := e3.atts hr1 hsp
  simp (maxSteps := 1000000) (disch := omega) only [genAll, decAll, tk_nil, st27, x5]
  refine ck67 (putAs_any e3 y1 y2 (by omega) g4 r6 (by simp only [List.length_append]; omega) ?_)
  intro F4 w4 e4
  simp (maxSteps := 1000000) (disch := omega) only [genAll, decAll, tk_nil, st27]
  have e : bs ++ putText key.data.toList ++ stmB s ++ (putInt hs.length ++ (hs.map attP).flatMap attB) = bs ++ rowB (key, s, hs.map attP) := by unfold rowB; simp only [List.append_assoc, List.length_map]
  rw [e] at e4
  exact hK _ _ (h.comp q1 e4)
end Go.Proofs.YtpjeohellehgjaaGreatDoor
end

section
/- Rows in bytes and sealed, by the program and by the document. Conditions: the rows read, few and short. -/
set_option linter.unusedVariables false
set_option linter.unusedSimpArgs false
set_option maxRecDepth 100000
namespace Go.Proofs.YtpjeohellehgjaaGreatDoor
open Go.RowKit Go.Cn Go.Cn.Num
theorem name_len {l : List UInt8} (h : nameL l = true) : l.length ≤ 8 := ((nameL_iff l).1 h).2.1
theorem valB_ok {v : Val} (h : checkV v = 0) (h1 : in64 v.1) (h2 : in64 v.2.1) (h3 : ∀ x ∈ v.2.2.2, in64 x) : (valB v).length ≤ 182 := by
  unfold checkV at h
  unfold valB
  rw [List.length_append]
  have := pI_len h1
  by_cases k1 : v.1 = 1
  · rw [if_pos k1]; have := pI_len h2; omega
  · rw [if_neg k1] at h ⊢
    by_cases k2 : v.1 = 2
    · rw [if_pos k2] at h ⊢
      unfold textE at h
      split at h
      · cases h
      · have := putText_len v.2.2.1.data.toList (by omega); omega
    · rw [if_neg k2] at h ⊢
      by_cases k3 : v.1 = 3
      · rw [if_pos k3] at h ⊢
        unfold listE at h
        split at h
        · cases h
        · rw [List.length_append]
          have := pI_len (in64_nat (n := v.2.2.2.length) (by omega))
          have := flat_putInt_len v.2.2.2 h3
          omega
      · rw [if_neg k3] at h; cases h
theorem chk_all : ∀ (p : Option ByteArray) (l : List Att), chkAs p l = 0 → ∀ a ∈ l, nameL a.1.data.toList = true ∧ checkV a.2 = 0
  | _, [], _, a, h => by cases h
  | p, x :: r, hc, a, h => by
    rw [chkAs] at hc
    split at hc
    · cases hc
    · rename_i hn
      split at hc
      · cases hc
      · split at hc
        · rename_i hv; exact absurd hc hv
        · rename_i hv
          rcases List.mem_cons.1 h with rfl | h
          · exact ⟨by simpa using hn, by simpa using hv⟩
          · exact chk_all _ r hc a h
theorem atts_ok_len : ∀ (l : List Att), (∀ a ∈ l, nameL a.1.data.toList = true ∧ checkV a.2 = 0) → (∀ a ∈ l, AttOk a) → (l.flatMap attB).length ≤ l.length * 200
  | [], _, _ => by simp
  | a :: l, hc, ho => by
    have ih := atts_ok_len l (fun x hx => hc x (by simp [hx])) (fun x hx => ho x (by simp [hx]))
    obtain ⟨c1, c2⟩ := hc a (by simp)
    obtain ⟨o1, o2, o3, o4, o5⟩ := ho a (by simp)
    have h1 := name_len c1
    have h2 := putText_len a.1.data.toList (by omega)
    have h3 := valB_ok c2 o2 o3 o4
    have e : (attB a).length = (putText a.1.data.toList).length + (valB a.2).length := by unfold attB; rw [List.length_append]
    rw [List.flatMap_cons, List.length_append, List.length_cons, Nat.succ_mul]
    omega
theorem checkR_parts {r : RowD} (h : checkR r = 0) : nameL r.1.data.toList = true ∧ checkS r.2.1 = 0 ∧ r.2.2.length ≤ 32 ∧ ∀ a ∈ r.2.2, nameL a.1.data.toList = true ∧ checkV a.2 = 0 := by
  unfold checkR at h
  split at h
  · cases h
  · rename_i h1
    split at h
    · rename_i h2; exact absurd h h2
    · rename_i h2
      unfold checkAs at h
      split at h
      · cases h
      · exact ⟨by simpa using h1, by simpa using h2, by omega, chk_all _ _ h⟩
theorem rowB_ok {r : RowD} (h : checkR r = 0) (hok : RowOk r) (ho : r.2.1.2.2.2.size ≤ 100) : (rowB r).length ≤ 7000 := by
  obtain ⟨c1, c2, c3, c4⟩ := checkR_parts h
  obtain ⟨r1, ⟨r2, r3, r4, r5⟩, r6⟩ := hok
  unfold rowB
  simp only [List.length_append]
  have h1 := name_len c1
  have := putText_len r.1.data.toList (by omega)
  have h2 : (stmB r.2.1).length ≤ 140 := by
    unfold stmB
    simp only [List.length_append]
    have := pI_len r2; have := pI_len r3; have := pI_len r4; have := pT_len r.2.1.2.2.2 (by omega)
    omega
  have := pI_len (in64_nat (n := r.2.2.length) (by omega))
  have := atts_ok_len r.2.2 c4 r6
  omega
/-- Small rows. -/
def SmallH (r : RowH) : Prop := SmallR r.1 r.2.1 r.2.2.2.2
theorem SmallH.ok {r : RowH} (h : SmallH r) : RowOk (rowP r) := h.2.2.2.2
theorem rowsB_ok : ∀ (l : List RowH), (∀ r ∈ l, SmallH r ∧ checkR (rowP r) = 0) → ((l.map rowP).flatMap rowB).length ≤ l.length * 7000
  | [], _ => by simp
  | r :: l, h => by
    have ih := rowsB_ok l (fun x hx => h x (by simp [hx]))
    obtain ⟨h1, h2⟩ := h r (by simp)
    have := rowB_ok h2 h1.ok h1.2.1
    rw [List.map_cons, List.flatMap_cons, List.length_append, List.length_cons, Nat.succ_mul]; omega
theorem rowP_snoc (rs : List RowH) (i : Nat) (hi : i < rs.length) : ((rs.take (i + 1)).map rowP).flatMap rowB = ((rs.take i).map rowP).flatMap rowB ++ rowB (rowP (rs.getD i default)) := by
  have e : rs.getD i default = rs[i] := by simp [hi]
  rw [e, List.take_succ_eq_append_getElem hi, List.map_append, List.flatMap_append]; simp
theorem good_of {w : World} {r : RowH} (ha : AttsAt w r.2.2.1 r.2.2.2.2) (hs : SmallH r) : RowGood w r.1 r.2.1 r.2.2.1 r.2.2.2.2 := by
  obtain ⟨h1, h2, h3, h4, h5⟩ := hs
  refine ⟨ha, fun h hh => ?_, by omega⟩
  obtain ⟨f1, f2, f3⟩ := h4 h hh
  exact ⟨by omega, by omega, by omega⟩
theorem badR_zero : ∀ l : List RowD, badR l = 0 → ∀ r ∈ l, checkR r = 0
  | [], _, r, h => by cases h
  | x :: l, hb, r, h => by
    rw [badR] at hb
    split at hb
    · rename_i h1; exact absurd hb h1
    · rename_i h1
      rcases List.mem_cons.1 h with rfl | h
      · simpa using h1
      · exact badR_zero l hb r h
set_option maxHeartbeats 4000000 in
theorem putRows_any {rs : List RowH} {A : Option Addr} {c : Nat} {w0 w : World} {g : Nat} {F0 F : Option Nat} {bs : List UInt8} {K : Value → World → Prop} (h : EncTo w0 g F0 bs F w) (hr : RowsAt w A rs) (hsp : RowsSep (ES g F) A rs) (hn : rs.length ≤ 64) (hs : ∀ r ∈ rs, SmallH r ∧ checkR (rowP r) = 0) (hsz : bs.length ≤ 100000)
    (hK : ∀ F' w', EncTo w0 g F0 (bs ++ (putInt rs.length ++ (rs.map rowP).flatMap rowB)) F' w' → K (.tuple #[]) w') : CallK Tryz.prog 53 #[.pointer (some ⟨g, 0, none⟩), .slice A rs.length c, .func (.func 27) #[] #[]] K w := by
  refine F53_calls _ _ _ _ _ ?_; unfold F53
  have hln := in64_nat (n := rs.length) (by omega)
  simp (maxSteps := 1000000) (disch := omega) only [genAll, decAll, tk_nil, st53]
  refine ck63 (encI hln (EncTo.start h.here) (by omega) ?_)
  intro F1 w1 h1
  have l1 := pI_len hln
  simp (maxSteps := 1000000) (disch := omega) only [genAll, decAll, tk_nil, st53]
  refine loopK1 (fun v w' => ∃ (i : Nat) (F' : Option Nat), v = .int .i64 i ∧ i ≤ rs.length ∧ EncTo w g F (bs ++ (putInt rs.length ++ ((rs.take i).map rowP).flatMap rowB)) F' w') (fun v _ => rs.length - (intOf v).toNat) ⟨0, F1, rfl, by omega, by simpa using h1⟩ ?_
  rintro _ _ w2 ⟨i, F2, rfl, hi2, h2⟩
  by_cases hlt : i < rs.length
  · obtain ⟨r2, s2⟩ := h2.rows hr hsp
    obtain ⟨b, o, hA, z0, z1, z2, z3, z4, z5⟩ := row_at r2.1 hlt
    subst hA
    have hat := r2.get hlt
    have hats := s2.2 _ (getD_mem hlt)
    obtain ⟨hsm, hck⟩ := hs _ (getD_mem hlt)
    have hsn := rowP_snoc rs i hlt
    have hpf := rowsB_ok (rs.take i) (fun r hr => hs r (List.mem_of_mem_take hr))
    rw [List.length_take] at hpf
    have hmul : (min i rs.length) * 7000 ≤ 64 * 7000 := Nat.mul_le_mul_right 7000 (by omega)
    generalize rs.getD i default = r at *
    obtain ⟨key, s, B, d, hs'⟩ := r
    simp only at z0 z1 z2 z3 z4 z5 hat hats
    obtain ⟨q3, b3, s3⟩ := newb w2 #[.string key, .int .i64 s.1, .int .i64 s.2.1, .int .i64 s.2.2.1, .string s.2.2.2, .slice B hs'.length d] 26
    simp (maxSteps := 1000000) (disch := omega) only [genAll, decAll, tk_nil, st53, z0, z1, z2, z3, z4, z5]
    generalize (w2.alloc (.cells #[.string key, .int .i64 s.1, .int .i64 s.2.1, .int .i64 s.2.2.1, .string s.2.2.2, .slice B hs'.length d] 26)) = w3 at *
    obtain ⟨x0, x1, x2, x3, x4, x5⟩ := cell6 b3
    simp (maxSteps := 1000000) (disch := omega) only [genAll, decAll, tk_nil, st53, x0, x1, x2, x3, x4, x5]
    refine ck27 (putR_any (key := key) (s := s) (hs := hs') (h2.quiet q3) (hat.quiet q3) hats hsm (by simp only [List.length_append]; omega) ?_)
    intro F4 w4 h4
    simp (maxSteps := 1000000) (disch := omega) only [genAll, decAll, tk_nil, st53]
    have e : rowP (key, s, B, d, hs') = (key, s, hs'.map attP) := rfl
    rw [e] at hsn
    rw [List.append_assoc, List.append_assoc, ← hsn] at h4
    exact ⟨⟨i + 1, F4, by go_num, by omega, h4⟩, by simp [rel, intOf]; omega⟩
  · obtain rfl : i = rs.length := by omega
    rw [List.take_length] at h2
    simp (maxSteps := 1000000) (disch := omega) only [genAll, decAll, tk_nil, st53]
    exact hK _ _ (h.comp Qt.refl h2)
set_option maxHeartbeats 1000000 in
theorem right_any {rs : List RowH} {A : Option Addr} {c : Nat} {w : World} {K : Value → World → Prop} (ha : RowsAt w A rs) (hs : ∀ r ∈ rs, SmallH r) (hm : MaxAt w)
    (hK : ∀ w', Qt w w' → K (.int .i64 (rightR (rs.map rowP))) w') : CallK Tryz.prog 50 #[.slice A rs.length c] K w := by
  refine F50_calls _ _ _ ?_; unfold F50
  unfold rightR at hK
  rw [List.length_map] at hK
  by_cases h64 : 64 < rs.length
  · rw [if_pos h64] at hK
    simp (maxSteps := 1000000) (disch := omega) only [genAll, decAll, tk_nil, st50]
    exact hK w Qt.refl
  rw [if_neg h64] at hK
  simp (maxSteps := 1000000) (disch := omega) only [genAll, decAll, tk_nil, st50]
  refine loopK1 (fun v w' => ∃ i : Nat, v = .int .i64 i ∧ i ≤ rs.length ∧ badR (rs.map rowP) = badR ((rs.map rowP).drop i) ∧ Qt w w') (fun v _ => rs.length - (intOf v).toNat) ⟨0, rfl, by omega, rfl, Qt.refl⟩ ?_
  rintro _ _ w1 ⟨i, rfl, hi, hlo, q1⟩
  by_cases hlt : i < rs.length
  · rw [badR_at (by rw [List.length_map]; exact hlt), rowP_getD] at hlo
    obtain ⟨g, o, rfl, z0, z1, z2, z3, z4, z5⟩ := row_at (ha.1.quiet q1) hlt
    have hsm := hs _ (getD_mem hlt)
    have hg := (good_of (ha.get hlt) hsm).quiet q1
    generalize rs.getD i default = r at *
    obtain ⟨key, s, B, d, hs'⟩ := r
    simp only at z0 z1 z2 z3 z4 z5 hg
    obtain ⟨q2, h2, s2⟩ := newb w1 #[.string key, .int .i64 s.1, .int .i64 s.2.1, .int .i64 s.2.2.1, .string s.2.2.2, .slice B hs'.length d] 26
    simp (maxSteps := 1000000) (disch := omega) only [genAll, decAll, tk_nil, st50, z0, z1, z2, z3, z4, z5]
    generalize (w1.alloc (.cells #[.string key, .int .i64 s.1, .int .i64 s.2.1, .int .i64 s.2.2.1, .string s.2.2.2, .slice B hs'.length d] 26)) = w2 at *
    obtain ⟨x0, x1, x2, x3, x4, x5⟩ := cell6 h2
    have q02 := q1.trans q2
    simp (maxSteps := 1000000) (disch := omega) only [genAll, decAll, tk_nil, st50, x0, x1, x2, x3, x4, x5]
    have ho : s.2.2.2.size ≤ 100 := hsm.2.1
    refine ck44 (checkR_any (hg.quiet q2) (by omega) (hm.quiet q02) ?_)
    intro w3 q3
    have e : rowP (key, s, B, d, hs') = (key, s, hs'.map attP) := rfl
    rw [e] at hlo
    generalize checkR (key, s, hs'.map attP) = x at *
    by_cases hv : x = 0
    · have e : (x != 0) = false := by rw [hv]; rfl
      rw [if_neg (fun h => h hv)] at hlo
      simp (maxSteps := 1000000) (disch := omega) only [genAll, decAll, tk_nil, st50, e]
      exact ⟨⟨i + 1, by go_num, by omega, hlo, q02.trans q3⟩, by simp [rel, intOf]; omega⟩
    · have e : (x != 0) = true := by rw [bne_iff_ne]; exact hv
      rw [if_pos hv] at hlo
      rw [hlo] at hK
      simp (maxSteps := 1000000) (disch := omega) only [genAll, decAll, tk_nil, st50, e]
      exact hK _ (q02.trans q3)
  · have e0 : (rs.map rowP).drop i = [] := List.drop_eq_nil_of_le (by rw [List.length_map]; omega)
    rw [e0] at hlo
    rw [hlo] at hK
    simp (maxSteps := 1000000) (disch := omega) only [genAll, decAll, tk_nil, st50]
    exact hK _ q1
/-- What Encode tells of a row, All of rows. -/
def encL (r : RowD) : List UInt8 × Int := if checkR r ≠ 0 then ([], checkR r) else (sealed (rowB r), 0)
def allL (l : List RowD) : List UInt8 × Int := if rightR l ≠ 0 then ([], rightR l) else (sealed (rowsB l), 0)
set_option maxHeartbeats 1000000 in
theorem encode_any {key : ByteArray} {s : Stm} {hs : List AttH} {A : Option Addr} {c : Nat} {w : World} {K : Value → World → Prop} (ha : AttsAt w A hs) (hsm : SmallR key s hs) (hm : MaxAt w)
    (hK : ∀ A' c' w', Reads w' A' ((encL (key, s, hs.map attP)).1.map vb) → (encL (key, s, hs.map attP)).1.length ≤ c' → Qt w w' → K (.tuple #[.slice A' (encL (key, s, hs.map attP)).1.length c', .int .i64 (encL (key, s, hs.map attP)).2]) w') : CallK Tryz.prog 10 #[rowV key s A hs.length c] K w := by
  refine F10_calls _ _ _ ?_; unfold F10
  simp (maxSteps := 1000000) (disch := omega) only [genAll, decAll, tk_nil, st10, st45]
  obtain ⟨q1, h1, e1⟩ := newb w #[.string key, .int .i64 s.1, .int .i64 s.2.1, .int .i64 s.2.2.1, .string s.2.2.2, .slice A hs.length c] 26
  generalize (w.alloc (.cells #[.string key, .int .i64 s.1, .int .i64 s.2.1, .int .i64 s.2.2.1, .string s.2.2.2, .slice A hs.length c] 26)) = w1 at *
  have X := fun w' (q : Qt w1 w') => cell6 (q.heap h1 (fun h => h))
  generalize w.heap.size = b at *
  obtain ⟨x0, x1, x2, x3, x4, x5⟩ := X w1 Qt.refl
  simp (maxSteps := 1000000) (disch := omega) only [genAll, decAll, tk_nil, st10, st45, x0, x1, x2, x3, x4, x5]
  have ho : s.2.2.2.size ≤ 100 := hsm.2.1
  have hg : RowGood w key s A hs := good_of (r := (key, s, A, c, hs)) ha hsm
  refine ck44 (checkR_any (hg.quiet q1) (by omega) (hm.quiet q1) ?_)
  intro w2 q2
  have q02 := q1.trans q2
  unfold encL at hK
  have hlb := rowB_len hsm
  by_cases hv : checkR (key, s, hs.map attP) = 0
  case neg =>
    have e : (checkR (key, s, hs.map attP) != 0) = true := by rw [bne_iff_ne]; exact hv
    rw [if_pos hv] at hK
    simp (maxSteps := 1000000) (disch := omega) only [genAll, decAll, tk_nil, st10, st45, e]
    exact hK none 0 _ (.inl rfl) (Nat.le_refl _) q02
  have e : (checkR (key, s, hs.map attP) != 0) = false := by rw [hv]; rfl
  rw [if_neg (fun h => h hv)] at hK
  obtain ⟨x0, x1, x2, x3, x4, x5⟩ := X w2 q2
  simp (maxSteps := 1000000) (disch := omega) only [genAll, decAll, tk_nil, st10, st45, e, x0, x1, x2, x3, x4, x5]
  refine ck45 ?_
  refine F45_calls _ _ _ _ ?_; unfold F45
  simp (maxSteps := 1000000) (disch := omega) only [genAll, decAll, tk_nil, st10, st45]
  obtain ⟨q3, h3, e3⟩ := newb w2 #[.string key, .int .i64 s.1, .int .i64 s.2.1, .int .i64 s.2.2.1, .string s.2.2.2, .slice A hs.length c] 26
  generalize (w2.alloc (.cells #[.string key, .int .i64 s.1, .int .i64 s.2.1, .int .i64 s.2.2.1, .string s.2.2.2, .slice A hs.length c] 26)) = w3 at *
  have he := enc_new w3
  rw [e3] at he
  have q4 : Qt w3 (w3.alloc (.cells #[.slice none 0 0] 67)) := Chg.alloc Qt.refl _
  have h4 := q4.heap h3 (fun h => h)
  generalize (w3.alloc (.cells #[.slice none 0 0] 67)) = w4 at *
  obtain ⟨y0, y1, y2, y3, y4, y5⟩ := cell6 h4
  have q04 := q02.trans (q3.trans q4)
  have hr4 := ha.quiet q04
  have hlow : ∀ k, ES (w2.heap.size + 1) none k → w.heap.size ≤ k := fun k hk => hk.elim (fun e => by have := q02.size; omega) (fun e => by cases e)
  simp (maxSteps := 1000000) (disch := omega) only [genAll, decAll, tk_nil, st10, st45, y0, y1, y2, y3, y4, y5]
  refine ck27 (putR_any (EncTo.start he) hr4 (ha.low hlow) hsm (by simp) ?_)
  intro F5 w5 e5
  rw [List.nil_append] at e5
  simp (maxSteps := 1000000) (disch := omega) only [genAll, decAll, tk_nil, st10, st45]
  have q05 : Qt w w5 := Qt.then q04 e5.chg hlow
  refine ck33 (enc_bytes e5.here (by omega) ?_)
  intro A6 c6 w6 r6 q6
  simp (maxSteps := 1000000) (disch := omega) only [genAll, decAll, tk_nil, st10, st45]
  refine ck90 (seal_any r6 (by omega) ?_)
  intro A7 c7 w7 hc7 r7 q7
  simp (maxSteps := 1000000) (disch := omega) only [genAll, decAll, tk_nil, st10, st45]
  exact hK A7 c7 _ r7 hc7 (q05.trans (q6.trans q7))
set_option maxHeartbeats 1000000 in
theorem all_any {rs : List RowH} {A : Option Addr} {c : Nat} {w : World} {K : Value → World → Prop} (ha : RowsAt w A rs) (hs : ∀ r ∈ rs, SmallH r) (hm : MaxAt w)
    (hK : ∀ A' c' w', Reads w' A' ((allL (rs.map rowP)).1.map vb) → (allL (rs.map rowP)).1.length ≤ c' → Qt w w' → K (.tuple #[.slice A' (allL (rs.map rowP)).1.length c', .int .i64 (allL (rs.map rowP)).2]) w') : CallK Tryz.prog 16 #[.slice A rs.length c] K w := by
  refine F16_calls _ _ _ ?_; unfold F16
  refine ck50 (right_any ha hs hm ?_)
  intro w2 q02
  unfold allL at hK
  by_cases hv : rightR (rs.map rowP) = 0
  case neg =>
    have e : (rightR (rs.map rowP) != 0) = true := by rw [bne_iff_ne]; exact hv
    rw [if_pos hv] at hK
    simp (maxSteps := 1000000) (disch := omega) only [genAll, decAll, tk_nil, st16, st51, e]
    exact hK none 0 _ (.inl rfl) (Nat.le_refl _) q02
  have e : (rightR (rs.map rowP) != 0) = false := by rw [hv]; rfl
  rw [if_neg (fun h => h hv)] at hK
  have hv' := hv
  unfold rightR at hv'
  rw [List.length_map] at hv'
  have h64 : rs.length ≤ 64 := by
    by_cases h : 64 < rs.length
    · rw [if_pos h] at hv'; cases hv'
    · omega
  rw [if_neg (by omega)] at hv'
  have hall : ∀ r ∈ rs, SmallH r ∧ checkR (rowP r) = 0 := fun r hr => ⟨hs r hr, badR_zero _ hv' _ (List.mem_map_of_mem hr)⟩
  have hlb := rowsB_ok rs hall
  simp (maxSteps := 1000000) (disch := omega) only [genAll, decAll, tk_nil, st16, st51, e]
  refine ck51 ?_
  refine F51_calls _ _ _ _ ?_; unfold F51
  simp (maxSteps := 1000000) (disch := omega) only [genAll, decAll, tk_nil, st16, st51]
  have he := enc_new w2
  have q4 : Qt w2 (w2.alloc (.cells #[.slice none 0 0] 67)) := Chg.alloc Qt.refl _
  generalize (w2.alloc (.cells #[.slice none 0 0] 67)) = w4 at *
  have q04 := q02.trans q4
  have hr4 := ha.quiet q04
  have hlow : ∀ k, ES w2.heap.size none k → w.heap.size ≤ k := fun k hk => hk.elim (fun e => by have := q02.size; omega) (fun e => by cases e)
  refine ck52 ?_
  refine F52_calls _ _ _ _ ?_; unfold F52
  refine ck53 (putRows_any (EncTo.start he) hr4 (ha.low hlow) h64 hall (by simp) ?_)
  intro F5 w5 e5
  have erb : ([] : List UInt8) ++ (putInt rs.length ++ (rs.map rowP).flatMap rowB) = rowsB (rs.map rowP) := by unfold rowsB; rw [List.length_map]; rfl
  rw [erb] at e5
  have hl5 : (rowsB (rs.map rowP)).length ≤ 500000 := by
    rw [← erb]
    simp only [List.length_append, List.length_nil]
    have := pI_len (in64_nat (n := rs.length) (by omega))
    omega
  simp (maxSteps := 1000000) (disch := omega) only [genAll, decAll, tk_nil, st16, st51]
  have q05 : Qt w w5 := Qt.then q04 e5.chg hlow
  refine ck33 (enc_bytes e5.here (by omega) ?_)
  intro A6 c6 w6 r6 q6
  simp (maxSteps := 1000000) (disch := omega) only [genAll, decAll, tk_nil, st16, st51]
  refine ck90 (seal_any r6 (by omega) ?_)
  intro A7 c7 w7 hc7 r7 q7
  simp (maxSteps := 1000000) (disch := omega) only [genAll, decAll, tk_nil, st16, st51]
  exact hK A7 c7 _ r7 hc7 (q05.trans (q6.trans q7))
end Go.Proofs.YtpjeohellehgjaaGreatDoor
end

section
/- The reference's decoder (cantonref7.Dec): the same answers as the program's. Conditions: at most 10000000 bytes. -/
set_option maxRecDepth 10000000
set_option linter.unusedVariables false
set_option linter.unusedSimpArgs false
namespace Go.Proofs.YtpjeohellehgjaaGreatDoor
open Go.RowKit Go.Cn Go.Cn.Num
def RefAt (w : World) (g : Nat) (e : Int) (r : List UInt8) (D : Option Nat) : Prop :=
  ∃ (A : Option Addr) (c : Nat) (b : List UInt8) (a : Nat), w.heap[g]? = some (.cells #[.slice A b.length c, .int .i64 a, .int .i64 e] 112 (0, 0)) ∧ Reads w A (b.map vb) ∧ b.length ≤ 10000000 ∧ b.length ≤ c ∧ a ≤ b.length ∧ r = b.drop a ∧ (∀ ad, A = some ad → b ≠ [] → D = some ad.block) ∧ D ≠ some g
theorem reads_chg7 {w w' : World} {A : Option Addr} {b : List UInt8} {D : Option Nat} {S : Nat → Prop} (h2 : Reads w A (b.map vb)) (h7 : ∀ ad, A = some ad → b ≠ [] → D = some ad.block) (c : Chg S w w') (hD : ∀ k, D = some k → ¬ S k) : Reads w' A (b.map vb) := by
  by_cases hb : b = []
  · subst hb; exact .inl rfl
  · exact h2.chg c (fun ad e => hD _ (h7 ad e hb))
theorem RefAt.chg {w w' : World} {g : Nat} {e : Int} {r : List UInt8} {D : Option Nat} {S : Nat → Prop} (h : RefAt w g e r D) (c : Chg S w w') (hg : ¬ S g) (hD : ∀ k, D = some k → ¬ S k) : RefAt w' g e r D := by
  obtain ⟨A, cp, b, a, h1, h2, h3, h4, h5, h6, h7, h8⟩ := h
  exact ⟨A, cp, b, a, c.heap h1 hg, reads_chg7 h2 h7 c hD, h3, h4, h5, h6, h7, h8⟩
theorem ref_set1 {w : World} {g : Nat} {a b c x : Value} {t : TypeId} (h : w.heap[g]? = some (.cells #[a, b, c] t (0, 0))) : (w.setCell ⟨g, 1, none⟩ x).heap[g]? = some (.cells #[a, x, c] t (0, 0)) := by
  rw [blk_set h]; rfl
theorem ref_set2 {w : World} {g : Nat} {a b c x : Value} {t : TypeId} (h : w.heap[g]? = some (.cells #[a, b, c] t (0, 0))) : (w.setCell ⟨g, 2, none⟩ x).heap[g]? = some (.cells #[a, b, x] t (0, 0)) := by
  rw [blk_set h]; rfl
theorem ref_bad {w : World} {g : Nat} {e e' : Int} {r : List UInt8} {D : Option Nat} (h : RefAt w g e r D) : RefAt (w.setCell ⟨g, 2, none⟩ (.int .i64 e')) g e' r D := by
  obtain ⟨A, cp, b, a, h1, h2, h3, h4, h5, h6, h7, h8⟩ := h
  exact ⟨A, cp, b, a, ref_set2 h1, reads_chg7 h2 h7 ((Chg.refl (fun k => k = g) w).setCell (p := ⟨g, 2, none⟩) (.inl rfl) _) (fun k hk h => h8 (by rw [hk, h])), h3, h4, h5, h6, h7, h8⟩
theorem ref_err {w : World} {g : Nat} {e : Int} {r : List UInt8} {D : Option Nat} (h : RefAt w g e r D) : w.cell? ⟨g, 2, none⟩ = some (.int .i64 e) ∧ w.frozen? ⟨g, 2, none⟩ = false := by
  obtain ⟨A, cp, b, a, h1, _⟩ := h
  exact ⟨by rw [blk_cell h1]; rfl, blk_frozen h1 2⟩
theorem ref_chg {w : World} {g : Nat} {i : Nat} {v : Value} : Chg (fun k => k = g) w (w.setCell ⟨g, i, none⟩ v) := (Chg.refl (fun k => k = g) w).setCell (p := ⟨g, i, none⟩) (.inl rfl) _
theorem and127 (x : Nat) (h : x < 256) : bits .and .u64 (x : Int) 127 = ((x % 128 : Nat) : Int) := by
  have h2 := bits_and_u64_nat x 127 (by omega) (by omega)
  rw [show ((127 : Nat) : Int) = 127 from rfl] at h2
  rw [h2, Nat.and_two_pow_sub_one_eq_mod x 7]
theorem and1 (x : Nat) (h : x < 2 ^ 64) : bits .and .u64 (x : Int) 1 = ((x % 2 : Nat) : Int) := by
  have ha := bits_and_u64_nat x 1 (by omega) (by omega)
  rw [show ((1 : Nat) : Int) = 1 from rfl, Nat.and_one_is_mod] at ha
  exact ha
theorem half64 (v : Nat) (h : v < 2 ^ 64) : IntKind.i64.wrap ((v : Int) / (2 : Int) ^ min (Int.toNat 1) 64) = ((v / 2 : Nat) : Int) := by
  rw [show min (Int.toNat 1) 64 = 1 from rfl, IntKind.wrap_i64]; omega
theorem u64_byte (x : Nat) (h : x < 256) : IntKind.u64.wrap (x : Int) = (x : Int) := u64_nat x (by omega)
theorem u64_7 (j : Nat) (h : j ≤ 10) : IntKind.u64.wrap (7 * (j : Int)) = 7 * (j : Int) := by
  have := u64_nat (7 * j) (by omega)
  simpa using this
set_option maxHeartbeats 100000000 in
theorem int_ref {g : Nat} {e : Int} {r : List UInt8} {D : Option Nat} {w : World} {K : Value → World → Prop} (h : RefAt w g e r D)
    (hK : ∀ w', RefAt w' g (intD e r).2.1 (intD e r).2.2 D → Chg (fun k => k = g) w w' → K (.int .i64 (intD e r).1) w') : CallK Tryz.prog 97 #[.pointer (some ⟨g, 0, none⟩)] K w := by
  refine F97_calls _ _ _ ?_; unfold F97
  obtain ⟨c2, f2⟩ := ref_err h
  by_cases hne : ¬ e = 0
  · have he := hne
    have hdd : intD e r = (0, e, r) := if_neg he
    rw [hdd] at hK
    simp (maxSteps := 1000000) (disch := omega) only [genAll, decAll, tk_nil, st97, c2]
    exact hK w h (Chg.refl _ _)
  have he : e = 0 := Decidable.not_not.1 hne
  clear hne
  have hdd : intD e r = if (numD 0 0 r).1 = 0 then (uz (numD 0 0 r).2.1, 0, (numD 0 0 r).2.2) else (0, (numD 0 0 r).1, r) := if_pos he
  rw [hdd] at hK
  subst he
  obtain ⟨A, cp, b, a, h1, h2, h3, h4, h5, h6, h7, h8⟩ := id h
  have c0 : w.cell? ⟨g, 0, none⟩ = some (.slice A b.length cp) := by rw [blk_cell h1]; rfl
  have c1 : w.cell? ⟨g, 1, none⟩ = some (.int .i64 a) := by rw [blk_cell h1]; rfl
  have f1 : w.frozen? ⟨g, 1, none⟩ = false := blk_frozen h1 1
  have hrl : r.length = b.length - a := by rw [h6, List.length_drop]
  simp (maxSteps := 1000000) (disch := omega) only [genAll, decAll, tk_nil, st97, c2]
  refine loopK2 (fun v i w' => Qt w w' ∧ ∃ (j u : Nat), i = .int .i64 j ∧ v = .int .u64 u ∧ j ≤ r.length ∧ j ≤ 9 ∧ u < 2 ^ (7 * j) ∧ numD j u (r.drop j) = numD 0 0 r) (fun _ i _ => 10 - (intOf i).toNat) ⟨Qt.refl, 0, 0, rfl, rfl, by omega, by omega, by simp, rfl⟩ ?_
  rintro _ _ _ w' ⟨hqw, j, u, rfl, rfl, hj, hj9, hu, hnum⟩
  replace hK := fun wx a (b : Chg (fun k => k = g) w' wx) => hK wx a ((hqw.mono (fun _ _ h => h.elim)).trans b)
  replace h := h.chg hqw (fun h => h) (fun _ _ h => h)
  replace c0 := hqw.cell c0 (fun h => h)
  replace c1 := hqw.cell c1 (fun h => h)
  replace c2 := hqw.cell c2 (fun h => h)
  replace h1 := hqw.heap h1 (fun h => h)
  replace h2 := h2.quiet hqw
  replace f1 : w'.frozen? ⟨g, 1, none⟩ = false := blk_frozen h1 1
  replace f2 : w'.frozen? ⟨g, 2, none⟩ = false := blk_frozen h1 2
  simp (maxSteps := 1000000) (disch := omega) only [genAll, decAll, tk_nil, st97]
  refine drawK_here ?_
  simp (maxSteps := 1000000) (disch := omega) only [genAll, decAll, tk_nil, st97, c0, c1]
  have fin : ∀ (e' : Int) (wx : World), Qt w' wx → numD 0 0 r = (e', 0, []) → e' ≠ 0 → K (.int .i64 0) (wx.setCell ⟨g, 2, none⟩ (.int .i64 e')) := by
    intro e' wx hq hn he'
    rw [hn] at hK
    simp only [if_neg he'] at hK
    exact hK _ (ref_bad (h.chg hq (fun h => h) (fun _ _ h => h))) ((hq.mono (fun _ _ h => h.elim)).trans ref_chg)
  by_cases hge : ¬ j < r.length
  · rw [List.drop_eq_nil_of_le (by omega), numD] at hnum
    have hje : ((a : Int) + j == (b.length : Int)) = true := beq_iff_eq.2 (by omega)
    simp (maxSteps := 1000000) (disch := omega) only [genAll, decAll, tk_nil, st97, guardK_u, c2, f2]
    exact fin 3 _ Qt.refl.drew hnum.symm (by omega)
  have hlt : j < r.length := Decidable.not_not.1 hge
  clear hge
  have h7' := h7
  clear h7
  obtain ⟨bb, o, rfl, hcell⟩ := h2.get (show a + j < b.length by omega)
  have hx : b.getD (a + j) default = r.getD j default := by
    rw [h6]; simp [List.getD_eq_getElem?_getD, List.getElem?_drop]
  rw [hx] at hcell
  have hdr : r.drop j = r.getD j default :: r.drop (j + 1) := by
    rw [List.drop_eq_getElem_cons hlt]; simp [hlt]
  have hdb : b.drop (a + (j + 1)) = r.drop (j + 1) := by rw [h6, List.drop_drop]
  rw [hdr] at hnum
  clear hx hdr
  generalize r.getD j default = x at *
  have hx := UInt8.toNat_lt x
  simp only [vb] at hcell
  rw [numD] at hnum
  have hm : x.toNat % 128 < 128 := Nat.mod_lt _ (by omega)
  have haj : ((a : Int) + j).toNat = a + j := by omega
  have hje : ((a : Int) + j == (b.length : Int)) = false := beq_eq_false_iff_ne.2 (by omega)
  simp (maxSteps := 1000000) (disch := omega) only [genAll, decAll, tk_nil, st97, hje]
  refine drawK_here ?_
  have hu64 := u64_byte x.toNat hx
  simp (maxSteps := 1000000) (disch := omega) only [genAll, decAll, tk_nil, st97, c0, c1, haj, hcell, hu64]
  have q0 : Qt w' w'.drew.drew := Qt.refl.drew.drew
  by_cases hbad : (j = 9 ∧ 1 < x.toNat) ∨ (0 < j ∧ x.toNat = 0)
  · rw [if_pos hbad] at hnum
    have hfin := fin 2 _ q0 hnum.symm (by omega)
    rcases hbad with ⟨h9, hx1⟩ | ⟨hj0, hx0⟩
    · simp (maxSteps := 1000000) (disch := omega) only [genAll, decAll, tk_nil, st97, guardK_u, c2, f2]
      exact hfin
    · by_cases h9 : j = 9
      · simp (maxSteps := 1000000) (disch := omega) only [genAll, decAll, tk_nil, st97, guardK_u, c2, f2]
        exact hfin
      · simp (maxSteps := 1000000) (disch := omega) only [genAll, decAll, tk_nil, st97, guardK_u, c2, f2]
        exact hfin
  · rw [if_neg hbad] at hnum
    have hso := shl_or u (x.toNat % 128) j hj9 hu hm (fun h => by omega)
    have h127 := and127 x.toNat hx
    have h7 := u64_7 j (by omega)
    generalize hu2 : u + x.toNat % 128 * 2 ^ (7 * j) = u2 at *
    have q1 := q0
    by_cases hlast : x.toNat < 128
    · rw [if_pos hlast] at hnum
      have hu2b : u2 < 2 ^ 64 := by
        have := numD_lt r 0 0 (by omega) (by simp)
        rw [← hnum] at this
        exact this
      have hfin : ∀ wx, Qt w' wx → K (.int .i64 (uz u2)) (wx.setCell ⟨g, 1, none⟩ (.int .i64 ((a + (j + 1) : Nat) : Int))) := by
        intro wx hq
        rw [← hnum] at hK
        refine hK _ ?_ ((hq.mono (fun _ _ h => h.elim)).trans ref_chg)
        obtain ⟨A', cp', b', a', e1, e2, e3, e4, e5, e6, e7, e8⟩ := h.chg hq (fun h => h) (fun _ _ h => h)
        have e1' : wx.heap[g]? = _ := hq.heap h1 (fun h => h)
        rw [e1'] at e1
        simp only [Option.some.injEq, Obj.cells.injEq, Array.mk.injEq, List.cons.injEq, Value.slice.injEq, Value.int.injEq] at e1
        exact ⟨some ⟨bb, o, none⟩, cp, b, a + (j + 1), ref_set1 e1', reads_chg7 (h2.quiet hq) h7' (ref_chg (g := g)) (fun k hk h => h8 (by rw [hk, h])), h3, h4, by omega, by rw [hdb]; rfl, h7', h8⟩
      have hsh := half64 u2 hu2b
      have h11 := and1 u2 hu2b
      have hT : (a : Int) + ((j : Int) + 1) = ((a + (j + 1) : Nat) : Int) := by omega
      have huz : uz u2 = if u2 % 2 = 0 then ((u2 / 2 : Nat) : Int) else -((u2 / 2 : Nat) : Int) - 1 := rfl
      rw [huz] at hfin
      rcases Nat.mod_two_eq_zero_or_one u2 with hm2 | hm2
      · rw [if_pos hm2] at hfin
        rw [hm2] at h11
        by_cases j9 : j = 9
        · simp (maxSteps := 1000000) (disch := omega) only [genAll, decAll, tk_nil, st97, guardK_u, h127, h7, hso, c1, f1, hsh, h11, hT]
          exact hfin _ q0
        · by_cases j0 : j = 0
          · simp (maxSteps := 1000000) (disch := omega) only [genAll, decAll, tk_nil, st97, guardK_u, h127, h7, hso, c1, f1, hsh, h11, hT]
            exact hfin _ q0
          · have hx0 : ¬ x.toNat = 0 := fun h => hbad (.inr ⟨by omega, h⟩)
            simp (maxSteps := 1000000) (disch := omega) only [genAll, decAll, tk_nil, st97, guardK_u, h127, h7, hso, c1, f1, hsh, h11, hT]
            exact hfin _ q0
      · rw [if_neg (by omega)] at hfin
        rw [hm2] at h11
        have e1 : (0 : Int) - ((u2 / 2 : Nat) : Int) = -((u2 / 2 : Nat) : Int) := by omega
        by_cases j9 : j = 9
        · simp (maxSteps := 1000000) (disch := omega) only [genAll, decAll, tk_nil, st97, guardK_u, h127, h7, hso, c1, f1, hsh, h11, hT, e1]
          exact hfin _ q0
        · by_cases j0 : j = 0
          · simp (maxSteps := 1000000) (disch := omega) only [genAll, decAll, tk_nil, st97, guardK_u, h127, h7, hso, c1, f1, hsh, h11, hT, e1]
            exact hfin _ q0
          · have hx0 : ¬ x.toNat = 0 := fun h => hbad (.inr ⟨by omega, h⟩)
            simp (maxSteps := 1000000) (disch := omega) only [genAll, decAll, tk_nil, st97, guardK_u, h127, h7, hso, c1, f1, hsh, h11, hT, e1]
            exact hfin _ q0
    · rw [if_neg hlast] at hnum
      have hj8 : j ≤ 8 := by omega
      have hu2 : u2 < 2 ^ (7 * (j + 1)) := by
        have h2 : x.toNat % 128 * 2 ^ (7 * j) ≤ 127 * 2 ^ (7 * j) := Nat.mul_le_mul_right _ (by omega)
        have h3 : 2 ^ (7 * (j + 1)) = 128 * 2 ^ (7 * j) := by rw [show 7 * (j + 1) = 7 + 7 * j by omega, Nat.pow_add]
        rw [h3]; omega
      by_cases j0 : j = 0
      · simp (maxSteps := 1000000) (disch := omega) only [genAll, decAll, tk_nil, st97, guardK_u, h127, h7, hso]
        exact ⟨⟨hqw.trans q0, j + 1, u2, by go_num, rfl, by omega, by omega, hu2, hnum⟩, by simp [rel, intOf]; omega⟩
      · have hx0 : ¬ x.toNat = 0 := fun h => hbad (.inr ⟨by omega, h⟩)
        simp (maxSteps := 1000000) (disch := omega) only [genAll, decAll, tk_nil, st97, guardK_u, h127, h7, hso]
        exact ⟨⟨hqw.trans q0, j + 1, u2, by go_num, rfl, by omega, by omega, hu2, hnum⟩, by simp [rel, intOf]; omega⟩
end Go.Proofs.YtpjeohellehgjaaGreatDoor
end

section
/- The reference's decoder: Text, Many, Left. Conditions: at most 10000000 bytes. -/
set_option maxRecDepth 10000000
set_option linter.unusedVariables false
set_option linter.unusedSimpArgs false
namespace Go.Proofs.YtpjeohellehgjaaGreatDoor
open Go.RowKit Go.Cn Go.Cn.Num
theorem sl_0 (A : Option Addr) (cp : Nat) (K : Value → World → Prop) (w : World) (h : K (.slice A 0 cp) w) : SliceK Tryz.prog 29 (.slice A 0 cp) (some (.int .i64 0)) (some (.int .i64 0)) none K w := by
  cases A with
  | none => unfold SliceK; go_simp; exact h
  | some ad => unfold SliceK; go_simp; exact h
theorem reads_takeA {w : World} {A : Option Addr} {l : List UInt8} (hr : Reads w A (l.map vb)) (k : Nat) : Reads w A ((l.take k).map vb) := by
  by_cases hl : 0 < l.length
  · obtain ⟨g, o, rfl, _⟩ := hr.all hl
    exact reads_take hr k
  · obtain rfl : l = [] := List.eq_nil_of_length_eq_zero (by omega)
    simp; exact .inl rfl
theorem left_ref {g : Nat} {e : Int} {r : List UInt8} {D : Option Nat} {w : World} {K : Value → World → Prop} (h : RefAt w g e r D)
    (hK : ∀ w', Qt w w' → K (.int .i64 (leftD e r)) w') : CallK Tryz.prog 61 #[.pointer (some ⟨g, 0, none⟩)] K w := by
  refine F61_calls _ _ _ ?_; unfold F61
  obtain ⟨c2, f2⟩ := ref_err h
  obtain ⟨A, cp, b, a, h1, h2, h3, h4, h5, h6, h7, h8⟩ := id h
  have c0 : w.cell? ⟨g, 0, none⟩ = some (.slice A b.length cp) := by rw [blk_cell h1]; rfl
  have c1 : w.cell? ⟨g, 1, none⟩ = some (.int .i64 a) := by rw [blk_cell h1]; rfl
  have hrl : r.length = b.length - a := by rw [h6, List.length_drop]
  unfold leftD at hK
  by_cases he : e = 0
  · rw [if_pos he] at hK
    simp (maxSteps := 1000000) (disch := omega) only [genAll, decAll, tk_nil, st61, c2]
    refine drawK_here ?_
    simp (maxSteps := 1000000) (disch := omega) only [genAll, decAll, tk_nil, st61, c0, c1]
    have e1 : ((b.length : Int) - a) = (r.length : Int) := by omega
    rw [e1]
    exact hK _ Qt.refl.drew
  · rw [if_neg he] at hK
    simp (maxSteps := 1000000) (disch := omega) only [genAll, decAll, tk_nil, st61, c2]
    exact hK _ Qt.refl
theorem many_ref {g : Nat} {e most : Int} {r : List UInt8} {D : Option Nat} {w : World} {K : Value → World → Prop} (h : RefAt w g e r D)
    (hK : ∀ w', RefAt w' g (manyD e r most).2.1 (manyD e r most).2.2 D → Chg (fun k => k = g) w w' → K (.int .i64 (manyD e r most).1) w') : CallK Tryz.prog 62 #[.pointer (some ⟨g, 0, none⟩), .int .i64 most] K w := by
  refine F62_calls _ _ _ _ ?_; unfold F62
  refine ck97 (int_ref h ?_)
  intro w2 h2 hc2
  unfold manyD at hK
  generalize intD e r = q at *
  obtain ⟨n, e1, r1⟩ := q
  simp only at h2 hK ⊢
  obtain ⟨c1, f1⟩ := ref_err h2
  simp (maxSteps := 1000000) (disch := omega) only [genAll, decAll, tk_nil, st62]
  by_cases he : e1 = 0
  · rw [if_neg (by simpa using he)] at hK
    by_cases hb : n < 0 ∨ most < n
    · rw [if_pos hb] at hK
      have hfin := hK _ (ref_bad h2 (e' := 2)) (hc2.trans ref_chg)
      have c1' := (ref_err (ref_bad h2 (e' := 2))).1
      refine cutK0 (fun w' => w' = w2.setCell ⟨g, 2, none⟩ (.int .i64 2)) ?_ ?_
      · by_cases hn : n < 0
        · simp (maxSteps := 1000000) (disch := omega) only [genAll, decAll, tk_nil, st62, guardK_u, c1, f1]
          rfl
        · simp (maxSteps := 1000000) (disch := omega) only [genAll, decAll, tk_nil, st62, guardK_u, c1, f1]
          rfl
      rintro _ _ rfl
      simp (maxSteps := 1000000) (disch := omega) only [genAll, decAll, tk_nil, st62, c1']
      exact hfin
    · rw [if_neg hb] at hK
      refine cutK0 (fun w' => w' = w2) ?_ ?_
      · simp (maxSteps := 1000000) (disch := omega) only [genAll, decAll, tk_nil, st62, guardK_u, c1]
        rfl
      rintro _ w3 hw
      obtain rfl : w3 = w2 := hw
      subst he
      simp (maxSteps := 1000000) (disch := omega) only [genAll, decAll, tk_nil, st62, c1]
      exact hK w3 h2 hc2
  · rw [if_pos he] at hK
    refine cutK0 (fun w' => w' = w2) ?_ ?_
    · simp (maxSteps := 1000000) (disch := omega) only [genAll, decAll, tk_nil, st62, guardK_u, c1]
      rfl
    rintro _ w3 hw
    obtain rfl : w3 = w2 := hw
    simp (maxSteps := 1000000) (disch := omega) only [genAll, decAll, tk_nil, st62, c1]
    exact hK w3 h2 hc2
theorem text_ref {g : Nat} {e : Int} {r : List UInt8} {D : Option Nat} {w : World} {K : Value → World → Prop} (h : RefAt w g e r D)
    (hK : ∀ w', RefAt w' g (textD e r).2.1 (textD e r).2.2 D → Chg (fun k => k = g) w w' → K (.string (txt (textD e r).1)) w') : CallK Tryz.prog 94 #[.pointer (some ⟨g, 0, none⟩)] K w := by
  refine F94_calls _ _ _ ?_; unfold F94
  refine ck97 (int_ref h ?_)
  intro w2 h2 hc2
  unfold textD at hK
  generalize intD e r = q at *
  obtain ⟨n, e1, r1⟩ := q
  simp only at h2 hK ⊢
  obtain ⟨c2, f2⟩ := ref_err h2
  by_cases he : ¬ e1 = 0
  · rw [if_pos he] at hK
    simp (maxSteps := 1000000) (disch := omega) only [genAll, decAll, tk_nil, st94, c2]
    exact hK w2 h2 hc2
  rw [if_neg he] at hK
  replace he : e1 = 0 := Decidable.not_not.1 he
  subst he
  by_cases hn : n < 0
  · rw [if_pos hn] at hK
    simp (maxSteps := 1000000) (disch := omega) only [genAll, decAll, tk_nil, st94, c2, f2]
    exact hK _ (ref_bad h2) (hc2.trans ref_chg)
  rw [if_neg hn] at hK
  obtain ⟨A, cp, b, a, h1, hr, h3, h4, h5, h6, h7, h8⟩ := id h2
  have c0 : w2.cell? ⟨g, 0, none⟩ = some (.slice A b.length cp) := by rw [blk_cell h1]; rfl
  have c1 : w2.cell? ⟨g, 1, none⟩ = some (.int .i64 a) := by rw [blk_cell h1]; rfl
  have f1 : w2.frozen? ⟨g, 1, none⟩ = false := blk_frozen h1 1
  have hrl : r1.length = b.length - a := by rw [h6, List.length_drop]
  simp (maxSteps := 1000000) (disch := omega) only [genAll, decAll, tk_nil, st94, c2]
  refine drawK_here ?_
  simp (maxSteps := 1000000) (disch := omega) only [genAll, decAll, tk_nil, st94, c0, c1]
  by_cases hbig : (r1.length : Int) < n
  · rw [if_pos hbig] at hK
    simp (maxSteps := 1000000) (disch := omega) only [genAll, decAll, tk_nil, st94, c2, f2]
    refine hK _ (ref_bad (h2.chg Qt.refl.drew (fun h => h) (fun _ _ h => h))) (hc2.trans ?_)
    exact (Qt.refl.drew.mono (fun _ _ h => h.elim)).trans ref_chg
  rw [if_neg hbig] at hK
  simp (maxSteps := 1000000) (disch := omega) only [genAll, decAll, tk_nil, st94]
  refine drawK_here ?_
  simp (maxSteps := 1000000) (disch := omega) only [genAll, decAll, tk_nil, st94, c0, c1]
  obtain ⟨k, rfl⟩ := Int.eq_ofNat_of_zero_le (show 0 ≤ n by omega)
  rw [Int.toNat_natCast] at hK
  have hT : (a : Int) + (k : Int) = ((a + k : Nat) : Int) := by omega
  have q0 : Qt w2 w2.drew.drew := Qt.refl.drew.drew
  have hk : k ≤ r1.length := by omega
  have hfin : ∀ wx, Qt w2 wx → K (.string (txt (r1.take k))) (wx.setCell ⟨g, 1, none⟩ (.int .i64 ((a + k : Nat) : Int))) := by
    intro wx hq
    refine hK _ ?_ (hc2.trans ((hq.mono (fun _ _ h => h.elim)).trans ref_chg))
    have e1' : wx.heap[g]? = _ := hq.heap h1 (fun h => h)
    exact ⟨A, cp, b, a + k, ref_set1 e1', reads_chg7 (hr.quiet hq) h7 (ref_chg (g := g)) (fun k hk h => h8 (by rw [hk, h])), h3, h4, by omega, by rw [h6, List.drop_drop], h7, h8⟩
  rw [hT]
  by_cases hb : b.length = 0
  · obtain rfl : b = [] := List.eq_nil_of_length_eq_zero hb
    obtain rfl : a = 0 := by omega
    obtain rfl : k = 0 := by omega
    have hsl := sl_0 A cp
    simp only [List.length_nil, Nat.add_zero, Int.ofNat_zero, Nat.zero_add] at hfin ⊢
    rw [show ((0 : Nat) : Int) = 0 from rfl] at c1
    have ht0 : r1.take 0 = [] := rfl
    rw [ht0] at hfin
    have e00 : (0 : Int) + 0 = 0 := rfl
    refine hsl _ _ ?_
    simp (maxSteps := 1000000) (disch := omega) only [genAll, decAll, tk_nil, st94]
    refine convK (l := []) Tryz.underlying29 Tryz.underlying5 Tryz.underlying9 (.inl rfl) ?_
    simp (maxSteps := 1000000) (disch := omega) only [genAll, decAll, tk_nil, st94, c1, f1, e00]
    exact hfin _ q0
  · obtain ⟨bb, o, rfl, _⟩ := hr.all (by omega)
    have hrd := reads_takeA (reads_drop (n := 0) (hr.quiet q0) h4 a h5) k
    rw [← h6] at hrd
    have hlen : (r1.take k).length = k := by simp; omega
    have hsub : a + k - a = k := by omega
    simp (maxSteps := 1000000) (disch := omega) only [genAll, decAll, tk_nil, st94, hsub]
    refine convK_len hlen.symm Tryz.underlying29 Tryz.underlying5 Tryz.underlying9 hrd ?_
    simp (maxSteps := 1000000) (disch := omega) only [genAll, decAll, tk_nil, st94, c1, f1, hT]
    exact hfin _ q0
end Go.Proofs.YtpjeohellehgjaaGreatDoor
end

section
/- Values and stamps out of bytes: the document's. Condition: the bytes lie there. -/
set_option linter.unusedVariables false
set_option linter.unusedSimpArgs false
set_option maxRecDepth 100000
namespace Go.Proofs.YtpjeohellehgjaaGreatDoor
open Go.RowKit Go.Cn Go.Cn.Num
theorem infoI : (Tryz.prog.info? 2).map (fun i => (i.zero, i.size, i.bytes)) = some (some (.int .i64 0), 1, 8) := by kernel_rfl
theorem tyI : ElemTy Tryz.prog 59 2 (.int .i64 0) 1 8 := ElemTy.mk' Tryz.underlying59 infoI rfl (by decide)
theorem raw4 (w : World) (x y z u : Value) (t : TypeId) : Qt w (w.alloc (.cells #[x, y, z, u] t)) ∧ (w.alloc (.cells #[x, y, z, u] t)).heap[w.heap.size]? = some (.cells #[x, y, z, u] t (0, 0)) := ⟨Chg.alloc Qt.refl _, blk_new _ _⟩
theorem qt_sets {w w1 : World} {b : Nat} {vs : List Value} (q : Qt w w1) (hb : w.heap.size ≤ b) : Qt w (w1.setCells b 0 vs) := Qt.then q (Chg.sets (g := b) (off := 0) (cs := vs)) (fun k hk => by omega)
theorem refUp {w0 w w' : World} {S : Nat → Prop} {g : Nat} (k : Chg (fun k => k = g) w0 w) (c : Chg S w w') (hS : ∀ k, S k → w0.heap.size ≤ k) : Chg (fun k => k = g) w0 w' := Chg.then k c (fun k hk => .inr (hS k hk))
set_option maxHeartbeats 8000000 in
theorem val_ref {g : Nat} {e : Int} {r : List UInt8} {D : Option Nat} {w : World} {K : Value → World → Prop} (h : RefAt w g e r D) (hD : ∀ k, D = some k → k < w.heap.size)
    (hK : ∀ A c w', RefAt w' g (valD e r).2.1 (valD e r).2.2 D → Reads w' A (ints (valD e r).1.2.2.2) → ((valD e r).1.2.2.2 ≠ [] → ∀ ad, A = some ad → w.heap.size ≤ ad.block) → Chg (fun k => k = g) w w' → K (vv (valD e r).1 A c) w') : CallK Tryz.prog 96 #[.pointer (some ⟨g, 0, none⟩)] K w := by
  refine F96_calls _ _ _ ?_; unfold F96
  have hgl : g < w.heap.size := by
    obtain ⟨_, _, _, _, hh, _⟩ := h; exact blk_lt hh
  obtain ⟨q1, b1⟩ := raw4 w (.int .i64 0) (.int .i64 0) (.string ByteArray.empty) (.slice none 0 0) 72
  simp (maxSteps := 1000000) (disch := omega) only [genAll, decAll, tk_nil, st96]
  generalize (w.alloc (.cells #[.int .i64 0, .int .i64 0, .string ByteArray.empty, .slice none 0 0] 72)) = w1 at *
  have s1 := blk_lt b1
  have h1 := h.chg q1 (fun h => h) (fun _ _ h => h)
  have hx := q1.size
  have kk1 : Chg (fun k => k = g) w w1 := q1.mono (fun _ _ h => h.elim)
  generalize hb : w.heap.size = b at *
  refine ck97 (int_ref h1 ?_)
  intro w2 h2 k2
  have b12 := k2.heap b1 (by omega)
  have kk2 := kk1.trans k2
  generalize he1 : (intD e r).2.1 = e1 at *
  generalize hr1 : (intD e r).2.2 = r1 at *
  generalize hkk : (intD e r).1 = kd at *
  obtain ⟨q3, b3⟩ := raw4 w2 (.int .i64 kd) (.int .i64 0) (.string ByteArray.empty) (.slice none 0 0) 72
  simp (maxSteps := 1000000) (disch := omega) only [genAll, decAll, tk_nil, st96]
  have b13 := q3.heap b12 (fun h => h)
  have h3 := h2.chg q3 (fun h => h) (fun _ _ h => h)
  have s2 := k2.size
  generalize (w2.alloc (.cells #[.int .i64 kd, .int .i64 0, .string ByteArray.empty, .slice none 0 0] 72)) = w3 at *
  have s3 := blk_lt b3
  have kk3 : Chg (fun k => k = g) w w3 := refUp kk2 q3 (fun _ h => h.elim)
  generalize hb3 : w2.heap.size = p at *
  have hv0 : valD0 e r = (if kd = 1 then ((1, (intD e1 r1).1, ByteArray.empty, []), (intD e1 r1).2.1, (intD e1 r1).2.2) else if kd = 2 then ((2, 0, txt (textD e1 r1).1, []), (textD e1 r1).2.1, (textD e1 r1).2.2) else if kd = 3 then ((3, 0, ByteArray.empty, (manyF intD (manyD e1 r1 16).1.toNat (manyD e1 r1 16).2.1 (manyD e1 r1 16).2.2).1), (manyF intD (manyD e1 r1 16).1.toNat (manyD e1 r1 16).2.1 (manyD e1 r1 16).2.2).2.1, (manyF intD (manyD e1 r1 16).1.toNat (manyD e1 r1 16).2.1 (manyD e1 r1 16).2.2).2.2) else ((kd, 0, ByteArray.empty, []), e1, r1)) := by
    unfold valD0
    simp only [he1, hr1, hkk]
  refine cutK0 (fun w' => ∃ (A : Option Addr) (c : Nat), w'.heap[p]? = some (.cells #[.int .i64 (valD0 e r).1.1, .int .i64 (valD0 e r).1.2.1, .string (valD0 e r).1.2.2.1, .slice A (valD0 e r).1.2.2.2.length c] 72 (0, 0)) ∧ RefAt w' g (valD0 e r).2.1 (valD0 e r).2.2 D ∧ Reads w' A (ints (valD0 e r).1.2.2.2) ∧ (∀ ad, A = some ad → p < ad.block) ∧ w'.heap[b]? = some (.cells #[.int .i64 0, .int .i64 0, .string ByteArray.empty, .slice none 0 0] 72 (0, 0)) ∧ Chg (fun k => k = g) w w') ?_ ?_
  · obtain ⟨x0, x1, x2, x3⟩ := cell4 b3
    by_cases k1 : kd = 1
    · have g1 : (kd == 1) = true := by rw [k1]; rfl
      rw [if_pos k1] at hv0
      rw [hv0]
      simp (maxSteps := 1000000) (disch := omega) only [genAll, decAll, tk_nil, st96, x0, g1]
      refine ck97 (int_ref h3 ?_)
      intro w4 h4 k4
      have b4 := k4.heap b3 (by omega)
      have b14 := k4.heap b13 (by omega)
      obtain ⟨y0, y1, y2, y3⟩ := cell4 b4
      have z4 := blk_frozen b4 1
      simp (maxSteps := 1000000) (disch := omega) only [genAll, decAll, tk_nil, st96, y1, z4]
      have k5 : Chg (fun k => k = p) w4 (w4.setCell ⟨p, 1, none⟩ (.int .i64 (intD e1 r1).1)) := (Chg.refl (fun k => k = p) w4).setCell (p := ⟨p, _, none⟩) (.inl rfl) _
      refine ⟨none, 0, ?_, h4.chg k5 (by omega) (fun k hk => by have := hD k hk; omega), .inl rfl, fun _ h => (by cases h), k5.heap b14 (by omega), refUp (kk3.trans k4) k5 (fun k hk => by omega)⟩
      rw [blk_set b4, k1]; rfl
    · have g1 : (kd == 1) = false := beq_eq_false_iff_ne.2 k1
      rw [if_neg k1] at hv0
      by_cases k2' : kd = 2
      · have g2 : (kd == 2) = true := by rw [k2']; rfl
        rw [if_pos k2'] at hv0
        rw [hv0]
        simp (maxSteps := 1000000) (disch := omega) only [genAll, decAll, tk_nil, st96, x0, g1, g2]
        refine ck94 (text_ref h3 ?_)
        intro w4 h4 k4
        have b4 := k4.heap b3 (by omega)
        have b14 := k4.heap b13 (by omega)
        obtain ⟨y0, y1, y2, y3⟩ := cell4 b4
        have z4 := blk_frozen b4 2
        simp (maxSteps := 1000000) (disch := omega) only [genAll, decAll, tk_nil, st96, y2, z4]
        have k5 : Chg (fun k => k = p) w4 (w4.setCell ⟨p, 2, none⟩ (.string (txt (textD e1 r1).1))) := (Chg.refl (fun k => k = p) w4).setCell (p := ⟨p, _, none⟩) (.inl rfl) _
        refine ⟨none, 0, ?_, h4.chg k5 (by omega) (fun k hk => by have := hD k hk; omega), .inl rfl, fun _ h => (by cases h), k5.heap b14 (by omega), refUp (kk3.trans k4) k5 (fun k hk => by omega)⟩
        rw [blk_set b4, k2']; rfl
      · have g2 : (kd == 2) = false := beq_eq_false_iff_ne.2 k2'
        rw [if_neg k2'] at hv0
        by_cases k3' : kd = 3
        · have g3 : (kd == 3) = true := by rw [k3']; rfl
          rw [if_pos k3'] at hv0
          rw [hv0]
          simp (maxSteps := 1000000) (disch := omega) only [genAll, decAll, tk_nil, st96, x0, g1, g2, g3]
          refine ck62 (many_ref h3 ?_)
          intro w4 h4 k4
          have b4 := k4.heap b3 (by omega)
          have b14 := k4.heap b13 (by omega)
          have hin := manyD_in e1 16 r1 (by omega)
          generalize hm1 : (manyD e1 r1 16).2.1 = e2 at *
          generalize hm2 : (manyD e1 r1 16).2.2 = r2 at *
          obtain ⟨n, hn⟩ : ∃ n : Nat, (manyD e1 r1 16).1 = n := ⟨_, (Int.toNat_of_nonneg hin.1).symm⟩
          rw [hn] at hin ⊢
          have hnn : ((n : Int)).toNat = n := Int.toNat_natCast n
          try rw [hnn]
          have kk4 := kk3.trans k4
          have s4 := k4.size
          subst k3'
          refine loopK1 (fun u w' => ∃ (i : Nat) (A : Option Addr) (c : Nat) (F : Option Nat), u = .int .i64 i ∧ i ≤ n ∧ w'.heap[p]? = some (.cells #[.int .i64 3, .int .i64 0, .string ByteArray.empty, .slice A i c] 72 (0, 0)) ∧ RefAt w' g (manyF intD i e2 r2).2.1 (manyF intD i e2 r2).2.2 D ∧ Own w' 2 1 (.slice A i c) i (ints (manyF intD i e2 r2).1) F ∧ (∀ k, F = some k → p < k) ∧ w'.heap[b]? = some (.cells #[.int .i64 0, .int .i64 0, .string ByteArray.empty, .slice none 0 0] 72 (0, 0)) ∧ Chg (fun k => k = g) w w' ∧ p < w'.heap.size) (fun u _ => n - (intOf u).toNat) ⟨0, none, 0, none, rfl, by omega, b4, h4, Own.nil _ _ _, fun _ h => (by cases h), b14, kk4, by omega⟩ ?_
          rintro _ _ w5 ⟨i, A, c, F, rfl, hi, b5, h5, o5, hF, b15, kk5, s5⟩
          by_cases hlt : i < n
          · have qd : Qt w5 w5.drew := Qt.drew Qt.refl
            have hSd : Chg (fun _ => True) w5 w5.drew := qd.mono (fun _ _ h => h.elim)
            simp (maxSteps := 1000000) (disch := omega) only [genAll, decAll, tk_nil, st96]
            refine drawC (fun _ => True) w5 hSd ?_
            have b5d := qd.heap b5 (fun h => h)
            have h5d := h5.chg qd (fun h => h) (fun _ _ h => h)
            have o5d := o5.chg qd (fun _ _ h => h)
            have b15d := qd.heap b15 (fun h => h)
            have kk5d := refUp kk5 qd (fun _ h => h.elim)
            have s5d := qd.size
            generalize w5.drew = wd at *
            obtain ⟨y0, y1, y2, y3⟩ := cell4 b5d
            simp (maxSteps := 1000000) (disch := omega) only [genAll, decAll, tk_nil, st96, y3]
            refine ⟨⟨hSd, ?_, trivial⟩, ?_, trivial⟩
            all_goals
              refine ck97 (int_ref h5d ?_)
              intro w6 h6 k6
              have b6 := k6.heap b5d (by omega)
              have b16 := k6.heap b15d (by omega)
              have o6 := o5d.chg k6 (fun k hk e => by have := hF k hk; omega)
              have kk6 := kk5d.trans k6
              have s6 := k6.size
              obtain ⟨y0, y1, y2, y3⟩ := cell4 b6
              have hms : manyF intD (i + 1) e2 r2 = ((manyF intD i e2 r2).1 ++ [(intD (manyF intD i e2 r2).2.1 (manyF intD i e2 r2).2.2).1], (intD (manyF intD i e2 r2).2.1 (manyF intD i e2 r2).2.2).2.1, (intD (manyF intD i e2 r2).2.1 (manyF intD i e2 r2).2.2).2.2) := rfl
              have hml := manyF_len intD i e2 r2
              generalize manyF intD i e2 r2 = m at *
              generalize hx : intD m.2.1 m.2.2 = x at *
              obtain ⟨q7, b7, s7⟩ := newb w6 #[.int .i64 x.1] 2
              obtain ⟨A8, c8, F8, w8, p8, o8, k8, f8⟩ := pushN_run (P := Tryz.prog) tyI (o6.chg q7 (fun _ _ h => h)) [.int .i64 x.1] rfl (oneCell_one rfl) b7 (by omega) (by omega) 59
              simp (maxSteps := 1000000) (disch := omega) only [genAll, decAll, tk_nil, st96, y3]
              have b67 := q7.heap b6 (fun h => h)
              have b167 := q7.heap b16 (fun h => h)
              have h7 := h6.chg q7 (fun h => h) (fun _ _ h => h)
              obtain ⟨yy0, yy1, yy2, yy3⟩ := cell4 b67
              generalize (w6.alloc (.cells #[.int .i64 x.1] 2)) = w7 at *
              have kk7 := refUp kk6 q7 (fun _ h => h.elim)
              have b8 := k8.heap b67 (fun e => by have := hF _ e; omega)
              have b18 := k8.heap b167 (fun e => by have := hF _ e; omega)
              have hFg : ∀ k, F = some k → ¬ k = g := fun k hk e => by have := hF k hk; omega
              have h8 := h7.chg k8 (fun e => hFg _ e rfl) (fun k hk e => by have := hD k hk; have := hF k e; omega)
              have kk8 := refUp kk7 k8 (fun k hk => by have := hF k hk; omega)
              obtain ⟨u0, u1, u2, u3⟩ := cell4 b8
              have z8 := blk_frozen b8 3
              have k9 : Chg (fun k => k = p) w8 (w8.setCell ⟨p, 3, none⟩ (.slice A8 (i + 1) c8)) := (Chg.refl (fun k => k = p) w8).setCell (p := ⟨p, _, none⟩) (.inl rfl) _
              have s8 := k8.size
              have hF8 : ∀ k, F8 = some k → p < k := fun k hk => (f8 k hk).elim (hF k) (fun e => by omega)
              have fin : ∃ (i' : Nat) (A : Option Addr) (c : Nat) (F : Option Nat), Value.int .i64 ((i : Int) + 1) = .int .i64 i' ∧ i' ≤ n ∧ (w8.setCell ⟨p, 3, none⟩ (.slice A8 (i + 1) c8)).heap[p]? = some (.cells #[.int .i64 3, .int .i64 0, .string ByteArray.empty, .slice A i' c] 72 (0, 0)) ∧ RefAt (w8.setCell ⟨p, 3, none⟩ (.slice A8 (i + 1) c8)) g (manyF intD i' e2 r2).2.1 (manyF intD i' e2 r2).2.2 D ∧ Own (w8.setCell ⟨p, 3, none⟩ (.slice A8 (i + 1) c8)) 2 1 (.slice A i' c) i' (ints (manyF intD i' e2 r2).1) F ∧ (∀ k, F = some k → p < k) ∧ (w8.setCell ⟨p, 3, none⟩ (.slice A8 (i + 1) c8)).heap[b]? = some (.cells #[.int .i64 0, .int .i64 0, .string ByteArray.empty, .slice none 0 0] 72 (0, 0)) ∧ Chg (fun k => k = g) w (w8.setCell ⟨p, 3, none⟩ (.slice A8 (i + 1) c8)) ∧ p < (w8.setCell ⟨p, 3, none⟩ (.slice A8 (i + 1) c8)).heap.size := by
                refine ⟨i + 1, A8, c8, F8, by go_num, by omega, by rw [blk_set b8]; rfl, ?_, ?_, hF8, k9.heap b18 (by omega), refUp kk8 k9 (fun k hk => by omega), by have := k9.size; omega⟩
                · rw [hms]
                  exact h8.chg k9 (by omega) (fun k hk => by have := hD k hk; omega)
                · rw [hms]
                  have e : ints (m.1 ++ [x.1]) = ints m.1 ++ [.int .i64 x.1] := by unfold ints; rw [List.map_append]; rfl
                  show Own _ 2 1 _ _ (ints (m.1 ++ [x.1])) _
                  rw [e]
                  exact o8.chg k9 (fun k hk e => by have := hF8 k hk; omega)
              have hS6 : Chg (fun _ => True) w5 w6 := hSd.trans (k6.mono (fun _ _ _ => trivial))
              have hS7 : Chg (fun _ => True) w5 w7 := hS6.trans (q7.mono (fun _ _ _ => trivial))
              have hS8 : Chg (fun _ => True) w5 w8 := hS7.trans (k8.mono (fun _ _ _ => trivial))
              have hS9 : Chg (fun _ => True) w5 (w8.setCell ⟨p, 3, none⟩ (.slice A8 (i + 1) c8)) := hS8.trans (k9.mono (fun _ _ _ => trivial))
              repeat' first | exact trivial | refine And.intro ?_ ?_
              any_goals first | exact hS6 | exact hS7 | exact hSd
              all_goals
                try simp (maxSteps := 1000000) (disch := omega) only [genAll, decAll, tk_nil, st96, yy3]
                try refine ⟨hS7, ?_⟩
                try refine And.intro ?_ trivial
                refine appK p8 ?_
                simp (maxSteps := 1000000) (disch := omega) only [genAll, decAll, tk_nil, st96, u3, z8]
                exact ⟨hS8, ⟨hS9, ⟨fin, by simp [rel, intOf]; omega⟩⟩, trivial⟩
          · obtain rfl : i = n := by omega
            simp (maxSteps := 1000000) (disch := omega) only [genAll, decAll, tk_nil, st96]
            refine ⟨A, c, ?_, h5, reads_own o5, fun ad ha => ?_, b15, kk5⟩
            · rw [manyF_len]; exact b5
            · exact own_block o5 (B := p + 1) hF ad ha
        · have g3 : (kd == 3) = false := beq_eq_false_iff_ne.2 k3'
          rw [if_neg k3'] at hv0
          rw [hv0]
          simp (maxSteps := 1000000) (disch := omega) only [genAll, decAll, tk_nil, st96, x0, g1, g2, g3]
          exact ⟨none, 0, b3, h3, .inl rfl, fun _ h => (by cases h), b13, kk3⟩
  · rintro _ w4 ⟨A, c, b4, h4, r4, f4, b14, kk4⟩
    have hvd : valD e r = (if (valD0 e r).2.1 = 0 then (valD0 e r).1 else v0, (valD0 e r).2.1, (valD0 e r).2.2) := rfl
    rw [hvd] at hK
    clear hv0 hvd
    generalize valD0 e r = v at *
    simp only at hK
    obtain ⟨c4, _⟩ := ref_err h4
    by_cases hz : v.2.1 = 0
    · have ez : (v.2.1 != 0) = false := by rw [hz]; rfl
      rw [if_pos hz] at hK
      obtain ⟨x0, x1, x2, x3⟩ := cell4 b4
      simp (maxSteps := 1000000) (disch := omega) only [genAll, decAll, tk_nil, st96, c4, ez, x0, x1, x2, x3]
      obtain ⟨b5, k5⟩ := store4 (.int .i64 v.1.1) (.int .i64 v.1.2.1) (.string v.1.2.2.1) (.slice A v.1.2.2.2.length c) b14
      refine aggStoreK (there4 b14) (by kernel_rfl) (all4 rfl rfl rfl rfl) ?_
      obtain ⟨y0, y1, y2, y3⟩ := cell4 b5
      simp (maxSteps := 1000000) (disch := omega) only [genAll, decAll, tk_nil, st96, y0, y1, y2, y3]
      refine hK A c _ (h4.chg k5 (by omega) (fun k hk => by have := hD k hk; omega)) (r4.chg k5 (fun ad h e => by have := f4 ad h; omega)) (fun _ ad h => by have := f4 ad h; omega) (refUp kk4 k5 (fun k hk => by omega))
    · have ez : (v.2.1 != 0) = true := by rw [bne_iff_ne]; exact hz
      rw [if_neg hz] at hK
      simp (maxSteps := 1000000) (disch := omega) only [genAll, decAll, tk_nil, st96, c4, ez]
      obtain ⟨b5, k5⟩ := store4 (.int .i64 0) (.int .i64 0) (.string ByteArray.empty) (.slice none 0 0) b14
      refine aggStoreK (there4 b14) (by kernel_rfl) (all4 rfl rfl rfl rfl) ?_
      obtain ⟨y0, y1, y2, y3⟩ := cell4 b5
      simp (maxSteps := 1000000) (disch := omega) only [genAll, decAll, tk_nil, st96, y0, y1, y2, y3]
      exact hK none 0 _ (h4.chg k5 (by omega) (fun k hk => by have := hD k hk; omega)) (.inl rfl) (fun h => absurd rfl h) (refUp kk4 k5 (fun k hk => by omega))
end Go.Proofs.YtpjeohellehgjaaGreatDoor
end

section
/- Stamps and rows out of bytes: the document's. Condition: the bytes lie there. -/
set_option linter.unusedVariables false
set_option linter.unusedSimpArgs false
set_option maxRecDepth 100000
namespace Go.Proofs.YtpjeohellehgjaaGreatDoor
open Go.RowKit Go.Cn Go.Cn.Num
theorem thereO {w : World} {b o : Nat} {t : TypeId} {C : Array Value} {n : Nat} (h : w.heap[b]? = some (.cells C t (0, 0))) (hn : o + n ≤ C.size) : World.there w b o n := fun j hj => by
  rw [blk_cell h, blk_frozen h (o + j)]
  exact ⟨by rw [Array.getElem?_eq_getElem (by omega)]; rfl, rfl⟩
theorem aggStoreO {P : Program} {ty : TypeId} {b o : Nat} {C : Array Value} {t : TypeId} {cs : List Value} {K : Value → World → Prop} {w : World} (h : w.heap[b]? = some (.cells C t (0, 0))) (hn : o + cs.length ≤ C.size) (hi : (P.info? ty).map (·.size) = some cs.length) (h1 : ∀ u ∈ cs, u.oneCell' = true)
    (hK : K undef (w.setCells b o cs)) : StoreK P ty (.pointer (some ⟨b, o, none⟩)) (.agg cs.toArray) K w :=
  aggStoreK (cells := cs.toArray) (thereO h (by simp; omega)) (by simpa using hi) (by rw [← Array.all_toList]; simpa using h1) (by simpa using hK)
theorem one4 {x y z u : Value} (hx : x.oneCell' = true) (hy : y.oneCell' = true) (hz : z.oneCell' = true) (hu : u.oneCell' = true) : ∀ v ∈ [x, y, z, u], v.oneCell' = true := fun v hv => by
  simp at hv; rcases hv with rfl | rfl | rfl | rfl <;> assumption
theorem one6 {x y z u p q : Value} (hx : x.oneCell' = true) (hy : y.oneCell' = true) (hz : z.oneCell' = true) (hu : u.oneCell' = true) (hp : p.oneCell' = true) (hq : q.oneCell' = true) : ∀ v ∈ [x, y, z, u, p, q], v.oneCell' = true := fun v hv => by
  simp at hv; rcases hv with rfl | rfl | rfl | rfl | rfl | rfl <;> assumption
theorem setTo {w : World} {b i : Nat} {C : Array Value} {t : TypeId} {v : Value} (h : w.heap[b]? = some (.cells C t (0, 0))) {C' : Array Value} (e : C.setIfInBounds i v = C') : (w.setCell ⟨b, i, none⟩ v).heap[b]? = some (.cells C' t (0, 0)) ∧ Chg (fun k => k = b) w (w.setCell ⟨b, i, none⟩ v) :=
  ⟨by rw [blk_set h, e], (Chg.refl (fun k => k = b) w).setCell (p := ⟨b, i, none⟩) (.inl rfl) _⟩
theorem setsTo {w : World} {b o : Nat} {C : Array Value} {t : TypeId} {vs : List Value} (h : w.heap[b]? = some (.cells C t (0, 0))) (hn : o + vs.length ≤ C.size) {C' : Array Value} (e : (C.toList.take o ++ vs ++ C.toList.drop (o + vs.length)).toArray = C') : (w.setCells b o vs).heap[b]? = some (.cells C' t (0, 0)) ∧ Chg (fun k => k = b) w (w.setCells b o vs) :=
  ⟨by rw [blk_setCells vs o w C h hn, e], Chg.sets⟩
theorem RefAt.lt {w : World} {g : Nat} {e : Int} {r : List UInt8} {D : Option Nat} (h : RefAt w g e r D) : g < w.heap.size := by
  obtain ⟨_, _, _, _, hh, _⟩ := h; exact blk_lt hh
set_option maxHeartbeats 4000000 in
theorem stm_ref {g : Nat} {e : Int} {r : List UInt8} {D : Option Nat} {w : World} {K : Value → World → Prop} (h : RefAt w g e r D) (hD : ∀ k, D = some k → k < w.heap.size)
    (hK : ∀ w', RefAt w' g (stmD e r).2.1 (stmD e r).2.2 D → Chg (fun k => k = g) w w' → K (stV (stmD e r).1) w') : CallK Tryz.prog 95 #[.pointer (some ⟨g, 0, none⟩)] K w := by
  refine F95_calls _ _ _ ?_; unfold F95
  have hgl := RefAt.lt h
  obtain ⟨q1, b1⟩ := raw4 w (.int .i64 0) (.int .i64 0) (.int .i64 0) (.string ByteArray.empty) 35
  simp (maxSteps := 1000000) (disch := omega) only [genAll, decAll, tk_nil, st95]
  generalize (w.alloc (.cells #[.int .i64 0, .int .i64 0, .int .i64 0, .string ByteArray.empty] 35)) = w1 at *
  have s1 := blk_lt b1
  have h1 := h.chg q1 (fun h => h) (fun _ _ h => h)
  have kk1 : Chg (fun k => k = g) w w1 := q1.mono (fun _ _ h => h.elim)
  generalize hb : w.heap.size = b at *
  refine ck97 (int_ref h1 ?_)
  intro w2 h2 k2
  have b12 := k2.heap b1 (by omega)
  have kk2 := kk1.trans k2
  have s2 := k2.size
  have hst : stmD0 e r = ((((intD e r).1, (intD (intD e r).2.1 (intD e r).2.2).1, (intD (intD (intD e r).2.1 (intD e r).2.2).2.1 (intD (intD e r).2.1 (intD e r).2.2).2.2).1, txt (textD (intD (intD (intD e r).2.1 (intD e r).2.2).2.1 (intD (intD e r).2.1 (intD e r).2.2).2.2).2.1 (intD (intD (intD e r).2.1 (intD e r).2.2).2.1 (intD (intD e r).2.1 (intD e r).2.2).2.2).2.2).1)), (textD (intD (intD (intD e r).2.1 (intD e r).2.2).2.1 (intD (intD e r).2.1 (intD e r).2.2).2.2).2.1 (intD (intD (intD e r).2.1 (intD e r).2.2).2.1 (intD (intD e r).2.1 (intD e r).2.2).2.2).2.2).2.1, (textD (intD (intD (intD e r).2.1 (intD e r).2.2).2.1 (intD (intD e r).2.1 (intD e r).2.2).2.2).2.1 (intD (intD (intD e r).2.1 (intD e r).2.2).2.1 (intD (intD e r).2.1 (intD e r).2.2).2.2).2.2).2.2) := rfl
  generalize intD e r = x at *
  obtain ⟨q3, b3⟩ := raw4 w2 (.int .i64 x.1) (.int .i64 0) (.int .i64 0) (.string ByteArray.empty) 35
  simp (maxSteps := 1000000) (disch := omega) only [genAll, decAll, tk_nil, st95]
  have b13 := q3.heap b12 (fun h => h)
  have h3 := h2.chg q3 (fun h => h) (fun _ _ h => h)
  generalize (w2.alloc (.cells #[.int .i64 x.1, .int .i64 0, .int .i64 0, .string ByteArray.empty] 35)) = w3 at *
  have s3 := blk_lt b3
  have kk3 : Chg (fun k => k = g) w w3 := refUp kk2 q3 (fun _ h => h.elim)
  generalize hb3 : w2.heap.size = p at *
  have hDp : ∀ k, D = some k → ¬ k = p := fun k hk => by have := hD k hk; omega
  refine ck97 (int_ref h3 ?_)
  intro w4 h4 k4
  generalize intD x.2.1 x.2.2 = y at *
  have b4 := k4.heap b3 (by omega)
  have b14 := k4.heap b13 (by omega)
  obtain ⟨y0, y1, y2, y3⟩ := cell4 b4
  have z4 := blk_frozen b4 1
  obtain ⟨b5, k5⟩ := setTo (i := 1) (v := .int .i64 y.1) (C' := #[.int .i64 x.1, .int .i64 y.1, .int .i64 0, .string ByteArray.empty]) b4 rfl
  simp (maxSteps := 1000000) (disch := omega) only [genAll, decAll, tk_nil, st95, y1, z4]
  have h5 := h4.chg k5 (by omega) hDp
  have kk5 := refUp (kk3.trans k4) k5 (fun k hk => by omega)
  have b15 := k5.heap b14 (by omega)
  generalize (w4.setCell ⟨p, 1, none⟩ (.int .i64 y.1)) = w5 at *
  refine ck97 (int_ref h5 ?_)
  intro w6 h6 k6
  generalize intD y.2.1 y.2.2 = z at *
  have b6 := k6.heap b5 (by omega)
  have b16 := k6.heap b15 (by omega)
  obtain ⟨y0, y1, y2, y3⟩ := cell4 b6
  have z6 := blk_frozen b6 2
  obtain ⟨b7, k7⟩ := setTo (i := 2) (v := .int .i64 z.1) (C' := #[.int .i64 x.1, .int .i64 y.1, .int .i64 z.1, .string ByteArray.empty]) b6 rfl
  simp (maxSteps := 1000000) (disch := omega) only [genAll, decAll, tk_nil, st95, y2, z6]
  have h7 := h6.chg k7 (by omega) hDp
  have kk7 := refUp (kk5.trans k6) k7 (fun k hk => by omega)
  have b17 := k7.heap b16 (by omega)
  generalize (w6.setCell ⟨p, 2, none⟩ (.int .i64 z.1)) = w7 at *
  refine ck94 (text_ref h7 ?_)
  intro w8 h8 k8
  generalize textD z.2.1 z.2.2 = u at *
  have b8 := k8.heap b7 (by omega)
  have b18 := k8.heap b17 (by omega)
  obtain ⟨y0, y1, y2, y3⟩ := cell4 b8
  have z8 := blk_frozen b8 3
  obtain ⟨b9, k9⟩ := setTo (i := 3) (v := .string (txt u.1)) (C' := #[.int .i64 x.1, .int .i64 y.1, .int .i64 z.1, .string (txt u.1)]) b8 rfl
  have h9 := h8.chg k9 (by omega) hDp
  have kk9 := refUp (kk7.trans k8) k9 (fun k hk => by omega)
  have b19 := k9.heap b18 (by omega)
  simp (maxSteps := 1000000) (disch := omega) only [genAll, decAll, tk_nil, st95, y3, z8]
  generalize (w8.setCell ⟨p, 3, none⟩ (.string (txt u.1))) = w9 at *
  have hvd : stmD e r = (if (stmD0 e r).2.1 = 0 then (stmD0 e r).1 else s0, (stmD0 e r).2.1, (stmD0 e r).2.2) := rfl
  rw [hvd, hst] at hK
  simp only at hK
  obtain ⟨c9, _⟩ := ref_err h9
  obtain ⟨x0, x1, x2, x3⟩ := cell4 b9
  by_cases hz : u.2.1 = 0
  · have ez : (u.2.1 != 0) = false := by rw [hz]; rfl
    rw [if_pos hz] at hK
    simp (maxSteps := 1000000) (disch := omega) only [genAll, decAll, tk_nil, st95, c9, ez, x0, x1, x2, x3]
    obtain ⟨b10, k10⟩ := store4 (.int .i64 x.1) (.int .i64 y.1) (.int .i64 z.1) (.string (txt u.1)) b19
    refine aggStoreK (there4 b19) (by kernel_rfl) (all4 rfl rfl rfl rfl) ?_
    obtain ⟨y0, y1, y2, y3⟩ := cell4 b10
    simp (maxSteps := 1000000) (disch := omega) only [genAll, decAll, tk_nil, st95, y0, y1, y2, y3]
    exact hK _ (h9.chg k10 (by omega) (fun k hk => by have := hD k hk; omega)) (refUp kk9 k10 (fun k hk => by omega))
  · have ez : (u.2.1 != 0) = true := by rw [bne_iff_ne]; exact hz
    rw [if_neg hz] at hK
    simp (maxSteps := 1000000) (disch := omega) only [genAll, decAll, tk_nil, st95, c9, ez]
    obtain ⟨b10, k10⟩ := store4 (.int .i64 0) (.int .i64 0) (.int .i64 0) (.string ByteArray.empty) b19
    refine aggStoreK (there4 b19) (by kernel_rfl) (all4 rfl rfl rfl rfl) ?_
    obtain ⟨y0, y1, y2, y3⟩ := cell4 b10
    simp (maxSteps := 1000000) (disch := omega) only [genAll, decAll, tk_nil, st95, y0, y1, y2, y3]
    exact hK _ (h9.chg k10 (by omega) (fun k hk => by have := hD k hk; omega)) (refUp kk9 k10 (fun k hk => by omega))
end Go.Proofs.YtpjeohellehgjaaGreatDoor
end

section
/- A row stored as the result, and read back. -/
set_option linter.unusedVariables false
set_option linter.unusedSimpArgs false
set_option maxRecDepth 100000
namespace Go.Proofs.YtpjeohellehgjaaGreatDoor
open Go.RowKit Go.Cn Go.Cn.Num
theorem aggStore6 {P : Program} {ty : TypeId} {b : Nat} {C : Array Value} {t : TypeId} {x y z u p q : Value} {K : Value → World → Prop} {w : World} (h : w.heap[b]? = some (.cells C t (0, 0))) (hC : C.size = 6) (hi : (P.info? ty).map (·.size) = some 6) (h1 : ∀ v ∈ [x, y, z, u, p, q], v.oneCell' = true)
    (hK : ∀ w', w'.heap[b]? = some (.cells #[x, y, z, u, p, q] t (0, 0)) → Chg (fun k => k = b) w w' → K undef w') : StoreK P ty (.pointer (some ⟨b, 0, none⟩)) (.agg #[x, y, z, u, p, q]) K w := by
  obtain ⟨b8, k8⟩ := storeN (w := w) [x, y, z, u, p, q] h (by rw [hC]; rfl)
  have := aggStoreN (P := P) (ty := ty) (K := K) (cs := [x, y, z, u, p, q]) h (by rw [hC]; rfl) hi h1 (hK _ b8 k8)
  exact this
theorem aggStore4 {P : Program} {ty : TypeId} {b : Nat} {C : Array Value} {t : TypeId} {x y z u : Value} {K : Value → World → Prop} {w : World} (h : w.heap[b]? = some (.cells C t (0, 0))) (hC : C.size = 4) (hi : (P.info? ty).map (·.size) = some 4) (h1 : ∀ v ∈ [x, y, z, u], v.oneCell' = true)
    (hK : ∀ w', w'.heap[b]? = some (.cells #[x, y, z, u] t (0, 0)) → Chg (fun k => k = b) w w' → K undef w') : StoreK P ty (.pointer (some ⟨b, 0, none⟩)) (.agg #[x, y, z, u]) K w := by
  obtain ⟨b8, k8⟩ := storeN (w := w) [x, y, z, u] h (by rw [hC]; rfl)
  have := aggStoreN (P := P) (ty := ty) (K := K) (cs := [x, y, z, u]) h (by rw [hC]; rfl) hi h1 (hK _ b8 k8)
  exact this
theorem aggStore5 {P : Program} {ty : TypeId} {b : Nat} {C : Array Value} {t : TypeId} {x y z u p : Value} {K : Value → World → Prop} {w : World} (h : w.heap[b]? = some (.cells C t (0, 0))) (hC : C.size = 5) (hi : (P.info? ty).map (·.size) = some 5) (h1 : ∀ v ∈ [x, y, z, u, p], v.oneCell' = true)
    (hK : ∀ w', w'.heap[b]? = some (.cells #[x, y, z, u, p] t (0, 0)) → Chg (fun k => k = b) w w' → K undef w') : StoreK P ty (.pointer (some ⟨b, 0, none⟩)) (.agg #[x, y, z, u, p]) K w := by
  obtain ⟨b8, k8⟩ := storeN (w := w) [x, y, z, u, p] h (by rw [hC]; rfl)
  have := aggStoreN (P := P) (ty := ty) (K := K) (cs := [x, y, z, u, p]) h (by rw [hC]; rfl) hi h1 (hK _ b8 k8)
  exact this
theorem row_one {key : ByteArray} {s : Stm} {A : Option Addr} {n c : Nat} : ∀ v ∈ ([.string key, .int .i64 s.1, .int .i64 s.2.1, .int .i64 s.2.2.1, .string s.2.2.2, .slice A n c] : List Value), v.oneCell' = true := by
  intro u hu; simp at hu; rcases hu with rfl | rfl | rfl | rfl | rfl | rfl <;> rfl
theorem retRowR {b : Nat} {key : ByteArray} {s : Stm} {A : Option Addr} {n c : Nat} {a1 a2 a3 a4 a5 a6 : Value} {t : TypeId} {w : World} {K : Value → World → Prop} (h : w.heap[b]? = some (.cells #[a1, a2, a3, a4, a5, a6] t (0, 0)))
    (hK : ∀ w', Chg (fun k => k = b) w w' → K (rowV key s A n c) w') :
    StoreK Tryz.prog 38 (.pointer (some ⟨b, 0, none⟩)) (rowV key s A n c) (@Cn.hid _ ⟨fun _ w2 => LoadK Tryz.prog 38 (.pointer (some ⟨b, 0, none⟩)) (@Cn.hid _ ⟨fun c3 w3 => w3 = w2 ∧ K c3 w2⟩) w2⟩) w := by
  refine aggStore6 h rfl (by kernel_rfl) row_one (fun w' b8 k8 => ?_)
  obtain ⟨y0, y1, y2, y3, y4, y5⟩ := cell6 b8
  simp only [genAll, kld38, y0, y1, y2, y3, y4, y5]
  exact hK _ k8
theorem retRow {b : Nat} {key : ByteArray} {s : Stm} {A : Option Addr} {n c : Nat} {a1 a2 a3 a4 a5 a6 : Value} {t : TypeId} {w : World} {K : Value → World → Prop} (h : w.heap[b]? = some (.cells #[a1, a2, a3, a4, a5, a6] t (0, 0)))
    (hK : ∀ w', Chg (fun k => k = b) w w' → K (rowV key s A n c) w') :
    StoreK Tryz.prog 26 (.pointer (some ⟨b, 0, none⟩)) (rowV key s A n c) (@Cn.hid _ ⟨fun _ w2 => LoadK Tryz.prog 26 (.pointer (some ⟨b, 0, none⟩)) (@Cn.hid _ ⟨fun c3 w3 => w3 = w2 ∧ K c3 w2⟩) w2⟩) w := by
  refine aggStore6 h rfl (by kernel_rfl) row_one (fun w' b8 k8 => ?_)
  obtain ⟨y0, y1, y2, y3, y4, y5⟩ := cell6 b8
  simp only [genAll, kld26, y0, y1, y2, y3, y4, y5]
  exact hK _ k8
theorem retVal {b : Nat} {v : Val} {A : Option Addr} {c : Nat} {a1 a2 a3 a4 : Value} {t : TypeId} {w : World} {K : Value → World → Prop} (h : w.heap[b]? = some (.cells #[a1, a2, a3, a4] t (0, 0)))
    (hK : ∀ w', Chg (fun k => k = b) w w' → K (vv v A c) w') :
    StoreK Tryz.prog 61 (.pointer (some ⟨b, 0, none⟩)) (vv v A c) (@Cn.hid _ ⟨fun _ w2 => LoadK Tryz.prog 61 (.pointer (some ⟨b, 0, none⟩)) (@Cn.hid _ ⟨fun c3 w3 => w3 = w2 ∧ K c3 w2⟩) w2⟩) w := by
  refine aggStore4 h rfl (by kernel_rfl) (one4 rfl rfl rfl rfl) (fun w' b8 k8 => ?_)
  obtain ⟨y0, y1, y2, y3⟩ := cell4 b8
  simp only [genAll, kld61, y0, y1, y2, y3]
  exact hK _ k8
theorem retStm {b : Nat} {s : Stm} {a1 a2 a3 a4 : Value} {t : TypeId} {w : World} {K : Value → World → Prop} (h : w.heap[b]? = some (.cells #[a1, a2, a3, a4] t (0, 0)))
    (hK : ∀ w', Chg (fun k => k = b) w w' → K (stV s) w') :
    StoreK Tryz.prog 23 (.pointer (some ⟨b, 0, none⟩)) (stV s) (@Cn.hid _ ⟨fun _ w2 => LoadK Tryz.prog 23 (.pointer (some ⟨b, 0, none⟩)) (@Cn.hid _ ⟨fun c3 w3 => w3 = w2 ∧ K c3 w2⟩) w2⟩) w := by
  refine aggStore4 h rfl (by kernel_rfl) (one4 rfl rfl rfl rfl) (fun w' b8 k8 => ?_)
  obtain ⟨y0, y1, y2, y3⟩ := cell4 b8
  simp only [genAll, kld23, y0, y1, y2, y3]
  exact hK _ k8
end Go.Proofs.YtpjeohellehgjaaGreatDoor
end

section
/- Rows out of bytes: the document's. Condition: the bytes lie there. -/
set_option linter.unusedVariables false
set_option linter.unusedSimpArgs false
set_option maxRecDepth 100000
namespace Go.Proofs.YtpjeohellehgjaaGreatDoor
open Go.RowKit Go.Cn Go.Cn.Num
theorem listsSep_push {F F4 : Option Nat} {p : Nat} {w3 : World} {hs : List AttH} (h : ListsSep (fun k => k ≤ p ∨ F = some k) hs) (ha : ListsAt w3 hs) (f4 : ∀ k, F4 = some k → F = some k ∨ w3.heap.size ≤ k) : ListsSep (fun k => k ≤ p ∨ F4 = some k) hs :=
  (h.or (ha.low (S := fun k => w3.heap.size ≤ k) (fun _ h => h))).mono (fun k hk => hk.elim (fun e => .inl (.inl e)) (fun e => (f4 k e).elim (fun e => .inl (.inr e)) .inr))
set_option maxHeartbeats 8000000 in
theorem row_ref {g : Nat} {e : Int} {r : List UInt8} {D : Option Nat} {w : World} {K : Value → World → Prop} (h : RefAt w g e r D) (hD : ∀ k, D = some k → k < w.heap.size)
    (hK : ∀ hs A c w', hs.map attP = (rowD e r).1.2.2 → RefAt w' g (rowD e r).2.1 (rowD e r).2.2 D → AttsAt w' A hs → AttsSep (fun k => k < w.heap.size) A hs → Chg (fun k => k = g) w w' → K (rowV (rowD e r).1.1 (rowD e r).1.2.1 A hs.length c) w') : CallK Tryz.prog 60 #[.pointer (some ⟨g, 0, none⟩)] K w := by
  refine F60_calls _ _ _ ?_; unfold F60
  have hgl := RefAt.lt h
  obtain ⟨q1, b1, e1⟩ := newb w #[.string ByteArray.empty, .int .i64 0, .int .i64 0, .int .i64 0, .string ByteArray.empty, .slice none 0 0] 38
  simp (maxSteps := 1000000) (disch := omega) only [genAll, decAll, tk_nil, st60]
  generalize (w.alloc (.cells #[.string ByteArray.empty, .int .i64 0, .int .i64 0, .int .i64 0, .string ByteArray.empty, .slice none 0 0] 38)) = w1 at *
  have s1 := blk_lt b1
  have h1 := h.chg q1 (fun h => h) (fun _ _ h => h)
  have kk1 : Chg (fun k => k = g) w w1 := q1.mono (fun _ _ h => h.elim)
  generalize hb : w.heap.size = b at *
  refine ck94 (text_ref h1 ?_)
  intro w2 h2 k2
  have b12 := k2.heap b1 (by omega)
  have kk2 := kk1.trans k2
  have s2 := k2.size
  have hrow : rowD0 e r = ((txt (textD e r).1, (stmD (textD e r).2.1 (textD e r).2.2).1, (manyF attD (manyD (stmD (textD e r).2.1 (textD e r).2.2).2.1 (stmD (textD e r).2.1 (textD e r).2.2).2.2 32).1.toNat (manyD (stmD (textD e r).2.1 (textD e r).2.2).2.1 (stmD (textD e r).2.1 (textD e r).2.2).2.2 32).2.1 (manyD (stmD (textD e r).2.1 (textD e r).2.2).2.1 (stmD (textD e r).2.1 (textD e r).2.2).2.2 32).2.2).1), (manyF attD (manyD (stmD (textD e r).2.1 (textD e r).2.2).2.1 (stmD (textD e r).2.1 (textD e r).2.2).2.2 32).1.toNat (manyD (stmD (textD e r).2.1 (textD e r).2.2).2.1 (stmD (textD e r).2.1 (textD e r).2.2).2.2 32).2.1 (manyD (stmD (textD e r).2.1 (textD e r).2.2).2.1 (stmD (textD e r).2.1 (textD e r).2.2).2.2 32).2.2).2.1, (manyF attD (manyD (stmD (textD e r).2.1 (textD e r).2.2).2.1 (stmD (textD e r).2.1 (textD e r).2.2).2.2 32).1.toNat (manyD (stmD (textD e r).2.1 (textD e r).2.2).2.1 (stmD (textD e r).2.1 (textD e r).2.2).2.2 32).2.1 (manyD (stmD (textD e r).2.1 (textD e r).2.2).2.1 (stmD (textD e r).2.1 (textD e r).2.2).2.2 32).2.2).2.2) := rfl
  have hvd : rowD e r = (if (rowD0 e r).2.1 = 0 then (rowD0 e r).1 else r0, (rowD0 e r).2.1, (rowD0 e r).2.2) := rfl
  generalize textD e r = x at *
  obtain ⟨q3, b3, e3⟩ := newb w2 #[.string (txt x.1), .int .i64 0, .int .i64 0, .int .i64 0, .string ByteArray.empty, .slice none 0 0] 38
  simp (maxSteps := 1000000) (disch := omega) only [genAll, decAll, tk_nil, st60]
  have b13 := q3.heap b12 (fun h => h)
  have h3 := h2.chg q3 (fun h => h) (fun _ _ h => h)
  generalize (w2.alloc (.cells #[.string (txt x.1), .int .i64 0, .int .i64 0, .int .i64 0, .string ByteArray.empty, .slice none 0 0] 38)) = w3 at *
  have s3 := blk_lt b3
  have kk3 : Chg (fun k => k = g) w w3 := refUp kk2 q3 (fun _ h => h.elim)
  generalize hb3 : w2.heap.size = p at *
  have hDp : ∀ k, D = some k → ¬ k = p := fun k hk => by have := hD k hk; omega
  refine ck95 (stm_ref h3 (fun k hk => by have := hD k hk; omega) ?_)
  intro w4 h4 k4
  generalize stmD x.2.1 x.2.2 = y at *
  have b4 := k4.heap b3 (by omega)
  have b14 := k4.heap b13 (by omega)
  obtain ⟨b5, k5⟩ := setsTo (o := 1) (vs := [.int .i64 y.1.1, .int .i64 y.1.2.1, .int .i64 y.1.2.2.1, .string y.1.2.2.2]) (C' := #[.string (txt x.1), .int .i64 y.1.1, .int .i64 y.1.2.1, .int .i64 y.1.2.2.1, .string y.1.2.2.2, .slice none 0 0]) b4 (Nat.le_of_ble_eq_true rfl) rfl
  simp (maxSteps := 1000000) (disch := omega) only [genAll, decAll, tk_nil, st60]
  refine aggStoreO (cs := [.int .i64 y.1.1, .int .i64 y.1.2.1, .int .i64 y.1.2.2.1, .string y.1.2.2.2]) b4 (Nat.le_of_ble_eq_true rfl) (by kernel_rfl) (one4 rfl rfl rfl rfl) ?_
  have h5 := h4.chg k5 (by omega) hDp
  have kk5 := refUp (kk3.trans k4) k5 (fun k hk => by omega)
  have b15 := k5.heap b14 (by omega)
  have s5 : p < (w4.setCells p 1 [.int .i64 y.1.1, .int .i64 y.1.2.1, .int .i64 y.1.2.2.1, .string y.1.2.2.2]).heap.size := by have := k4.size; have := k5.size; omega
  generalize (w4.setCells p 1 [.int .i64 y.1.1, .int .i64 y.1.2.1, .int .i64 y.1.2.2.1, .string y.1.2.2.2]) = w5 at *
  simp (maxSteps := 1000000) (disch := omega) only [genAll, decAll, tk_nil, st60]
  refine ck62 (many_ref h5 ?_)
  intro w6 h6 k6
  have b6 := k6.heap b5 (by omega)
  have b16 := k6.heap b15 (by omega)
  have hin := manyD_in y.2.1 32 y.2.2 (by omega)
  generalize hm1 : (manyD y.2.1 y.2.2 32).2.1 = e2 at *
  generalize hm2 : (manyD y.2.1 y.2.2 32).2.2 = r2 at *
  obtain ⟨n, hn⟩ : ∃ n : Nat, (manyD y.2.1 y.2.2 32).1 = n := ⟨_, (Int.toNat_of_nonneg hin.1).symm⟩
  rw [hn] at hin hrow ⊢
  rw [Int.toNat_natCast] at hrow
  have kk6 := kk5.trans k6
  have s6 := k6.size
  rw [hvd, hrow] at hK
  clear hrow hvd hn hm1 hm2
  refine loopK1 (fun u w' => ∃ (i : Nat) (A : Option Addr) (c : Nat) (F : Option Nat) (hs : List AttH), u = .int .i64 i ∧ i ≤ n ∧ hs.map attP = (manyF attD i e2 r2).1 ∧ hs.length = i ∧ w'.heap[p]? = some (.cells #[.string (txt x.1), .int .i64 y.1.1, .int .i64 y.1.2.1, .int .i64 y.1.2.2.1, .string y.1.2.2.2, .slice A i c] 38 (0, 0)) ∧ RefAt w' g (manyF attD i e2 r2).2.1 (manyF attD i e2 r2).2.2 D ∧ Own w' 123 5 (.slice A i c) i (hs.flatMap attC) F ∧ ListsAt w' hs ∧ ListsSep (fun k => k ≤ p ∨ F = some k) hs ∧ (∀ k, F = some k → p < k) ∧ w'.heap[b]? = some (.cells #[.string ByteArray.empty, .int .i64 0, .int .i64 0, .int .i64 0, .string ByteArray.empty, .slice none 0 0] 38 (0, 0)) ∧ Chg (fun k => k = g) w w' ∧ p < w'.heap.size) (fun u _ => n - (intOf u).toNat) ⟨0, none, 0, none, [], rfl, by omega, rfl, rfl, b6, h6, Own.nil _ _ _, fun _ h => (by cases h), fun _ h => (by cases h), fun _ h => (by cases h), b16, kk6, by omega⟩ ?_
  clear b6 h6 b16 kk6 k6 s6 b5 h5 k5 kk5 b15 s5 b4 b14 h4 k4 b3 b13 h3 kk3 q3 b12 kk2 k2 h2 b1 h1 kk1 q1
  rintro _ _ w7 ⟨i, A, c, F, hs, rfl, hi, hmap, hlen, b7, h7, o7, l7, ls7, hF, b17, kk7, s7⟩
  have hDw : ∀ k, D = some k → k < b := hD
  by_cases hlt : i < n
  · have hms : manyF attD (i + 1) e2 r2 = ((manyF attD i e2 r2).1 ++ [(attD (manyF attD i e2 r2).2.1 (manyF attD i e2 r2).2.2).1], (attD (manyF attD i e2 r2).2.1 (manyF attD i e2 r2).2.2).2.1, (attD (manyF attD i e2 r2).2.1 (manyF attD i e2 r2).2.2).2.2) := rfl
    have hatt : ∀ e r, attD e r = ((txt (textD e r).1, (valD (textD e r).2.1 (textD e r).2.2).1), (valD (textD e r).2.1 (textD e r).2.2).2.1, (valD (textD e r).2.1 (textD e r).2.2).2.2) := fun _ _ => rfl
    rw [hatt] at hms
    generalize manyF attD i e2 r2 = m at *
    simp (maxSteps := 1000000) (disch := omega) only [genAll, decAll, tk_nil, st60]
    refine ck94 (text_ref h7 ?_)
    intro w8 h8 k8
    generalize textD m.2.1 m.2.2 = t at *
    have b8 := k8.heap b7 (by omega)
    have b18 := k8.heap b17 (by omega)
    have o8 := o7.chg k8 (fun k hk e => by have := hF k hk; omega)
    have l8 := l7.sep k8 (ls7.mono (fun k hk => .inl (by omega)))
    have kk8 := kk7.trans k8
    have s8 := k8.size
    obtain ⟨q9, b9, e9⟩ := newb w8 #[.string (txt t.1), .int .i64 0, .int .i64 0, .string ByteArray.empty, .slice none 0 0] 123
    simp (maxSteps := 1000000) (disch := omega) only [genAll, decAll, tk_nil, st60]
    have b89 := q9.heap b8 (fun h => h)
    have b19 := q9.heap b18 (fun h => h)
    have h9 := h8.chg q9 (fun h => h) (fun _ _ h => h)
    have o9 := o8.chg q9 (fun _ _ h => h)
    have l9 := l8.quiet q9
    have kk9 := refUp kk8 q9 (fun _ h => h.elim)
    have F8 : ∀ k, F = some k → k < w8.heap.size := fun k hk => o8.lt hk
    generalize (w8.alloc (.cells #[.string (txt t.1), .int .i64 0, .int .i64 0, .string ByteArray.empty, .slice none 0 0] 123)) = w9 at *
    have s9 := blk_lt b9
    generalize hb9 : w8.heap.size = a9 at *
    refine ck96 (val_ref h9 (fun k hk => by have := hDw k hk; omega) ?_)
    intro B d wA hA rA fA kA
    generalize valD t.2.1 t.2.2 = v at *
    have bA := kA.heap b9 (by omega)
    have b8A := kA.heap b89 (by omega)
    have b1A := kA.heap b19 (by omega)
    have oA := o9.chg kA (fun k hk e => by have := hF k hk; omega)
    have lA := l9.sep kA (ls7.mono (fun k hk => .inl (by omega)))
    have kkA := kk9.trans kA
    have sA := kA.size
    obtain ⟨bB, kB⟩ := setsTo (o := 1) (vs := [.int .i64 v.1.1, .int .i64 v.1.2.1, .string v.1.2.2.1, .slice B v.1.2.2.2.length d]) (C' := #[.string (txt t.1), .int .i64 v.1.1, .int .i64 v.1.2.1, .string v.1.2.2.1, .slice B v.1.2.2.2.length d]) bA (Nat.le_of_ble_eq_true rfl) rfl
    simp (maxSteps := 1000000) (disch := omega) only [genAll, decAll, tk_nil, st60]
    refine aggStoreO (cs := [.int .i64 v.1.1, .int .i64 v.1.2.1, .string v.1.2.2.1, .slice B v.1.2.2.2.length d]) bA (Nat.le_of_ble_eq_true rfl) (by kernel_rfl) (one4 rfl rfl rfl rfl) ?_
    have b8B := kB.heap b8A (by omega)
    have b1B := kB.heap b1A (by omega)
    have hB := hA.chg kB (by omega) (fun k hk e => by have := hDw k hk; omega)
    have oB := oA.chg kB (fun k hk e => by have := F8 k hk; omega)
    have kkB := refUp kkA kB (fun k hk => by omega)
    have lowS : ∀ k, k = a9 → w9.heap.size ≤ k ∨ k = a9 := fun k hk => .inr hk
    have lB : ListsAt _ hs := lA.sep kB (l8.low (S := fun k => k = a9) (fun k hk => by omega))
    have rB := rA.sep kB (fun hx ad ha e => by
      have hx' : v.1.2.2.2 ≠ [] := fun e => hx (by rw [e]; rfl)
      have := fA hx' ad ha
      omega)
    have sB := kB.size
    generalize (wA.setCells a9 1 [.int .i64 v.1.1, .int .i64 v.1.2.1, .string v.1.2.2.1, .slice B v.1.2.2.2.length d]) = wB at *
    obtain ⟨x0, x1, x2, x3, x4, x5⟩ := cell6 b8B
    obtain ⟨y0, y1, y2, y3, y4⟩ := cell5 bB
    obtain ⟨qC, bC, eC⟩ := newb wB #[.string (txt t.1), .int .i64 v.1.1, .int .i64 v.1.2.1, .string v.1.2.2.1, .slice B v.1.2.2.2.length d] 123
    obtain ⟨A9, c9, F9, wD, pD, oD, kD, fD⟩ := pushN_run (P := Tryz.prog) tyAR (oB.chg qC (fun _ _ h => h)) (attC ((txt t.1, v.1, B, d) : AttH)) rfl (attC_one _) bC (by omega) (by omega) 36
    simp (maxSteps := 1000000) (disch := omega) only [genAll, decAll, tk_nil, st60, x5, y0, y1, y2, y3, y4]
    have b8C := qC.heap b8B (fun h => h)
    have b1C := qC.heap b1B (fun h => h)
    have hC := hB.chg qC (fun h => h) (fun _ _ h => h)
    have lC := lB.quiet qC
    have rC := rB.quiet qC
    generalize (wB.alloc (.cells #[.string (txt t.1), .int .i64 v.1.1, .int .i64 v.1.2.1, .string v.1.2.2.1, .slice B v.1.2.2.2.length d] 123)) = wC at *
    have kkC := refUp kkB qC (fun _ h => h.elim)
    have sC := qC.size
    refine appK pD ?_
    have b8D := kD.heap b8C (fun e => by have := hF _ e; omega)
    have b1D := kD.heap b1C (fun e => by have := hF _ e; omega)
    have hFg : ∀ k, F = some k → ¬ k = g := fun k hk e => by have := hF k hk; omega
    have hD' := hC.chg kD (fun e => hFg _ e rfl) (fun k hk e => by have := hDw k hk; have := hF k e; omega)
    have kkD := refUp kkC kD (fun k hk => by have := hF k hk; omega)
    have lD := lC.sep kD (ls7.mono (fun k hk => .inr hk))
    have rD := rC.sep kD (fun hx ad ha e => by
      have hx' : v.1.2.2.2 ≠ [] := fun e => hx (by rw [e]; rfl)
      have := fA hx' ad ha
      have := F8 _ e
      omega)
    have sD := kD.size
    have hF9 : ∀ k, F9 = some k → p < k := fun k hk => (fD k hk).elim (hF k) (fun e => by omega)
    have fD' : ∀ k, F9 = some k → F = some k ∨ wC.heap.size ≤ k := fun k hk => (fD k hk).elim .inl (fun e => .inr (by omega))
    have lsD : ListsSep (fun k => k ≤ p ∨ F9 = some k) (hs ++ [((txt t.1, v.1, B, d) : AttH)]) := by
      refine ListsSep.app (listsSep_push ls7 lC fD') ?_
      intro a ha
      have : a = (txt t.1, v.1, B, d) := by simpa using ha
      subst this
      have hlow := rC.low
      intro hx ad had e
      have hx' : v.1.2.2.2 ≠ [] := fun e => hx (by rw [e]; rfl)
      have h1 := fA hx' ad had
      have h2 := hlow ad had hx
      rcases e with e | e
      · omega
      · rcases fD' _ e with e | e
        · have := F8 _ e; omega
        · omega
    have laD : ListsAt wD (hs ++ [((txt t.1, v.1, B, d) : AttH)]) := lD.app (fun a ha => by
      have : a = (txt t.1, v.1, B, d) := by simpa using ha
      subst this; exact rD)
    obtain ⟨x0, x1, x2, x3, x4, x5⟩ := cell6 b8D
    have z5 := blk_frozen b8D 5
    obtain ⟨bE, kE⟩ := setTo (i := 5) (v := .slice A9 (i + 1) c9) (C' := #[.string (txt x.1), .int .i64 y.1.1, .int .i64 y.1.2.1, .int .i64 y.1.2.2.1, .string y.1.2.2.2, .slice A9 (i + 1) c9]) b8D rfl
    simp (maxSteps := 1000000) (disch := omega) only [genAll, decAll, tk_nil, st60, x5, z5]
    refine ⟨⟨i + 1, A9, c9, F9, hs ++ [(txt t.1, v.1, B, d)], by go_num, by omega, ?_, by simp [hlen], bE, ?_, ?_, laD.sep kE (lsD.mono (fun k hk => .inl (by omega))), lsD, hF9, kE.heap b1D (by omega), refUp kkD kE (fun k hk => by omega), by have := kE.size; omega⟩, by simp [rel, intOf]; omega⟩
    · rw [hms, List.map_append, hmap]; rfl
    · rw [hms]; exact hD'.chg kE (by omega) (fun k hk => by have := hDw k hk; omega)
    · rw [List.flatMap_append]
      have := oD.chg kE (fun k hk e => by have := hF9 k hk; omega)
      simpa using this
  · obtain rfl : i = n := by omega
    simp (maxSteps := 1000000) (disch := omega) only [genAll, decAll, tk_nil, st60]
    obtain ⟨c7, _⟩ := ref_err h7
    obtain ⟨x0, x1, x2, x3, x4, x5⟩ := cell6 b7
    have hfr := own_block o7 (B := p + 1) hF
    generalize manyF attD i e2 r2 = m at *
    simp only at hK
    subst hlen
    by_cases hz : m.2.1 = 0
    · have ez : (m.2.1 != 0) = false := by rw [hz]; rfl
      rw [if_pos hz] at hK
      simp (maxSteps := 1000000) (disch := omega) only [genAll, decAll, tk_nil, st60, c7, ez, x0, x1, x2, x3, x4, x5]
      refine retRowR (key := txt x.1) (s := y.1) b17 (fun w8 k8 => ?_)
      refine hK hs A c _ hmap (h7.chg k8 (by omega) (fun k hk => by have := hDw k hk; omega)) ⟨(reads_own o7).chg k8 (fun ad h e => by have := hfr ad h; omega), l7.sep k8 (ls7.mono (fun k hk => .inl (by omega)))⟩ ⟨fun _ ad h e => by have := hfr ad h; omega, ls7.mono (fun k hk => .inl (by omega))⟩ (refUp kk7 k8 (fun k hk => by omega))
    · have ez : (m.2.1 != 0) = true := by rw [bne_iff_ne]; exact hz
      rw [if_neg hz] at hK
      simp (maxSteps := 1000000) (disch := omega) only [genAll, decAll, tk_nil, st60, c7, ez]
      refine retRowR (key := ByteArray.empty) (s := s0) b17 (fun w8 k8 => ?_)
      exact hK [] none 0 _ rfl (h7.chg k8 (by omega) (fun k hk => by have := hDw k hk; omega)) ⟨.inl rfl, fun _ h => by cases h⟩ ⟨fun h => absurd rfl h, fun _ h => by cases h⟩ (refUp kk7 k8 (fun k hk => by omega))
end Go.Proofs.YtpjeohellehgjaaGreatDoor
end

section
/- What comes out of bytes is no longer than they are; a row, rows out of sealed bytes. No program in sight. -/
set_option linter.unusedVariables false
set_option linter.unusedSimpArgs false
set_option maxRecDepth 100000
namespace Go.Proofs.YtpjeohellehgjaaGreatDoor
open Go.RowKit Go.Cn Go.Cn.Num
theorem manyF_all {α : Type} (f : Int → List UInt8 → α × Int × List UInt8) (P : α → Prop) (N : Nat) (hl : ∀ e r, (f e r).2.2.length ≤ r.length) (hf : ∀ e r, r.length ≤ N → P (f e r).1) : ∀ (n : Nat) (e : Int) (r : List UInt8), r.length ≤ N → ∀ x ∈ (manyF f n e r).1, P x
  | 0, e, r, _, x, h => by cases h
  | n + 1, e, r, hr, x, h => by
    rw [manyF] at h
    simp only at h
    rcases List.mem_append.1 h with h | h
    · exact manyF_all f P N hl hf n e r hr x h
    · have : x = _ := List.mem_singleton.1 h
      subst this
      exact hf _ _ (Nat.le_trans (manyF_rest f hl n e r) hr)
def SmallV (N : Nat) (v : Val) : Prop := v.2.2.1.size ≤ N ∧ v.2.2.2.length ≤ 16
theorem v0_small (N : Nat) : SmallV N v0 := ⟨Nat.zero_le _, Nat.zero_le _⟩
theorem valD_small {N : Nat} {e : Int} {r : List UInt8} (hr : r.length ≤ N) : SmallV N (valD e r).1 := by
  have h0 : SmallV N (valD0 e r).1 := by
    have hi := intD_len e r
    unfold valD0
    simp only
    split
    · exact ⟨Nat.zero_le _, Nat.zero_le _⟩
    · split
      · refine ⟨?_, Nat.zero_le _⟩
        show (txt _).size ≤ N
        rw [txt_size]
        have := (textD_len (intD e r).2.1 (intD e r).2.2).2
        omega
      · split
        · refine ⟨Nat.zero_le _, ?_⟩
          show (manyF intD _ _ _).1.length ≤ 16
          rw [manyF_len]
          have := manyD_in (intD e r).2.1 16 (intD e r).2.2 (by omega)
          omega
        · exact ⟨Nat.zero_le _, Nat.zero_le _⟩
  unfold valD wholeD
  simp only
  split
  · exact h0
  · exact v0_small N
def SmallA (N : Nat) (a : Att) : Prop := a.1.size ≤ N ∧ SmallV N a.2
theorem attD_small {N : Nat} {e : Int} {r : List UInt8} (hr : r.length ≤ N) : SmallA N (attD e r).1 := by
  unfold attD
  have := textD_len e r
  refine ⟨?_, valD_small (Nat.le_trans this.1 hr)⟩
  show (txt _).size ≤ N
  rw [txt_size]; omega
def SmallD (N : Nat) (r : RowD) : Prop := r.1.size ≤ N ∧ r.2.1.2.2.2.size ≤ N ∧ r.2.2.length ≤ 32 ∧ ∀ a ∈ r.2.2, SmallA N a
theorem r0_small (N : Nat) : SmallD N r0 := ⟨Nat.zero_le _, Nat.zero_le _, Nat.zero_le _, fun _ h => by cases h⟩
theorem stmD_small {N : Nat} {e : Int} {r : List UInt8} (hr : r.length ≤ N) : (stmD e r).1.2.2.2.size ≤ N := by
  unfold stmD wholeD
  simp only
  split
  · unfold stmD0
    simp only
    rw [txt_size]
    have h1 := intD_len e r
    have h2 := intD_len (intD e r).2.1 (intD e r).2.2
    have h3 := intD_len (intD (intD e r).2.1 (intD e r).2.2).2.1 (intD (intD e r).2.1 (intD e r).2.2).2.2
    have h4 := (textD_len (intD (intD (intD e r).2.1 (intD e r).2.2).2.1 (intD (intD e r).2.1 (intD e r).2.2).2.2).2.1 (intD (intD (intD e r).2.1 (intD e r).2.2).2.1 (intD (intD e r).2.1 (intD e r).2.2).2.2).2.2).2
    omega
  · exact Nat.zero_le _
theorem rowD_small {N : Nat} {e : Int} {r : List UInt8} (hr : r.length ≤ N) : SmallD N (rowD e r).1 := by
  unfold rowD wholeD
  simp only
  split
  · unfold rowD0
    simp only
    have h1 := textD_len e r
    have h2 := stmD_len (textD e r).2.1 (textD e r).2.2
    have h3 := manyD_len (stmD (textD e r).2.1 (textD e r).2.2).2.1 32 (stmD (textD e r).2.1 (textD e r).2.2).2.2
    have h4 := manyD_in (stmD (textD e r).2.1 (textD e r).2.2).2.1 32 (stmD (textD e r).2.1 (textD e r).2.2).2.2 (by omega)
    refine ⟨by show (txt _).size ≤ N; rw [txt_size]; omega, stmD_small (by omega), ?_, ?_⟩
    · show (manyF attD _ _ _).1.length ≤ 32
      rw [manyF_len]; omega
    · exact manyF_all attD (SmallA N) N attD_len (fun e r h => attD_small h) _ _ _ (by omega)
  · exact r0_small N
/-- A row out of sealed bytes, or why it is none. -/
def decodeL (b : List UInt8) : RowD × Int :=
  if (openL b).1 ≠ 0 then (r0, (openL b).1) else if (rowD 0 (openL b).2).2.1 ≠ 0 then (r0, (rowD 0 (openL b).2).2.1)
  else if (rowD 0 (openL b).2).2.2 ≠ [] then (r0, 2) else if checkR (rowD 0 (openL b).2).1 ≠ 0 then (r0, checkR (rowD 0 (openL b).2).1) else ((rowD 0 (openL b).2).1, 0)
def rowsL (b : List UInt8) : List RowD × Int :=
  if (openL b).1 ≠ 0 then ([], (openL b).1) else if (rowsD 0 (openL b).2).2.1 ≠ 0 then ([], (rowsD 0 (openL b).2).2.1)
  else if (rowsD 0 (openL b).2).2.2 ≠ [] then ([], 2) else if rightR (rowsD 0 (openL b).2).1 ≠ 0 then ([], rightR (rowsD 0 (openL b).2).1) else ((rowsD 0 (openL b).2).1, 0)
theorem rowsD_count (e : Int) (r : List UInt8) : (rowsD e r).1.length ≤ 64 := by
  unfold rowsD
  simp only
  rw [manyF_len]
  have := manyD_in e 64 r (by omega)
  omega
theorem rowsD_small {N : Nat} {e : Int} {r : List UInt8} (hr : r.length ≤ N) : ∀ x ∈ (rowsD e r).1, SmallD N x := by
  unfold rowsD
  simp only
  have := manyD_len e 64 r
  exact manyF_all rowD (SmallD N) N rowD_len (fun e r h => rowD_small h) _ _ _ (by omega)
theorem right_few {l : List RowD} (h : l.length ≤ 64) : rightR l = badR l := by unfold rightR; rw [if_neg (by omega)]
theorem left_pos {e : Int} {r : List UInt8} (h : e = 0) : (0 < leftD e r) ↔ r ≠ [] := by
  unfold leftD
  rw [if_pos h, ← List.length_pos_iff]; omega
theorem openL_len (b : List UInt8) : (openL b).2.length ≤ b.length := by
  unfold openL
  split
  · simp
  · split
    · rw [List.length_take]; omega
    · simp
end Go.Proofs.YtpjeohellehgjaaGreatDoor
end
