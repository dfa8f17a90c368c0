/- slices.SortStableFunc at choices. Condition: the row is the call's own, at most 100,000. -/
import Derived.Test.YtpjeohellehgjaaDoorSym
set_option linter.unusedVariables false
set_option linter.unusedSimpArgs false
set_option maxRecDepth 100000
namespace Go.Proofs.YtpjeohellehgjaaDoor
open Go.RowKit Go.Cn
def Blk (bs n : Nat) (d : List ChoD) : Prop := ∀ k, Srt (k * bs) (min (k * bs + bs) n) d
theorem srt_out {a b lo hi : Nat} {d d' : List ChoD} (h : Srt a b d) (m : Moved lo hi d d') (ho : b ≤ lo ∨ hi ≤ a) : Srt a b d' := fun p q p1 p2 p3 => by
  rw [m.out p (by omega), m.out q (by omega)]; exact h p q p1 p2 p3
theorem srt_sub {a b a' b' : Nat} {d : List ChoD} (h : Srt a b d) (ha : a ≤ a') (hb : b' ≤ b) : Srt a' b' d := fun p q p1 p2 p3 => h p q (by omega) p2 (by omega)
theorem stab0_any {A : Option Addr} {c : Nat} {w : World} {K : Value → World → Prop} (hK : K (.tuple #[]) w) : CallK Tryd.prog 92 #[.slice A 0 c, .int .i64 0, .func (.func 68) #[] #[]] K w := by
  have hins : ∀ K : Value → World → Prop, K (.tuple #[]) w → CallK Tryd.prog 105 #[.slice A 0 c, .int .i64 0, .int .i64 0, .func (.func 68) #[] #[]] K w := fun K hK => by
    refine F105_calls _ _ _ _ _ _ ?_; unfold F105
    simp (maxSteps := 1000000) (disch := omega) only [genAll, decAll, tk_nil, st92, st105]
    refine loopK1 (fun v w' => v = .int .i64 1 ∧ w' = w) (fun _ _ => 0) ⟨rfl, rfl⟩ ?_
    rintro _ _ _ ⟨rfl, rfl⟩
    simp (maxSteps := 1000000) (disch := omega) only [genAll, decAll, tk_nil, st92, st105]
    exact hK
  refine F92_calls _ _ _ _ _ ?_; unfold F92
  refine loopK2 (fun x y w' => x = .int .i64 0 ∧ y = .int .i64 20 ∧ w' = w) (fun _ _ _ => 0) ⟨rfl, rfl, rfl⟩ ?_
  rintro _ _ _ w1 ⟨rfl, rfl, hw⟩
  obtain rfl : w1 = w := hw
  simp (maxSteps := 1000000) (disch := omega) only [genAll, decAll, tk_nil, st92, st105]
  refine ck105 (hins _ ?_)
  simp (maxSteps := 1000000) (disch := omega) only [genAll, decAll, tk_nil, st92, st105]
  refine loopK1 (fun v w'' => v = .int .i64 20 ∧ w'' = w1) (fun _ _ => 0) ⟨rfl, rfl⟩ ?_
  rintro _ _ w2 ⟨rfl, hw⟩
  obtain rfl : w2 = w1 := hw
  simp (maxSteps := 1000000) (disch := omega) only [genAll, decAll, tk_nil, st92, st105]
  exact hK
theorem ins_len {g cap a b n : Nat} {xs : List ChoD} {w : World} {K : Value → World → Prop} (e : xs.length = n) (h : ChAt w g cap xs) (hab : a ≤ b) (hb : b ≤ n) (hl : n ≤ 100000)
    (hK : ∀ ys w', ChAt w' g cap ys → Moved a b xs ys → Srt a b ys → Chg (fun k => k = g) w w' → K (.tuple #[]) w') : CallK Tryd.prog 105 #[.slice (some ⟨g, 0, none⟩) n cap, .int .i64 a, .int .i64 b, .func (.func 68) #[] #[]] K w := by
  subst e; exact ins_any h hab hb hl hK
theorem sym_len {g cap a m b n : Nat} {xs : List ChoD} {w : World} {K : Value → World → Prop} (e : xs.length = n) (h : ChAt w g cap xs) (ham : a < m) (hmb : m < b) (hb : b ≤ n) (hl : n ≤ 100000) (sa : Srt a m xs) (sb : Srt m b xs)
    (hK : ∀ ys w', ChAt w' g cap ys → Moved a b xs ys → Srt a b ys → Chg (fun k => k = g) w w' → K (.tuple #[]) w') : CallK Tryd.prog 106 #[.slice (some ⟨g, 0, none⟩) n cap, .int .i64 a, .int .i64 m, .int .i64 b, .func (.func 68) #[] #[]] K w := by
  subst e; exact sym_any _ (Nat.le_refl _) h ham hmb hb hl sa sb hK
set_option maxHeartbeats 8000000 in
theorem stab_any {g cap : Nat} {xs : List ChoD} {w : World} {K : Value → World → Prop} (h : ChAt w g cap xs) (hl : xs.length ≤ 100000)
    (hK : ∀ ys w', ChAt w' g cap ys → Moved 0 xs.length xs ys → Srt 0 xs.length ys → Chg (fun k => k = g) w w' → K (.tuple #[]) w') : CallK Tryd.prog 92 #[.slice (some ⟨g, 0, none⟩) xs.length cap, .int .i64 xs.length, .func (.func 68) #[] #[]] K w := by
  refine F92_calls _ _ _ _ _ ?_; unfold F92
  generalize hn : xs.length = n at *
  refine loopK2 (fun x y w' => ∃ (k : Nat) (ys : List ChoD), x = .int .i64 ((k * 20 : Nat) : Int) ∧ y = .int .i64 ((k * 20 + 20 : Nat) : Int) ∧ k * 20 ≤ n ∧ ChAt w' g cap ys ∧ Moved 0 n xs ys ∧ (∀ j, j < k → Srt (j * 20) (j * 20 + 20) ys) ∧ Chg (fun k => k = g) w w') (fun x _ _ => n + 20 - (intOf x).toNat) ⟨0, xs, rfl, rfl, by omega, h, Moved.refl _ _ _, fun j hj => by omega, Chg.refl _ _⟩ ?_
  rintro _ _ _ w1 ⟨k, ys, rfl, rfl, hk, h1, m1, s1, c1⟩
  have ly : ys.length = n := by rw [m1.len, hn]
  by_cases hlt : k * 20 + 20 ≤ n
  · simp (maxSteps := 1000000) (disch := omega) only [genAll, decAll, tk_nil, st92]
    refine ck105 (ins_len ly h1 (a := k * 20) (b := k * 20 + 20) (by omega) (by omega) (by omega) ?_)
    intro zs w2 h2 m2 s2 c2
    simp (maxSteps := 1000000) (disch := omega) only [genAll, decAll, tk_nil, st92]
    refine ⟨⟨k + 1, zs, by congr 1; omega, by congr 1; omega, by omega, h2, m1.trans (m2.mono (by omega) (by omega)), fun j hj => ?_, c1.trans c2⟩, by simp [rel, intOf]; omega⟩
    by_cases e : j = k
    · subst e; exact s2
    · exact srt_out (s1 j (by omega)) m2 (.inl (by omega))
  simp (maxSteps := 1000000) (disch := omega) only [genAll, decAll, tk_nil, st92]
  refine ck105 (ins_len ly h1 (a := k * 20) (b := n) (by omega) (Nat.le_refl _) (by omega) ?_)
  intro zs w2 h2 m2 s2 c2
  have B0 : Blk 20 n zs := fun j => by
    rcases Nat.lt_trichotomy j k with h | h | h
    · exact srt_sub (srt_out (s1 j h) m2 (.inl (by omega))) (Nat.le_refl _) (by omega)
    · subst h; exact srt_sub s2 (Nat.le_refl _) (by omega)
    · intro p q p1 p2 p3; omega
  have m2 := m1.trans (m2.mono (Nat.zero_le _) (Nat.le_refl _))
  have c2 := c1.trans c2
  clear s1 s2 h1 m1 c1
  simp (maxSteps := 1000000) (disch := omega) only [genAll, decAll, tk_nil, st92]
  refine loopK1 (fun v w' => ∃ (bs : Nat) (us : List ChoD), v = .int .i64 bs ∧ 0 < bs ∧ bs ≤ 400000 ∧ ChAt w' g cap us ∧ Moved 0 n xs us ∧ Blk bs n us ∧ Chg (fun k => k = g) w w') (fun v _ => n - (intOf v).toNat) ⟨20, zs, rfl, by omega, by omega, h2, m2, B0, c2⟩ ?_
  clear B0 h2 m2 c2
  rintro _ _ w3 ⟨bs, us, rfl, hbs, hbl, h3, m3, B3, c3⟩
  by_cases hb : bs < n
  case neg =>
    simp (maxSteps := 1000000) (disch := omega) only [genAll, decAll, tk_nil, st92]
    refine hK us w3 h3 m3 ?_ c3
    have := B3 0
    rw [Nat.zero_mul, Nat.zero_add, Nat.min_eq_right (by omega)] at this
    exact this
  have w2b : IntKind.i64.wrap (2 * (bs : Int)) = ((2 * bs : Nat) : Int) := by rw [IntKind.wrap_i64]; omega
  simp (maxSteps := 1000000) (disch := omega) only [genAll, decAll, tk_nil, st92, w2b]
  refine loopK2 (fun x y w' => ∃ (k X : Nat) (ys : List ChoD), X = k * bs ∧ x = .int .i64 ((2 * X : Nat) : Int) ∧ y = .int .i64 ((2 * X + 2 * bs : Nat) : Int) ∧ 2 * X < n + 2 * bs ∧ 2 * X ≤ n ∧ ChAt w' g cap ys ∧ Moved 0 n xs ys ∧ (∀ j, j < k → Srt (j * (2 * bs)) (j * (2 * bs) + 2 * bs) ys) ∧ (∀ j, 2 * k ≤ j → Srt (j * bs) (min (j * bs + bs) n) ys) ∧ Chg (fun k => k = g) w w') (fun x _ _ => n + 1 - (intOf x).toNat) ⟨0, 0, us, by rw [Nat.zero_mul], rfl, by congr 1; omega, by omega, by omega, h3, m3, fun j hj => by omega, fun j _ => B3 j, c3⟩ ?_
  clear B3 h3 m3 c3
  rintro _ _ _ w4 ⟨k, X, ys, hX, rfl, rfl, hXn, hXn', h4, m4, s4, B4, c4⟩
  have ly : ys.length = n := by rw [m4.len, hn]
  have e0 : (2 * k) * bs = 2 * X := by rw [hX, Nat.mul_assoc]
  have e1 : (2 * k + 1) * bs = 2 * X + bs := by rw [Nat.succ_mul, e0]
  have b0 := B4 (2 * k) (Nat.le_refl _)
  have b1 := B4 (2 * k + 1) (by omega)
  rw [e0] at b0
  rw [e1] at b1
  have ek : k * (2 * bs) = 2 * X := by rw [hX, Nat.mul_left_comm]
  have hkk : ∀ j, j < k → j * (2 * bs) + 2 * bs ≤ 2 * X := fun j hj => by
    have := Nat.mul_le_mul_right (2 * bs) (show j + 1 ≤ k by omega)
    rw [Nat.succ_mul, ek] at this
    exact this
  by_cases hlt : 2 * X + 2 * bs ≤ n
  · have n1 : ((2 * X : Nat) : Int) + (bs : Int) = ((2 * X + bs : Nat) : Int) := by omega
    have n2 : ((2 * X + 2 * bs : Nat) : Int) + ((2 * bs : Nat) : Int) = ((2 * (X + bs) + 2 * bs : Nat) : Int) := by omega
    simp (maxSteps := 1000000) (disch := omega) only [genAll, decAll, tk_nil, st92, n1, w2b]
    refine ck106 (sym_len ly h4 (a := 2 * X) (m := 2 * X + bs) (b := 2 * X + 2 * bs) (by omega) (by omega) (by omega) (by omega) (srt_sub b0 (Nat.le_refl _) (by omega)) (srt_sub b1 (Nat.le_refl _) (by omega)) ?_)
    intro zs w5 h5 m5 s5 c5
    simp (maxSteps := 1000000) (disch := omega) only [genAll, decAll, tk_nil, st92, w2b, n2]
    refine ⟨⟨k + 1, X + bs, zs, by rw [Nat.succ_mul, hX], by congr 1; omega, rfl, by omega, by omega, h5, m4.trans (m5.mono (by omega) (by omega)), fun j hj => ?_, fun j hj => ?_, c4.trans c5⟩, by simp [rel, intOf]; omega⟩
    · by_cases e : j = k
      · subst e; rw [ek]; exact s5
      · exact srt_out (s4 j (by omega)) m5 (.inl (hkk j (by omega)))
    · have hj2 := Nat.mul_le_mul_right bs (show 2 * k + 1 + 1 ≤ j by omega)
      rw [Nat.succ_mul, e1] at hj2
      exact srt_out (B4 j (by omega)) m5 (.inr (by omega))
  · have n1 : ((2 * X : Nat) : Int) + (bs : Int) = ((2 * X + bs : Nat) : Int) := by omega
    have hfin : ∀ zs w', ChAt w' g cap zs → Moved 0 n xs zs → (∀ j, j < k → Srt (j * (2 * bs)) (j * (2 * bs) + 2 * bs) zs) → Srt (2 * X) n zs → Blk (2 * bs) n zs := fun zs w' _ _ h1 h2 j => by
      rcases Nat.lt_trichotomy j k with h | h | h
      · exact srt_sub (h1 j h) (Nat.le_refl _) (by omega)
      · subst h; rw [ek]; exact srt_sub h2 (Nat.le_refl _) (by omega)
      · have hj2 := Nat.mul_le_mul_right (2 * bs) (show k + 1 ≤ j by omega)
        rw [Nat.succ_mul, ek] at hj2
        intro p q p1 p2 p3; omega
    by_cases hm : 2 * X + bs < n
    · simp (maxSteps := 1000000) (disch := omega) only [genAll, decAll, tk_nil, st92, n1]
      refine ck106 (sym_len ly h4 (a := 2 * X) (m := 2 * X + bs) (b := n) (by omega) (by omega) (by omega) (by omega) (srt_sub b0 (Nat.le_refl _) (by omega)) (srt_sub b1 (Nat.le_refl _) (by omega)) ?_)
      intro zs w5 h5 m5 s5 c5
      simp (maxSteps := 1000000) (disch := omega) only [genAll, decAll, tk_nil, st92, w2b]
      exact ⟨⟨2 * bs, zs, by congr 1; omega, by omega, by omega, h5, m4.trans (m5.mono (by omega) (by omega)), hfin zs w5 h5 (m4.trans (m5.mono (by omega) (by omega))) (fun j hj => srt_out (s4 j hj) m5 (.inl (hkk j hj))) s5, c4.trans c5⟩, by simp [rel, intOf]; omega⟩
    · simp (maxSteps := 1000000) (disch := omega) only [genAll, decAll, tk_nil, st92, n1, w2b]
      exact ⟨⟨2 * bs, ys, by congr 1; omega, by omega, by omega, h4, m4, hfin ys w4 h4 m4 s4 (srt_sub b0 (Nat.le_refl _) (by omega)), c4⟩, by simp [rel, intOf]; omega⟩
end Go.Proofs.YtpjeohellehgjaaDoor
