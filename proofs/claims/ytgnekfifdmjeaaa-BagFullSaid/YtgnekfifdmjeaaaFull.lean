/- BagFull's walk: for whatever two small numbers it returns true and leaves all that was there as it was. Conditions: the numbers are of their kind. -/
import Derived.Test.YtgnekfifdmjeaaaKnown
set_option linter.unusedVariables false
set_option linter.unusedSimpArgs false
namespace Go.Proofs.Ytgnekfifdmjeaaa
open Go.RowKit Go.Cn
/-- 0, 1, .. -/
def iota (n : Nat) : List Int := (List.range n).map fun i : Nat => (i : Int)
theorem iota_len (n : Nat) : (iota n).length = n := by simp [iota]
theorem iota_succ (n : Nat) : iota n ++ [(n : Int)] = iota (n + 1) := by simp [iota, List.range_succ]
theorem b0_one (k : Int) (w : World) (h : k = 1) : Calls Try.prog 24 #[.int .i64 k] w fun e w' => e = .returned (.int .i64 0) ∧ w = w' := by
  subst h
  go_enter Try.func24, Try.ntmps24
  go_wp2
  go_ret
  exact ⟨rfl, rfl⟩
theorem b0_more (k : Nat) (w : World) (h : 2 ≤ k) : Calls Try.prog 24 #[.int .i64 k] w fun e w' => e = .returned (.int .i64 k) ∧ w = w' := by
  go_enter Try.func24, Try.ntmps24
  go_wp2
  go_ret
  exact ⟨rfl, rfl⟩
set_option maxHeartbeats 2000000 in
theorem bagFull_walk (most more : Int) (w : World) (hm0 : 0 ≤ most) (hm1 : most ≤ 255) (hr0 : 0 ≤ more) (hr1 : more ≤ 255) :
    Calls Try.prog 5 #[.int .u8 most, .int .u8 more] w fun e w' => e = .returned (.bool true) ∧ Below w.heap.size w w' := by
  obtain ⟨n0, hn0⟩ : ∃ n0, n0 = w.heap.size := ⟨_, rfl⟩
  have HN := Bx.mk hn0
  have hg : Bx (n0 ≤ w.heap.size) := Bx.mk (by omega)
  rw [← hn0]
  clear hn0
  go_enter Try.func5, Try.ntmps5
  go_wp2_with fail
  refine (known_any w).mono ?_
  rintro e w1 ⟨rfl, h1⟩
  have hB1 : Bx (Below n0 w w1) := Bx.mk (by rw [HN.out]; exact h1)
  have hn1 := Bx.mk (Nat.le_trans hg.out h1.size)
  clear h1
  go_wp2_with fail
  refine (newInt _ _ (by omega) (by omega)).mono ?_
  rintro e w2 ⟨rfl, b, c⟩
  rw [if_neg (by omega)] at b
  have hB2 := Bx.mk (hB1.out.step c hn1.out (fun _ h => h.elim))
  have hb2 := Bx.mk b
  have hn2 := Bx.mk (Nat.le_trans hn1.out c.size)
  have hg2 := hn1
  clear b c
  generalize hK : 1 + most % 40 = K at *
  have hK1 : 1 ≤ K := by omega
  have hK2 : K ≤ 40 := by omega
  have hr : ∃ r, more % 5 = r ∧ 0 ≤ r ∧ r < 5 := ⟨_, rfl, by omega, by omega⟩
  obtain ⟨r, hr, hr2, hr3⟩ := hr
  clear hK
  generalize w1.heap.size = g at *
  obtain ⟨k, rfl⟩ := Int.eq_ofNat_of_zero_le (show 0 ≤ K by omega)
  obtain ⟨m, rfl⟩ := Int.eq_ofNat_of_zero_le hr2
  have hF2 : Bx (∀ j, (none : Option Nat) = some j → n0 ≤ j) := Bx.mk (fun k h => by cases h)
  go_wp2_with fail
  go_loopw [7, 8] (fun i e wr => ∃ j : Nat, ∃ F, i = .int .i64 j ∧ j ≤ k + m ∧ Bx (BagInt wr g k (iota (min j k)) F) ∧ Bx (∀ j, F = some j → n0 ≤ j) ∧ Bx (Below n0 w wr) ∧ Bx (n0 ≤ wr.heap.size)) (fun i _ _ => k + m - (intOf i).toNat)
  case atStart => exact ⟨0, none, rfl, by omega, by simpa [iota] using hb2, hF2, hB2, hn2⟩
  case round =>
    obtain ⟨j, F, rfl, hj, hb, hF, hB, hn⟩ := hrel
    by_cases hlt : j < k + m
    · by_cases hjk : j < k
      · have hmin : min j k = j := by omega
        rw [hmin] at hb
        clear hmin
        go_wp2_with fail
        refine (putInt_room g k (iota j) F j wr hb.out (by rw [iota_len]; omega) (by rw [iota_len]; omega)).mono ?_
        rintro e w3 ⟨rfl, F', b, c, f⟩
        rw [iota_succ] at b
        have G1 := Bx.mk b
        have G2 := Bx.mk c
        have G3 := Bx.mk f
        clear b c f
        go_wp2
        have hmin2 : min (j + 1) k = j + 1 := by omega
        refine ⟨⟨j + 1, F', by go_num, by omega, by rw [hmin2]; exact G1, Bx.mk (F_next hF.out G3.out hn.out), Bx.mk (hB.out.step G2.out hn.out (own_in hg2.out hF.out)), Bx.mk (Nat.le_trans hn.out G2.out.size)⟩, by simp [intOf]; omega⟩
      · have hmin : min j k = k := by omega
        rw [hmin] at hb
        clear hmin
        go_wp2_with fail
        refine (putInt_full g k (iota k) F j wr hb.out (by rw [iota_len]; omega)).mono ?_
        rintro e w3 ⟨rfl, q, hq⟩
        have G2 := Bx.mk (show Chg (fun _ => False) wr w3 by rw [← hq]; exact (Chg.refl _ _).drewN q)
        clear hq
        go_wp2
        have hmin2 : min (j + 1) k = k := by omega
        refine ⟨⟨j + 1, F, by go_num, by omega, by rw [hmin2]; exact Bx.mk (hb.out.chg G2.out (fun h => h) (fun _ _ h => h)), hF, Bx.mk (hB.out.step G2.out hn.out (fun _ h => h.elim)), Bx.mk (Nat.le_trans hn.out G2.out.size)⟩, by simp [intOf]; omega⟩
    · have hmin : min j k = k := by omega
      rw [hmin] at hb
      clear hmin
      have hpl : place ((k : Int) - 1) k = k - 1 := by unfold place; rw [if_neg (by omega)]; rw [Int.emod_eq_of_lt (by omega) (by omega)]; omega
      have hval : (iota k).getD (place ((k : Int) - 1) (iota k).length) default = (k : Int) - 1 := by
        rw [iota_len, hpl]; simp [iota, show k - 1 < k by omega]; omega
      have hdel : (iota k).take (place ((k : Int) - 1) (iota k).length) ++ (iota k).drop (place ((k : Int) - 1) (iota k).length + 1) = iota (k - 1) := by
        rw [iota_len, hpl, List.drop_eq_nil_of_le (by rw [iota_len]; omega), List.append_nil]
        unfold iota
        rw [← List.map_take, List.take_range, Nat.min_eq_left (by omega)]
      have V1 := Bx.mk hval
      have V2 := Bx.mk hdel
      clear hval hdel hpl
      go_wp2_with fail
      refine (copyInt_full g k (iota k) F 0 wr hb.out (by rw [iota_len]; omega) (by rw [iota_len]; omega)).mono ?_
      rintro e w3 ⟨rfl, q, hq⟩
      have G2 := Bx.mk (show Chg (fun _ => False) wr w3 by rw [← hq]; exact (Chg.refl _ _).drewN q)
      have hb3 := Bx.mk (hb.out.chg G2.out (fun h => h) (fun _ _ h => h))
      have hB3 := Bx.mk (hB.out.step G2.out hn.out (fun _ h => h.elim))
      have hn3 := Bx.mk (Nat.le_trans hn.out G2.out.size)
      clear hq
      go_wp2_with fail
      refine (takeInt_val g k (iota k) (iota (k - 1)) F _ _ w3 hb3.out (by rw [iota_len]; omega) V1.out V2.out).mono ?_
      rintro e w4 ⟨rfl, b, c⟩
      have hb4 := Bx.mk b
      have hB4 := Bx.mk (hB3.out.step c hn3.out (own_in hg2.out hF.out))
      have hn4 := Bx.mk (Nat.le_trans hn3.out c.size)
      clear b c
      by_cases hk1 : k ≤ 1
      · have e0 : Bx (iota (k - 1) = []) := Bx.mk (by rw [show k - 1 = 0 by omega]; rfl)
        have hb5 : Bx (BagInt w4 g k [] F) := Bx.mk (by rw [← e0.out]; exact hb4.out)
        go_wp2_with fail
        refine (copyInt_none g k 0 w4 F hb5.out).mono ?_
        rintro e _ ⟨rfl, rfl⟩
        go_wp2_with fail
        refine (seeInt_none g k _ w4 F hb5.out).mono ?_
        rintro e _ ⟨rfl, rfl⟩
        go_wp2_with fail
        refine (clearInt_any g k [] F w4 hb5.out).mono ?_
        rintro e w5 ⟨rfl, b, c⟩
        have hB5 := Bx.mk (hB4.out.step c hn4.out (fun k h => by rw [h]; exact hg2.out))
        clear b c
        go_wp2_with fail
        refine (b0_one _ w5 (by omega)).mono ?_
        rintro e _ ⟨rfl, rfl⟩
        go_wp2
        go_ret
        exact ⟨rfl, hB5.out⟩
      · have hlen : (iota (k - 1)).length = k - 1 := iota_len _
        have hx0 : (iota (k - 1)).getD (place 0 (iota (k - 1)).length) default = 0 := by
          rw [hlen]
          have : place 0 (k - 1) = 0 := by unfold place; simp
          rw [this]; simp [iota, show 0 < k - 1 by omega]
        have hcp := copyInt_room g k (iota (k - 1)) F 0 w4 hb4.out (by omega) (by omega) (by omega)
        rw [hx0] at hcp
        have hpl : place ((k : Int) - 1) k = k - 1 := by unfold place; rw [if_neg (by omega)]; rw [Int.emod_eq_of_lt (by omega) (by omega)]; omega
        have hl2 : (iota (k - 1) ++ [0]).length = k := by rw [List.length_append, hlen]; simp; omega
        have hx1 : (iota (k - 1) ++ [0]).getD (place ((k : Int) - 1) (iota (k - 1) ++ [0]).length) default = 0 := by
          rw [hl2, hpl, List.getD_eq_getElem?_getD, List.getElem?_append_right (by rw [hlen]; exact Nat.le_refl _), hlen]; simp
        have C1 := Bx.mk hcp
        have C2 := Bx.mk hx1
        have C3 := Bx.mk hl2
        clear hcp hx1 hl2 hpl hx0 hlen
        go_wp2_with fail
        refine C1.out.mono ?_
        rintro e w5 ⟨rfl, F', b, c, f⟩
        have hb5 := Bx.mk b
        have hB5 := Bx.mk (hB4.out.step c hn4.out (own_in hg2.out hF.out))
        have hn5 := Bx.mk (Nat.le_trans hn4.out c.size)
        clear b c f
        go_wp2_with fail
        refine (seeInt_val g k _ F' _ 0 w5 hb5.out (by rw [C3.out]; omega) C2.out).mono ?_
        rintro e w6 ⟨rfl, q, hq⟩
        have c := Bx.mk (show Chg (fun _ => False) w5 w6 by rw [← hq]; exact (Chg.refl _ _).drewN q)
        have hb6 := Bx.mk (hb5.out.chg c.out (fun h => h) (fun _ _ h => h))
        have hB6 := Bx.mk (hB5.out.step c.out hn5.out (fun _ h => h.elim))
        have hn6 := Bx.mk (Nat.le_trans hn5.out c.out.size)
        clear hq
        go_wp2_with fail
        have hcl := clearInt_any g k _ F' w6 hb6.out
        rw [C3.out] at hcl
        refine hcl.mono ?_
        rintro e w7 ⟨rfl, b, c'⟩
        have hB7 := Bx.mk (hB6.out.step c' hn6.out (fun k h => by rw [h]; exact hg2.out))
        clear b c' hcl
        go_wp2_with fail
        refine (b0_more k w7 (by omega)).mono ?_
        rintro e _ ⟨rfl, rfl⟩
        go_wp2
        go_ret
        exact ⟨rfl, hB7.out⟩
end Go.Proofs.Ytgnekfifdmjeaaa
