/- known: three things put, one copied, one seen, one taken, all let go: it returns true and leaves all that was there as it was. No condition. -/
import Derived.Test.YtgnekfifdmjeaaaFns
set_option linter.unusedVariables false
set_option linter.unusedSimpArgs false
namespace Go.Proofs.Ytgnekfifdmjeaaa
open Go.RowKit Go.Cn
set_option maxHeartbeats 1000000 in
theorem known_any (w : World) : Calls Try.prog 6 #[] w fun e w' => e = .returned (.bool true) ∧ Below w.heap.size w w' := by
  obtain ⟨n0, hn0⟩ : ∃ n0, n0 = w.heap.size := ⟨_, rfl⟩
  have hg : Bx (n0 ≤ w.heap.size) := Bx.mk (by omega)
  have HN := Bx.mk hn0
  clear hn0
  go_enter Try.func6, Try.ntmps6
  go_wp2_with fail
  refine (newStr 3 w (by omega) (by omega)).mono ?_
  rintro e w1 ⟨rfl, b1, c1⟩
  have hB1 := Bx.mk ((Below.refl n0 w).step c1 hg.out (fun _ h => h.elim))
  have hb1 : Bx (BagStr w1 w.heap.size 3 [] none) := Bx.mk (by simpa using b1)
  have hn1 := Bx.mk (Nat.le_trans hg.out c1.size)
  have hF1 : Bx (∀ k, (none : Option Nat) = some k → n0 ≤ k) := Bx.mk (fun k h => by cases h)
  clear b1 c1
  go_wp2_with fail
  refine (putStr_room _ 3 _ _ ({ data := #[120] } : ByteArray) w1 hb1.out (by simp) (by simp)).mono ?_
  rintro e w2 ⟨rfl, F2, b, c, f⟩
  have hB2 := Bx.mk (hB1.out.step c hn1.out (own_in hg.out hF1.out))
  have hb2 : Bx (BagStr w2 w.heap.size 3 [({ data := #[120] } : ByteArray)] F2) := Bx.mk (by simpa [place] using b)
  have hn2 := Bx.mk (Nat.le_trans hn1.out c.size)
  have hF2 := Bx.mk (F_next hF1.out f hn1.out)
  clear b c f
  go_wp2_with fail
  refine (putStr_room _ 3 _ _ ({ data := #[121] } : ByteArray) w2 hb2.out (by simp) (by simp)).mono ?_
  rintro e w3 ⟨rfl, F3, b, c, f⟩
  have hB3 := Bx.mk (hB2.out.step c hn2.out (own_in hg.out hF2.out))
  have hb3 : Bx (BagStr w3 w.heap.size 3 [({ data := #[120] } : ByteArray), ({ data := #[121] } : ByteArray)] F3) := Bx.mk (by simpa [place] using b)
  have hn3 := Bx.mk (Nat.le_trans hn2.out c.size)
  have hF3 := Bx.mk (F_next hF2.out f hn2.out)
  clear b c f
  go_wp2_with fail
  refine (copyStr_room _ 3 _ _ 0 w3 hb3.out (by simp) (by simp) (by simp)).mono ?_
  rintro e w4 ⟨rfl, F4, b, c, f⟩
  have hB4 := Bx.mk (hB3.out.step c hn3.out (own_in hg.out hF3.out))
  have hb4 : Bx (BagStr w4 w.heap.size 3 [({ data := #[120] } : ByteArray), ({ data := #[121] } : ByteArray), ({ data := #[120] } : ByteArray)] F4) := Bx.mk (by simpa [place] using b)
  have hn4 := Bx.mk (Nat.le_trans hn3.out c.size)
  have hF4 := Bx.mk (F_next hF3.out f hn3.out)
  clear b c f
  go_wp2_with fail
  refine (putStr_full _ 3 _ _ ({ data := #[122] } : ByteArray) w4 hb4.out (by simp)).mono ?_
  rintro e w5 ⟨rfl, k, hk⟩
  have c : Chg (fun _ => False) w4 w5 := by rw [← hk]; exact (Chg.refl _ _).drewN k
  have hB5 := Bx.mk (hB4.out.step c hn4.out (fun _ h => h.elim))
  have hb5 := Bx.mk (hb4.out.chg c (fun h => h) (fun _ _ h => h))
  have hn5 := Bx.mk (Nat.le_trans hn4.out c.size)
  have hF5 := hF4
  clear c hk
  go_wp2_with fail
  refine (seeStr_val _ 3 _ _ 4 ({ data := #[121] } : ByteArray) w5 hb5.out (by simp) rfl).mono ?_
  rintro e w6 ⟨rfl, k, hk⟩
  have c : Chg (fun _ => False) w5 w6 := by rw [← hk]; exact (Chg.refl _ _).drewN k
  have hB6 := Bx.mk (hB5.out.step c hn5.out (fun _ h => h.elim))
  have hb6 := Bx.mk (hb5.out.chg c (fun h => h) (fun _ _ h => h))
  have hn6 := Bx.mk (Nat.le_trans hn5.out c.size)
  have hF6 := hF5
  clear c hk
  go_wp2_with fail
  refine (takeStr_val _ 3 _ [({ data := #[121] } : ByteArray), ({ data := #[120] } : ByteArray)] _ 0 ({ data := #[120] } : ByteArray) w6 hb6.out (by simp) rfl rfl).mono ?_
  rintro e w7 ⟨rfl, b, c⟩
  have hB7 := Bx.mk (hB6.out.step c hn6.out (own_in hg.out hF6.out))
  have hb7 : Bx (BagStr w7 w.heap.size 3 [({ data := #[121] } : ByteArray), ({ data := #[120] } : ByteArray)] _) := Bx.mk (by simpa [place] using b)
  have hn7 := Bx.mk (Nat.le_trans hn6.out c.size)
  have hF7 := hF6
  clear b c
  go_wp2_with fail
  refine (clearStr_any _ 3 _ _ w7 hb7.out).mono ?_
  rintro e w8 ⟨rfl, b, c⟩
  have hB8 := Bx.mk (hB7.out.step c hn7.out (fun k h => by rw [h]; exact hg.out))
  have hb8 := Bx.mk b
  have hn8 := Bx.mk (Nat.le_trans hn7.out c.size)
  have hF8 := hF1
  clear b c
  go_wp2_with fail
  refine (takeStr_none _ 3 0 w8 _ hb8.out).mono ?_
  rintro e _ ⟨rfl, rfl⟩
  go_wp2_with fail
  refine (copyStr_none _ 3 0 w8 _ hb8.out).mono ?_
  rintro e _ ⟨rfl, rfl⟩
  go_wp2_with fail
  refine (lenStr_any _ 3 _ _ w8 hb8.out).mono ?_
  rintro e _ ⟨rfl, rfl⟩
  go_wp2
  go_ret
  exact ⟨rfl, by rw [← HN.out]; exact hB8.out⟩
end Go.Proofs.Ytgnekfifdmjeaaa

