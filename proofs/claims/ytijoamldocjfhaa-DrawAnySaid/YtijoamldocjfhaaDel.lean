/- slices.Delete over texts: what stays. No condition. -/
import Derived.Test.YtijoamldocjfhaaRows
import Derived.Test.YtijoamldocjfhaaL0
set_option linter.unusedVariables false
set_option linter.unusedSimpArgs false
namespace Go.Proofs.Ytijoamldocjfhaa
open Go.RowKit Go.Cn
theorem Try.info9 : (Try.prog.info? 9).map (fun i => (i.zero, i.size, i.bytes)) = some (some (.string ByteArray.empty), 1, 16) := by kernel_rfl
theorem tyStr : ElemTy Try.prog 22 9 (.string ByteArray.empty) 1 16 := ElemTy.mk' Try.underlying22 Try.info9 rfl (by decide)
theorem Try.info2 : (Try.prog.info? 2).map (fun i => (i.zero, i.size, i.bytes)) = some (some (.int .i64 0), 1, 8) := by kernel_rfl
theorem tyI64 : ElemTy Try.prog 23 2 (.int .i64 0) 1 8 := ElemTy.mk' Try.underlying23 Try.info2 rfl (by decide)

/-! ### slices.Delete over 22 -/
theorem delStr_same (A : Option Addr) (n cap i : Nat) (w : World) (hi : i ≤ n) (hc : n ≤ cap) (hm : cap ≤ 9223372036854775807) :
    Calls Try.prog 18 #[.slice A n cap, .int .i64 i, .int .i64 i] w fun e w' => e = .returned (.slice A n cap) ∧ w = w' := by
  go_enter Try.func18, Try.ntmps18
  go_wp2
  all_goals (go_ret; exact ⟨rfl, rfl⟩)
theorem delStr_lt (g n cap i j : Nat) (jj : Int) (hjj : jj = (j : Int)) (xs : List Value) (w : World) (hr : RowAt w 9 1 g n cap xs) (hi : i < j) (hj : j ≤ n) (h1 : ∀ u ∈ xs, u.oneCell' = true) :
    Calls Try.prog 18 #[.slice (some ⟨g, 0, none⟩) n cap, .int .i64 i, .int .i64 jj] w fun e w' => e = .returned (.slice (some ⟨g, 0, none⟩) (n - (j - i)) cap) ∧
      RowAt w' 9 1 g (n - (j - i)) cap (xs.take (i * 1) ++ xs.drop (j * 1)) ∧ Chg (fun k => k = g) w w' := by
  subst hjj
  obtain ⟨hnc, hm⟩ := hr.cap_le
  have hr1 : RowAt w.drew 9 1 g n cap xs := hr.chg ((Chg.refl (fun _ => False) w).drew) (fun h => h)
  obtain ⟨A, hA, hsrc⟩ : ∃ A : Addr, (if cap = j then some (⟨g, 0, none⟩ : Addr) else some ⟨g, j, none⟩) = some A ∧ Src w.drew (some A) (xs.drop (j * 1)) := by
    by_cases h : cap = j
    · refine ⟨⟨g, 0, none⟩, by simp [h], ?_⟩
      rw [List.drop_eq_nil_of_le (by rw [hr.1]; exact Nat.mul_le_mul_right _ (by omega))]
      exact Src.nil _ _
    · refine ⟨⟨g, j, none⟩, by simp [h], fun k u hu => ⟨_, rfl, ?_⟩⟩
      rw [List.getElem?_drop] at hu
      have hk := (List.getElem?_eq_some_iff.1 hu).1
      rw [Addr.add_lit]
      rw [hr1.cell (j + k) (by have := hr.1; omega)]
      simpa [Nat.mul_comm] using hu
  obtain ⟨w1, hrun, hr2, hc1⟩ := app_room tyStr hr1 (n := i) rfl (by omega) A (n - j) (cap - j) (xs.drop (j * 1)) (by rw [List.length_drop, hr.1, Nat.sub_mul]) hsrc (fun u hu => h1 u (List.mem_of_mem_drop hu)) (by omega) 22
  obtain ⟨w2, hclr, hr3, hc2⟩ := clear_run tyStr (by intro u hu; simp [Value.cells] at hu; subst hu; rfl) hr2 (n - (i + (n - j))) (cap - (i + (n - j))) (by omega) (by omega) (i + (n - j)) (by omega) 0
  have H1 := Bx.mk hrun
  have H2 := Bx.mk hclr
  have H3 := Bx.mk hr3
  have H4 := Bx.mk hc1
  have H5 := Bx.mk hc2
  have hic : i ≤ cap := by omega
  have hjc : j ≤ cap := by omega
  clear hrun hclr hr3 hc1 hc2 hr2 hsrc hr1 hr h1
  go_enter Try.func18, Try.ntmps18
  go_wp2_with fail
  go_region_law (refine step_append_run rfl (.tmp 22) (.tmp 25) 22 22 rfl _ _ (by simp [Act.eval, Act.put]; done) (by simp [Act.eval, Act.put, hA]; done) H1.out ?_)
  go_wp2_with (with_reducible refine wpList_clear_run rfl (.tmp 31) 22 rfl _ ?hx H2.out ?_)
  case hx => rfl
  go_ret
  rw [show n - (j - i) = i + (n - j) by omega]
  exact ⟨rfl, H3.out, (((Chg.refl _ _).drew).trans H4.out).trans H5.out⟩

end Go.Proofs.Ytijoamldocjfhaa

