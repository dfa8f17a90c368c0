/- The bag's functions (new, put, see, take, copy, clear, len) and slices.Delete, each by what it does to a row of things; no condition beyond a row of at most 1000 things. -/
import Derived.Test.YtgnekfifdmjeaaaRows
import Derived.Test.YtgnekfifdmjeaaaL0
set_option linter.unusedVariables false
set_option linter.unusedSimpArgs false
namespace Go.Proofs.Ytgnekfifdmjeaaa
open Go.RowKit Go.Cn
theorem Try.info3 : (Try.prog.info? 3).map (fun i => (i.zero, i.size, i.bytes)) = some (some (.int .i64 0), 1, 8) := by kernel_rfl
theorem tyInt : ElemTy Try.prog 38 3 (.int .i64 0) 1 8 := ElemTy.mk' Try.underlying38 Try.info3 rfl (by decide)

/-! ### slices.Delete over 38 -/
theorem delInt_same (A : Option Addr) (n cap i : Nat) (w : World) (hi : i ≤ n) (hc : n ≤ cap) (hm : cap ≤ 9223372036854775807) :
    Calls Try.prog 31 #[.slice A n cap, .int .i64 i, .int .i64 i] w fun e w' => e = .returned (.slice A n cap) ∧ w = w' := by
  go_enter Try.func31, Try.ntmps31
  go_wp2
  all_goals (go_ret; exact ⟨rfl, rfl⟩)
theorem delInt_lt (g n cap i j : Nat) (jj : Int) (hjj : jj = (j : Int)) (xs : List Value) (w : World) (hr : RowAt w 3 1 g n cap xs) (hi : i < j) (hj : j ≤ n) (h1 : ∀ u ∈ xs, u.oneCell' = true) :
    Calls Try.prog 31 #[.slice (some ⟨g, 0, none⟩) n cap, .int .i64 i, .int .i64 jj] w fun e w' => e = .returned (.slice (some ⟨g, 0, none⟩) (n - (j - i)) cap) ∧
      RowAt w' 3 1 g (n - (j - i)) cap (xs.take (i * 1) ++ xs.drop (j * 1)) ∧ Chg (fun k => k = g) w w' := by
  subst hjj
  obtain ⟨hnc, hm⟩ := hr.cap_le
  have hr1 : RowAt w.drew 3 1 g n cap xs := hr.chg ((Chg.refl (fun _ => False) w).drew) (fun h => h)
  obtain ⟨A, hA, hsrc⟩ : ∃ A : Addr, (if cap = j then some (⟨g, 0, none⟩ : Addr) else some ⟨g, j, none⟩) = some A ∧ Src w.drew (some A) (xs.drop (j * 1)) := by
    by_cases h : cap = j
    · refine ⟨⟨g, 0, none⟩, by simp [h], ?_⟩
      rw [List.drop_eq_nil_of_le (by rw [hr.1]; exact Nat.mul_le_mul_right _ (by omega))]
      exact Src.nil _ _
    · refine ⟨⟨g, j, none⟩, by simp [h], fun k u hu => ⟨_, rfl, ?_⟩⟩
      rw [List.getElem?_drop] at hu
      have hk := (List.getElem?_eq_some_iff.1 hu).1
      rw [Addr.add_lit]
      rw [hr1.cell (j + k) (by have := hr.1; omega)]
      simpa [Nat.mul_comm] using hu
  obtain ⟨w1, hrun, hr2, hc1⟩ := app_room tyInt hr1 (n := i) rfl (by omega) A (n - j) (cap - j) (xs.drop (j * 1)) (by rw [List.length_drop, hr.1, Nat.sub_mul]) hsrc (fun u hu => h1 u (List.mem_of_mem_drop hu)) (by omega) 38
  obtain ⟨w2, hclr, hr3, hc2⟩ := clear_run tyInt (by intro u hu; simp [Value.cells] at hu; subst hu; rfl) hr2 (n - (i + (n - j))) (cap - (i + (n - j))) (by omega) (by omega) (i + (n - j)) (by omega) 0
  have H1 := Bx.mk hrun
  have H2 := Bx.mk hclr
  have H3 := Bx.mk hr3
  have H4 := Bx.mk hc1
  have H5 := Bx.mk hc2
  have hic : i ≤ cap := by omega
  have hjc : j ≤ cap := by omega
  clear hrun hclr hr3 hc1 hc2 hr2 hsrc hr1 hr h1
  go_enter Try.func31, Try.ntmps31
  go_wp2_with fail
  go_region_law (refine step_append_run rfl (.tmp 22) (.tmp 25) 38 38 rfl _ _ (by simp [Act.eval, Act.put]; done) (by simp [Act.eval, Act.put, hA]; done) H1.out ?_)
  go_wp2_with (with_reducible refine wpList_clear_run rfl (.tmp 31) 38 rfl _ ?hx H2.out ?_)
  case hx => rfl
  go_ret
  rw [show n - (j - i) = i + (n - j) by omega]
  exact ⟨rfl, H3.out, (((Chg.refl _ _).drew).trans H4.out).trans H5.out⟩

/-! ### the bag Int -/
/-- In world w the pointer to block g is a bag of the things l, of at most 'most'; F: the block of its row. -/
def BagInt (w : World) (g : Nat) (most : Int) (l : List Int) (F : Option Nat) : Prop :=
  ∃ v, w.heap[g]? = some (.cells #[.int .i64 most, v] 58 (0, 0)) ∧ Own w 3 1 v l.length (l.map (Value.int .i64)) F ∧ F ≠ some g ∧ l.length ≤ 1000
theorem BagInt.chg {w w' : World} {g : Nat} {most : Int} {l : List Int} {F : Option Nat} {S : Nat → Prop} (h : BagInt w g most l F) (c : Chg S w w') (hg : ¬ S g) (hF : ∀ k, F = some k → ¬ S k) : BagInt w' g most l F := by
  obtain ⟨v, h1, h2, h3⟩ := h
  exact ⟨v, c.heap h1 hg, h2.chg c hF, h3⟩
theorem BagInt.lt {w : World} {g : Nat} {most : Int} {l : List Int} {F : Option Nat} (h : BagInt w g most l F) : g < w.heap.size ∧ ∀ k, F = some k → k < w.heap.size := by
  obtain ⟨v, h1, h2, h3⟩ := h
  exact ⟨blk_lt h1, fun k hk => h2.lt hk⟩
theorem BagInt.small {w : World} {g : Nat} {most : Int} {l : List Int} {F : Option Nat} (h : BagInt w g most l F) : l.length ≤ 1000 := by obtain ⟨v, h1, h2, h3, h4⟩ := h; exact h4
theorem newInt (m : Int) (w : World) (h1 : -9223372036854775808 ≤ m) (h2 : m ≤ 9223372036854775807) :
    Calls Try.prog 18 #[.int .i64 m] w fun e w' => e = .returned (.pointer (some ⟨w.heap.size, 0, none⟩)) ∧ BagInt w' w.heap.size (if m < 1 then 1 else m) [] none ∧ Chg (fun _ => False) w w' := by
  by_cases h : m < 1
  · rw [if_pos h]
    go_enter Try.func18, Try.ntmps18
    go_wp2
    go_ret
    exact ⟨rfl, ⟨_, blk_new _ _, Own.nil _ _ _, by simp, by simp⟩, (Chg.refl _ _).alloc _⟩
  · rw [if_neg h]
    go_enter Try.func18, Try.ntmps18
    go_wp2
    go_ret
    exact ⟨rfl, ⟨_, blk_new _ _, Own.nil _ _ _, by simp, by simp⟩, (Chg.refl _ _).alloc _⟩
theorem atInt (g : Nat) (n cap : Nat) (ad : Option Addr) (i : Int) (w : World) (hn : 0 < n) (hm : n ≤ 9223372036854775807)
    (h1 : w.cell? ⟨g, 1, none⟩ = some (.slice ad n cap)) :
    Calls Try.prog 30 #[.pointer (some ⟨g, 0, none⟩), .int .i64 i] w fun e w' => e = .returned (.int .i64 ((if i < 0 then 0 else i) % n)) ∧ w = w' := by
  have hn' : (0:Int) < n := by omega
  by_cases hi : i < 0
  · rw [if_pos hi]
    go_enter Try.func30, Try.ntmps30
    go_wp2
    go_ret
    exact ⟨by simp, rfl⟩
  · rw [if_neg hi]
    go_enter Try.func30, Try.ntmps30
    go_wp2
    go_ret
    exact ⟨by simp, rfl⟩
theorem putInt_full (g : Nat) (most : Int) (l : List Int) (F : Option Nat) (x : Int) (w : World) (hb : BagInt w g most l F) (hn : most ≤ (l.length : Int)) :
    Calls Try.prog 19 #[.pointer (some ⟨g, 0, none⟩), (Value.int .i64) x] w fun e w' => e = .returned (.int .i64 9) ∧ ∃ k, w.drewN k = w' := by
  obtain ⟨v, hg, ho, hne, hsz⟩ := hb
  obtain ⟨A, cap, rfl, hcap, hmax⟩ := ho.shape
  have c0 := blk_cell hg 0
  have c1 := blk_cell hg 1
  simp at c0 c1
  have hm : l.length ≤ 9223372036854775807 := by omega
  clear ho hg
  go_enter Try.func19, Try.ntmps19
  go_wp2_with fail
  go_quiet (fail)
  go_wp2
  go_ret
  exact ⟨rfl, _, rfl⟩
theorem putInt_room (g : Nat) (most : Int) (l : List Int) (F : Option Nat) (x : Int) (w : World) (hb : BagInt w g most l F) (hn : (l.length : Int) < most) (hroom : l.length < 1000) :
    Calls Try.prog 19 #[.pointer (some ⟨g, 0, none⟩), (Value.int .i64) x] w fun e w' => e = .returned (.int .i64 0) ∧ ∃ F', BagInt w' g most (l ++ [x]) F' ∧ Chg (fun k => k = g ∨ F = some k) w w' ∧ ∀ k, F' = some k → F = some k ∨ w.heap.size ≤ k := by
  obtain ⟨v, hg, ho, hne, hsz⟩ := hb
  obtain ⟨A, cap, rfl, hcap, hmax⟩ := ho.shape
  have c0 := blk_cell hg 0
  have c1 := blk_cell hg 1
  simp at c0 c1
  have hm : l.length ≤ 9223372036854775807 := by omega
  go_enter Try.func19, Try.ntmps19
  go_wp2_with fail
  go_quiet (fail)
  have hg1 := blk_drewN hg nq
  have ho1 := ho.chg ((Chg.refl (fun _ => False) w).drewN nq) (fun _ _ h => h)
  have hch := ((Chg.refl (fun k => k = g ∨ F = some k) w).drewN nq)
  clear hg ho c0 c1
  generalize w.drewN nq = w1 at *
  have c0 := blk_cell hg1 0
  have c1 := blk_cell hg1 1
  simp at c0 c1
  have hlt := blk_lt hg1
  obtain ⟨A2, cap2, F2, w2, hrun, ho2, hc2, hF2⟩ := app_run tyInt (ho1.chg ((Chg.refl (fun _ => False) w1).alloc (.cells #[(Value.int .i64) x] 3)) (fun _ _ h => h)) (some ⟨w1.heap.size, 0, none⟩) 1 1 [(Value.int .i64) x] rfl (Src.new _ _ _) (oneCell_one rfl) (by omega) (by omega) 38
  have hg2 := hc2.heap (blk_alloc hg1 _) hne
  have c0' := blk_cell hg2 0
  have c1' := blk_cell hg2 1
  have f1' := blk_frozen hg2 1
  simp at c0' c1'
  have H1 := Bx.mk ho2
  have H2 := Bx.mk hc2
  have H3 := Bx.mk hg2
  have H4 := Bx.mk hF2
  have H5 := Bx.mk hch
  have H8 := Bx.mk hrun
  clear ho2 hc2 hg2 hg1 hch hF2 ho1 hrun
  go_wp2_with (at_builtin; refine wpList_append_run rfl (.tmp 19) (.tmp 21) 38 38 rfl _ _ rfl rfl H8.out ?_)
  go_ret
  have hne2 : ∀ k, F2 = some k → k ≠ g := fun k hk he => by
    rcases H4.out k hk with h | h
    · exact hne (he ▸ h)
    · simp at h; omega
  refine ⟨rfl, F2, ⟨_, blk_set H3.out 1 _, ?_, fun h => hne2 g h rfl, ?_⟩, ?_, ?_⟩
  · have := H1.out.chg ((Chg.refl (fun k => k = g) w2).setCell (p := ⟨g, 1, none⟩) (.inl rfl) (.slice A2 (l.length + 1) cap2)) hne2
    simpa using this
  · simp; omega
  · exact ((H5.out.alloc _).then H2.out (fun i hi => .inl (.inr hi))).setCell (.inl (.inl rfl)) _
  · intro k hk
    rcases H4.out k hk with h | h
    · exact .inl h
    · right; have := H5.out.size; simp at h; omega
theorem seeInt_none (g : Nat) (most : Int) (i : Int) (w : World) (F : Option Nat) (hb : BagInt w g most [] F) :
    Calls Try.prog 22 #[.pointer (some ⟨g, 0, none⟩), .int .i64 i] w fun e w' => e = .returned (.tuple #[.int .i64 0, .bool false]) ∧ w = w' := by
  obtain ⟨v, hg, ho, hne, hsz⟩ := hb
  obtain ⟨A, cap, rfl, hcap, hmax⟩ := ho.shape
  have c1 := blk_cell hg 1
  simp at c1
  clear ho hg
  go_enter Try.func22, Try.ntmps22
  go_wp2
  go_ret2
  exact ⟨rfl, rfl⟩
/-- The place that a number means. -/
def place (i : Int) (n : Nat) : Nat := ((if i < 0 then 0 else i) % (n : Int)).toNat
theorem place_lt (i : Int) {n : Nat} (h : 0 < n) : place i n < n := by
  unfold place
  have h1 : 0 ≤ (if i < 0 then 0 else i) % (n : Int) := Int.emod_nonneg _ (by omega)
  have h2 : (if i < 0 then 0 else i) % (n : Int) < n := Int.emod_lt_of_pos _ (by omega)
  omega
theorem place_eq (i : Int) {n : Nat} (h : 0 < n) : (if i < 0 then 0 else i) % (n : Int) = (place i n : Int) := by
  unfold place
  have h1 : 0 ≤ (if i < 0 then 0 else i) % (n : Int) := Int.emod_nonneg _ (by omega)
  omega
theorem seeInt_some (g : Nat) (most : Int) (l : List Int) (F : Option Nat) (i : Int) (w : World) (hb : BagInt w g most l F) (hn : 0 < l.length) :
    Calls Try.prog 22 #[.pointer (some ⟨g, 0, none⟩), .int .i64 i] w fun e w' => e = .returned (.tuple #[(Value.int .i64) (l.getD (place i l.length) default), .bool true]) ∧ ∃ k, w.drewN k = w' := by
  obtain ⟨v, hg, ho, hne, hsz⟩ := hb
  obtain ⟨a, cap, rfl, hF, hr⟩ := ho.pos hn
  have hm := hr.cap_le
  have c1 := blk_cell hg 1
  simp at c1
  have hp := place_lt i hn
  have hcell : w.cell? ⟨a, place i l.length, none⟩ = some ((Value.int .i64) (l.getD (place i l.length) default)) := by
    rw [hr.cell (place i l.length) (by omega)]; simp [hp]
  have hat := fun w => atInt g l.length cap (some ⟨a, 0, none⟩) i w hn (by omega)
  rw [place_eq i hn] at hat
  generalize l.getD (place i l.length) default = x at *
  generalize place i l.length = p at *
  have hpn : (p : Int) < (l.length : Int) := by omega
  have hl0 : ((l.length : Int) == 0) = false := beq_eq_false_iff_ne.2 (by omega)
  have H := Bx.mk hat
  clear hat ho hr hg
  go_enter Try.func22, Try.ntmps22
  go_wp2_with fail
  go_quiet ((go_at_call 30; exact Calls.quiet_of_same ((H.out _ (by go_simp)).mono fun _ _ ⟨h1, h2⟩ => ⟨h1, h2.symm⟩)))
  go_wp2
  go_ret2
  exact ⟨rfl, _, rfl⟩
theorem takeInt_none (g : Nat) (most : Int) (i : Int) (w : World) (F : Option Nat) (hb : BagInt w g most [] F) :
    Calls Try.prog 21 #[.pointer (some ⟨g, 0, none⟩), .int .i64 i] w fun e w' => e = .returned (.tuple #[.int .i64 0, .bool false]) ∧ w = w' := by
  have H := Bx.mk (seeInt_none g most i w F hb)
  clear hb
  go_enter Try.func21, Try.ntmps21
  go_wp2_with (go_at_call 22; refine H.out.mono ?_; rintro e w' ⟨rfl, rfl⟩)
  go_ret2
  exact ⟨rfl, rfl⟩
theorem map_delInt (l : List Int) (p : Nat) : (l.map (Value.int .i64)).take (p * 1) ++ (l.map (Value.int .i64)).drop ((p + 1) * 1) = (l.take p ++ l.drop (p + 1)).map (Value.int .i64) := by
  simp [List.map_take, List.map_drop]
theorem takeInt_some (g : Nat) (most : Int) (l : List Int) (F : Option Nat) (i : Int) (w : World) (hb : BagInt w g most l F) (hn : 0 < l.length) :
    Calls Try.prog 21 #[.pointer (some ⟨g, 0, none⟩), .int .i64 i] w fun e w' => e = .returned (.tuple #[(Value.int .i64) (l.getD (place i l.length) default), .bool true]) ∧
      BagInt w' g most (l.take (place i l.length) ++ l.drop (place i l.length + 1)) F ∧ Chg (fun k => k = g ∨ F = some k) w w' := by
  have Hs := Bx.mk (seeInt_some g most l F i w hb hn)
  obtain ⟨v, hg, ho, hne, hsz⟩ := hb
  obtain ⟨a, cap, rfl, hF, hr⟩ := ho.pos hn
  have hm := hr.cap_le
  have hp := place_lt i hn
  have hat := fun w => atInt g l.length cap (some ⟨a, 0, none⟩) i w hn (by omega)
  rw [place_eq i hn] at hat
  have hdel := fun w hr => delInt_lt a l.length cap (place i l.length) (place i l.length + 1) ((place i l.length : Int) + 1) (by omega) (l.map (Value.int .i64)) w hr (by omega) (by omega) (by intro u hu; simp at hu; obtain ⟨x, _, rfl⟩ := hu; rfl)
  rw [map_delInt] at hdel
  have hl : (l.take (place i l.length) ++ l.drop (place i l.length + 1)).length = l.length - 1 := by simp; omega
  generalize l.take (place i l.length) ++ l.drop (place i l.length + 1) = l2 at *
  generalize l.getD (place i l.length) default = x at *
  generalize place i l.length = p at *
  have Ha := Bx.mk hat
  have Hd := Bx.mk hdel
  have H1 := Bx.mk hg
  have H2 := Bx.mk hr
  have H3 := Bx.mk hne
  have H4 := Bx.mk hF
  have H5 := Bx.mk hl
  clear hat hdel hg hr ho hne hF hl
  go_enter Try.func21, Try.ntmps21
  go_wp2_with fail
  refine Hs.out.mono ?_
  rintro e w1 ⟨rfl, k, hk⟩
  have hg1 := blk_drewN H1.out k
  rw [hk] at hg1
  have hr1 : RowAt w1 3 1 a l.length cap (l.map (Value.int .i64)) := by rw [← hk]; exact H2.out.chg ((Chg.refl (fun _ => False) w).drewN k) (fun h => h)
  have hch : Chg (fun k => k = g ∨ F = some k) w w1 := by rw [← hk]; exact (Chg.refl _ w).drewN k
  clear hk
  have c1 := blk_cell hg1 1
  simp at c1
  have hc := c1
  go_wp2_with fail
  refine (Ha.out w1 c1).mono ?_
  rintro e w2 ⟨rfl, rfl⟩
  have G1 := Bx.mk hg1
  have G2 := Bx.mk hr1
  have G3 := Bx.mk hch
  clear hg1 hr1 hch
  go_wp2_with fail
  refine (Hd.out w1 G2.out).mono ?_
  rintro e w2 ⟨rfl, hr2, hc2⟩
  have hga : ¬ g = a := fun h => H3.out (by rw [H4.out, h])
  have hg2 := hc2.heap G1.out hga
  have c1' := blk_cell hg2 1
  have f1' := blk_frozen hg2 1
  simp at c1'
  have G4 := Bx.mk hg2
  have G5 := Bx.mk hr2
  have G6 := Bx.mk hc2
  clear hg2 hr2 hc2
  go_wp2
  go_ret2
  have hl := H5.out
  refine ⟨rfl, ⟨_, blk_set G4.out 1 _, .inr ⟨a, cap, by rw [hl], H4.out, ?_⟩, H3.out, by omega⟩, ?_⟩
  · have := G5.out.chg ((Chg.refl (fun k => k = g) w2).setCell (p := ⟨g, 1, none⟩) (.inl rfl) (.slice (some ⟨a, 0, none⟩) (l.length - (p + 1 - p)) cap)) (fun h => hga h.symm)
    rw [hl]
    simpa using this
  · exact (G3.out.then G6.out (fun i hi => .inl (.inr (by rw [H4.out, hi])))).setCell (.inl (.inl rfl)) _
theorem seeInt_val (g : Nat) (most : Int) (l : List Int) (F : Option Nat) (i : Int) (x : Int) (w : World) (hb : BagInt w g most l F) (hn : 0 < l.length) (hx : l.getD (place i l.length) default = x) :
    Calls Try.prog 22 #[.pointer (some ⟨g, 0, none⟩), .int .i64 i] w fun e w' => e = .returned (.tuple #[(Value.int .i64) x, .bool true]) ∧ ∃ k, w.drewN k = w' := by
  rw [← hx]; exact seeInt_some g most l F i w hb hn
theorem takeInt_val (g : Nat) (most : Int) (l l' : List Int) (F : Option Nat) (i : Int) (x : Int) (w : World) (hb : BagInt w g most l F) (hn : 0 < l.length) (hx : l.getD (place i l.length) default = x) (hl : l.take (place i l.length) ++ l.drop (place i l.length + 1) = l') :
    Calls Try.prog 21 #[.pointer (some ⟨g, 0, none⟩), .int .i64 i] w fun e w' => e = .returned (.tuple #[(Value.int .i64) x, .bool true]) ∧
      BagInt w' g most l' F ∧ Chg (fun k => k = g ∨ F = some k) w w' := by
  rw [← hx, ← hl]; exact takeInt_some g most l F i w hb hn
theorem copyInt_none (g : Nat) (most : Int) (i : Int) (w : World) (F : Option Nat) (hb : BagInt w g most [] F) :
    Calls Try.prog 20 #[.pointer (some ⟨g, 0, none⟩), .int .i64 i] w fun e w' => e = .returned (.int .i64 8) ∧ w = w' := by
  have H := Bx.mk (seeInt_none g most i w F hb)
  clear hb
  go_enter Try.func20, Try.ntmps20
  go_wp2_with (go_at_call 22; refine H.out.mono ?_; rintro e w' ⟨rfl, rfl⟩)
  go_ret
  exact ⟨rfl, rfl⟩
theorem copyInt_full (g : Nat) (most : Int) (l : List Int) (F : Option Nat) (i : Int) (w : World) (hb : BagInt w g most l F) (h0 : 0 < l.length) (hn : most ≤ (l.length : Int)) :
    Calls Try.prog 20 #[.pointer (some ⟨g, 0, none⟩), .int .i64 i] w fun e w' => e = .returned (.int .i64 9) ∧ ∃ k, w.drewN k = w' := by
  have H := Bx.mk (seeInt_some g most l F i w hb h0)
  have H2 := Bx.mk fun x w hb => putInt_full g most l F x w hb hn
  have H3 := Bx.mk hb
  clear hb
  go_enter Try.func20, Try.ntmps20
  go_wp2_with fail
  refine H.out.mono ?_
  rintro e w1 ⟨rfl, k, hk⟩
  have hb1 : BagInt w1 g most l F := by rw [← hk]; exact H3.out.chg ((Chg.refl (fun _ => False) w).drewN k) (fun h => h) (fun _ _ h => h)
  have H4 := Bx.mk hb1
  have H5 := Bx.mk hk
  clear hb1 hk
  go_wp2_with fail
  refine (H2.out _ w1 H4.out).mono ?_
  rintro e w2 ⟨rfl, j, hj⟩
  have H6 := Bx.mk hj
  clear hj
  go_wp2
  go_ret
  exact ⟨rfl, k + j, by rw [← World.drewN_drewN, H5.out, H6.out]⟩
theorem copyInt_room (g : Nat) (most : Int) (l : List Int) (F : Option Nat) (i : Int) (w : World) (hb : BagInt w g most l F) (h0 : 0 < l.length) (hn : (l.length : Int) < most) (hroom : l.length < 1000) :
    Calls Try.prog 20 #[.pointer (some ⟨g, 0, none⟩), .int .i64 i] w fun e w' => e = .returned (.int .i64 0) ∧ ∃ F', BagInt w' g most (l ++ [l.getD (place i l.length) default]) F' ∧ Chg (fun k => k = g ∨ F = some k) w w' ∧ ∀ k, F' = some k → F = some k ∨ w.heap.size ≤ k := by
  have H := Bx.mk (seeInt_some g most l F i w hb h0)
  generalize l.getD (place i l.length) default = x at *
  have H2 := Bx.mk fun w hb => putInt_room g most l F x w hb hn hroom
  have H3 := Bx.mk hb
  clear hb
  go_enter Try.func20, Try.ntmps20
  go_wp2_with fail
  refine H.out.mono ?_
  rintro e w1 ⟨rfl, k, hk⟩
  have hch : Chg (fun k => k = g ∨ F = some k) w w1 := by rw [← hk]; exact (Chg.refl _ w).drewN k
  have hb1 : BagInt w1 g most l F := by rw [← hk]; exact H3.out.chg ((Chg.refl (fun _ => False) w).drewN k) (fun h => h) (fun _ _ h => h)
  have H4 := Bx.mk hb1
  have H5 := Bx.mk hch
  clear hb1 hk hch
  go_wp2_with fail
  refine (H2.out w1 H4.out).mono ?_
  rintro e w2 ⟨rfl, F', hb2, hc2, hf2⟩
  have H6 := Bx.mk hb2
  have H7 := Bx.mk hc2
  have H8 := Bx.mk hf2
  clear hb2 hc2 hf2
  go_wp2
  go_ret
  exact ⟨rfl, F', H6.out, H5.out.trans H7.out, fun k hk => (H8.out k hk).imp id (fun h => Nat.le_trans H5.out.size h)⟩
theorem clearInt_any (g : Nat) (most : Int) (l : List Int) (F : Option Nat) (w : World) (hb : BagInt w g most l F) :
    Calls Try.prog 23 #[.pointer (some ⟨g, 0, none⟩)] w fun e w' => e = .returned (.int .i64 l.length) ∧ BagInt w' g most [] none ∧ Chg (fun k => k = g) w w' := by
  obtain ⟨v, hg, ho, hne, hsz⟩ := hb
  obtain ⟨A, cap, rfl, hcap, hmax⟩ := ho.shape
  have c1 := blk_cell hg 1
  have f1 := blk_frozen hg 1
  simp at c1
  have hm : l.length ≤ 9223372036854775807 := by omega
  have H1 := Bx.mk hg
  clear ho hg
  go_enter Try.func23, Try.ntmps23
  go_wp2
  go_ret
  exact ⟨rfl, ⟨_, blk_set H1.out 1 _, Own.nil _ _ _, by simp, by simp⟩, (Chg.refl (fun k => k = g) w).setCell (p := ⟨g, 1, none⟩) (.inl rfl) _⟩
theorem Try.info2 : (Try.prog.info? 2).map (fun i => (i.zero, i.size, i.bytes)) = some (some (.int .i64 0), 1, 8) := by kernel_rfl
theorem tyI64 : ElemTy Try.prog 37 2 (.int .i64 0) 1 8 := ElemTy.mk' Try.underlying37 Try.info2 rfl (by decide)

/-! ### slices.Delete over 37 -/
theorem delI64_same (A : Option Addr) (n cap i : Nat) (w : World) (hi : i ≤ n) (hc : n ≤ cap) (hm : cap ≤ 9223372036854775807) :
    Calls Try.prog 29 #[.slice A n cap, .int .i64 i, .int .i64 i] w fun e w' => e = .returned (.slice A n cap) ∧ w = w' := by
  go_enter Try.func29, Try.ntmps29
  go_wp2
  all_goals (go_ret; exact ⟨rfl, rfl⟩)
theorem delI64_lt (g n cap i j : Nat) (jj : Int) (hjj : jj = (j : Int)) (xs : List Value) (w : World) (hr : RowAt w 2 1 g n cap xs) (hi : i < j) (hj : j ≤ n) (h1 : ∀ u ∈ xs, u.oneCell' = true) :
    Calls Try.prog 29 #[.slice (some ⟨g, 0, none⟩) n cap, .int .i64 i, .int .i64 jj] w fun e w' => e = .returned (.slice (some ⟨g, 0, none⟩) (n - (j - i)) cap) ∧
      RowAt w' 2 1 g (n - (j - i)) cap (xs.take (i * 1) ++ xs.drop (j * 1)) ∧ Chg (fun k => k = g) w w' := by
  subst hjj
  obtain ⟨hnc, hm⟩ := hr.cap_le
  have hr1 : RowAt w.drew 2 1 g n cap xs := hr.chg ((Chg.refl (fun _ => False) w).drew) (fun h => h)
  obtain ⟨A, hA, hsrc⟩ : ∃ A : Addr, (if cap = j then some (⟨g, 0, none⟩ : Addr) else some ⟨g, j, none⟩) = some A ∧ Src w.drew (some A) (xs.drop (j * 1)) := by
    by_cases h : cap = j
    · refine ⟨⟨g, 0, none⟩, by simp [h], ?_⟩
      rw [List.drop_eq_nil_of_le (by rw [hr.1]; exact Nat.mul_le_mul_right _ (by omega))]
      exact Src.nil _ _
    · refine ⟨⟨g, j, none⟩, by simp [h], fun k u hu => ⟨_, rfl, ?_⟩⟩
      rw [List.getElem?_drop] at hu
      have hk := (List.getElem?_eq_some_iff.1 hu).1
      rw [Addr.add_lit]
      rw [hr1.cell (j + k) (by have := hr.1; omega)]
      simpa [Nat.mul_comm] using hu
  obtain ⟨w1, hrun, hr2, hc1⟩ := app_room tyI64 hr1 (n := i) rfl (by omega) A (n - j) (cap - j) (xs.drop (j * 1)) (by rw [List.length_drop, hr.1, Nat.sub_mul]) hsrc (fun u hu => h1 u (List.mem_of_mem_drop hu)) (by omega) 37
  obtain ⟨w2, hclr, hr3, hc2⟩ := clear_run tyI64 (by intro u hu; simp [Value.cells] at hu; subst hu; rfl) hr2 (n - (i + (n - j))) (cap - (i + (n - j))) (by omega) (by omega) (i + (n - j)) (by omega) 0
  have H1 := Bx.mk hrun
  have H2 := Bx.mk hclr
  have H3 := Bx.mk hr3
  have H4 := Bx.mk hc1
  have H5 := Bx.mk hc2
  have hic : i ≤ cap := by omega
  have hjc : j ≤ cap := by omega
  clear hrun hclr hr3 hc1 hc2 hr2 hsrc hr1 hr h1
  go_enter Try.func29, Try.ntmps29
  go_wp2_with fail
  go_region_law (refine step_append_run rfl (.tmp 22) (.tmp 25) 37 37 rfl _ _ (by simp [Act.eval, Act.put]; done) (by simp [Act.eval, Act.put, hA]; done) H1.out ?_)
  go_wp2_with (with_reducible refine wpList_clear_run rfl (.tmp 31) 37 rfl _ ?hx H2.out ?_)
  case hx => rfl
  go_ret
  rw [show n - (j - i) = i + (n - j) by omega]
  exact ⟨rfl, H3.out, (((Chg.refl _ _).drew).trans H4.out).trans H5.out⟩

/-! ### the bag I64 -/
/-- In world w the pointer to block g is a bag of the things l, of at most 'most'; F: the block of its row. -/
def BagI64 (w : World) (g : Nat) (most : Int) (l : List Int) (F : Option Nat) : Prop :=
  ∃ v, w.heap[g]? = some (.cells #[.int .i64 most, v] 55 (0, 0)) ∧ Own w 2 1 v l.length (l.map (Value.int .i64)) F ∧ F ≠ some g ∧ l.length ≤ 1000
theorem BagI64.chg {w w' : World} {g : Nat} {most : Int} {l : List Int} {F : Option Nat} {S : Nat → Prop} (h : BagI64 w g most l F) (c : Chg S w w') (hg : ¬ S g) (hF : ∀ k, F = some k → ¬ S k) : BagI64 w' g most l F := by
  obtain ⟨v, h1, h2, h3⟩ := h
  exact ⟨v, c.heap h1 hg, h2.chg c hF, h3⟩
theorem BagI64.lt {w : World} {g : Nat} {most : Int} {l : List Int} {F : Option Nat} (h : BagI64 w g most l F) : g < w.heap.size ∧ ∀ k, F = some k → k < w.heap.size := by
  obtain ⟨v, h1, h2, h3⟩ := h
  exact ⟨blk_lt h1, fun k hk => h2.lt hk⟩
theorem BagI64.small {w : World} {g : Nat} {most : Int} {l : List Int} {F : Option Nat} (h : BagI64 w g most l F) : l.length ≤ 1000 := by obtain ⟨v, h1, h2, h3, h4⟩ := h; exact h4
theorem newI64 (m : Int) (w : World) (h1 : -9223372036854775808 ≤ m) (h2 : m ≤ 9223372036854775807) :
    Calls Try.prog 15 #[.int .i64 m] w fun e w' => e = .returned (.pointer (some ⟨w.heap.size, 0, none⟩)) ∧ BagI64 w' w.heap.size (if m < 1 then 1 else m) [] none ∧ Chg (fun _ => False) w w' := by
  by_cases h : m < 1
  · rw [if_pos h]
    go_enter Try.func15, Try.ntmps15
    go_wp2
    go_ret
    exact ⟨rfl, ⟨_, blk_new _ _, Own.nil _ _ _, by simp, by simp⟩, (Chg.refl _ _).alloc _⟩
  · rw [if_neg h]
    go_enter Try.func15, Try.ntmps15
    go_wp2
    go_ret
    exact ⟨rfl, ⟨_, blk_new _ _, Own.nil _ _ _, by simp, by simp⟩, (Chg.refl _ _).alloc _⟩
theorem atI64 (g : Nat) (n cap : Nat) (ad : Option Addr) (i : Int) (w : World) (hn : 0 < n) (hm : n ≤ 9223372036854775807)
    (h1 : w.cell? ⟨g, 1, none⟩ = some (.slice ad n cap)) :
    Calls Try.prog 28 #[.pointer (some ⟨g, 0, none⟩), .int .i64 i] w fun e w' => e = .returned (.int .i64 ((if i < 0 then 0 else i) % n)) ∧ w = w' := by
  have hn' : (0:Int) < n := by omega
  by_cases hi : i < 0
  · rw [if_pos hi]
    go_enter Try.func28, Try.ntmps28
    go_wp2
    go_ret
    exact ⟨by simp, rfl⟩
  · rw [if_neg hi]
    go_enter Try.func28, Try.ntmps28
    go_wp2
    go_ret
    exact ⟨by simp, rfl⟩
theorem putI64_full (g : Nat) (most : Int) (l : List Int) (F : Option Nat) (x : Int) (w : World) (hb : BagI64 w g most l F) (hn : most ≤ (l.length : Int)) :
    Calls Try.prog 16 #[.pointer (some ⟨g, 0, none⟩), (Value.int .i64) x] w fun e w' => e = .returned (.int .i64 9) ∧ ∃ k, w.drewN k = w' := by
  obtain ⟨v, hg, ho, hne, hsz⟩ := hb
  obtain ⟨A, cap, rfl, hcap, hmax⟩ := ho.shape
  have c0 := blk_cell hg 0
  have c1 := blk_cell hg 1
  simp at c0 c1
  have hm : l.length ≤ 9223372036854775807 := by omega
  clear ho hg
  go_enter Try.func16, Try.ntmps16
  go_wp2_with fail
  go_quiet (fail)
  go_wp2
  go_ret
  exact ⟨rfl, _, rfl⟩
theorem putI64_room (g : Nat) (most : Int) (l : List Int) (F : Option Nat) (x : Int) (w : World) (hb : BagI64 w g most l F) (hn : (l.length : Int) < most) (hroom : l.length < 1000) :
    Calls Try.prog 16 #[.pointer (some ⟨g, 0, none⟩), (Value.int .i64) x] w fun e w' => e = .returned (.int .i64 0) ∧ ∃ F', BagI64 w' g most (l ++ [x]) F' ∧ Chg (fun k => k = g ∨ F = some k) w w' ∧ ∀ k, F' = some k → F = some k ∨ w.heap.size ≤ k := by
  obtain ⟨v, hg, ho, hne, hsz⟩ := hb
  obtain ⟨A, cap, rfl, hcap, hmax⟩ := ho.shape
  have c0 := blk_cell hg 0
  have c1 := blk_cell hg 1
  simp at c0 c1
  have hm : l.length ≤ 9223372036854775807 := by omega
  go_enter Try.func16, Try.ntmps16
  go_wp2_with fail
  go_quiet (fail)
  have hg1 := blk_drewN hg nq
  have ho1 := ho.chg ((Chg.refl (fun _ => False) w).drewN nq) (fun _ _ h => h)
  have hch := ((Chg.refl (fun k => k = g ∨ F = some k) w).drewN nq)
  clear hg ho c0 c1
  generalize w.drewN nq = w1 at *
  have c0 := blk_cell hg1 0
  have c1 := blk_cell hg1 1
  simp at c0 c1
  have hlt := blk_lt hg1
  obtain ⟨A2, cap2, F2, w2, hrun, ho2, hc2, hF2⟩ := app_run tyI64 (ho1.chg ((Chg.refl (fun _ => False) w1).alloc (.cells #[(Value.int .i64) x] 2)) (fun _ _ h => h)) (some ⟨w1.heap.size, 0, none⟩) 1 1 [(Value.int .i64) x] rfl (Src.new _ _ _) (oneCell_one rfl) (by omega) (by omega) 37
  have hg2 := hc2.heap (blk_alloc hg1 _) hne
  have c0' := blk_cell hg2 0
  have c1' := blk_cell hg2 1
  have f1' := blk_frozen hg2 1
  simp at c0' c1'
  have H1 := Bx.mk ho2
  have H2 := Bx.mk hc2
  have H3 := Bx.mk hg2
  have H4 := Bx.mk hF2
  have H5 := Bx.mk hch
  have H8 := Bx.mk hrun
  clear ho2 hc2 hg2 hg1 hch hF2 ho1 hrun
  go_wp2_with (at_builtin; refine wpList_append_run rfl (.tmp 19) (.tmp 21) 37 37 rfl _ _ rfl rfl H8.out ?_)
  go_ret
  have hne2 : ∀ k, F2 = some k → k ≠ g := fun k hk he => by
    rcases H4.out k hk with h | h
    · exact hne (he ▸ h)
    · simp at h; omega
  refine ⟨rfl, F2, ⟨_, blk_set H3.out 1 _, ?_, fun h => hne2 g h rfl, ?_⟩, ?_, ?_⟩
  · have := H1.out.chg ((Chg.refl (fun k => k = g) w2).setCell (p := ⟨g, 1, none⟩) (.inl rfl) (.slice A2 (l.length + 1) cap2)) hne2
    simpa using this
  · simp; omega
  · exact ((H5.out.alloc _).then H2.out (fun i hi => .inl (.inr hi))).setCell (.inl (.inl rfl)) _
  · intro k hk
    rcases H4.out k hk with h | h
    · exact .inl h
    · right; have := H5.out.size; simp at h; omega
theorem seeI64_none (g : Nat) (most : Int) (i : Int) (w : World) (F : Option Nat) (hb : BagI64 w g most [] F) :
    Calls Try.prog 27 #[.pointer (some ⟨g, 0, none⟩), .int .i64 i] w fun e w' => e = .returned (.tuple #[.int .i64 0, .bool false]) ∧ w = w' := by
  obtain ⟨v, hg, ho, hne, hsz⟩ := hb
  obtain ⟨A, cap, rfl, hcap, hmax⟩ := ho.shape
  have c1 := blk_cell hg 1
  simp at c1
  clear ho hg
  go_enter Try.func27, Try.ntmps27
  go_wp2
  go_ret2
  exact ⟨rfl, rfl⟩
theorem seeI64_some (g : Nat) (most : Int) (l : List Int) (F : Option Nat) (i : Int) (w : World) (hb : BagI64 w g most l F) (hn : 0 < l.length) :
    Calls Try.prog 27 #[.pointer (some ⟨g, 0, none⟩), .int .i64 i] w fun e w' => e = .returned (.tuple #[(Value.int .i64) (l.getD (place i l.length) default), .bool true]) ∧ ∃ k, w.drewN k = w' := by
  obtain ⟨v, hg, ho, hne, hsz⟩ := hb
  obtain ⟨a, cap, rfl, hF, hr⟩ := ho.pos hn
  have hm := hr.cap_le
  have c1 := blk_cell hg 1
  simp at c1
  have hp := place_lt i hn
  have hcell : w.cell? ⟨a, place i l.length, none⟩ = some ((Value.int .i64) (l.getD (place i l.length) default)) := by
    rw [hr.cell (place i l.length) (by omega)]; simp [hp]
  have hat := fun w => atI64 g l.length cap (some ⟨a, 0, none⟩) i w hn (by omega)
  rw [place_eq i hn] at hat
  generalize l.getD (place i l.length) default = x at *
  generalize place i l.length = p at *
  have hpn : (p : Int) < (l.length : Int) := by omega
  have hl0 : ((l.length : Int) == 0) = false := beq_eq_false_iff_ne.2 (by omega)
  have H := Bx.mk hat
  clear hat ho hr hg
  go_enter Try.func27, Try.ntmps27
  go_wp2_with fail
  go_quiet ((go_at_call 28; exact Calls.quiet_of_same ((H.out _ (by go_simp)).mono fun _ _ ⟨h1, h2⟩ => ⟨h1, h2.symm⟩)))
  go_wp2
  go_ret2
  exact ⟨rfl, _, rfl⟩
theorem takeI64_none (g : Nat) (most : Int) (i : Int) (w : World) (F : Option Nat) (hb : BagI64 w g most [] F) :
    Calls Try.prog 17 #[.pointer (some ⟨g, 0, none⟩), .int .i64 i] w fun e w' => e = .returned (.tuple #[.int .i64 0, .bool false]) ∧ w = w' := by
  have H := Bx.mk (seeI64_none g most i w F hb)
  clear hb
  go_enter Try.func17, Try.ntmps17
  go_wp2_with (go_at_call 27; refine H.out.mono ?_; rintro e w' ⟨rfl, rfl⟩)
  go_ret2
  exact ⟨rfl, rfl⟩
theorem map_delI64 (l : List Int) (p : Nat) : (l.map (Value.int .i64)).take (p * 1) ++ (l.map (Value.int .i64)).drop ((p + 1) * 1) = (l.take p ++ l.drop (p + 1)).map (Value.int .i64) := by
  simp [List.map_take, List.map_drop]
theorem takeI64_some (g : Nat) (most : Int) (l : List Int) (F : Option Nat) (i : Int) (w : World) (hb : BagI64 w g most l F) (hn : 0 < l.length) :
    Calls Try.prog 17 #[.pointer (some ⟨g, 0, none⟩), .int .i64 i] w fun e w' => e = .returned (.tuple #[(Value.int .i64) (l.getD (place i l.length) default), .bool true]) ∧
      BagI64 w' g most (l.take (place i l.length) ++ l.drop (place i l.length + 1)) F ∧ Chg (fun k => k = g ∨ F = some k) w w' := by
  have Hs := Bx.mk (seeI64_some g most l F i w hb hn)
  obtain ⟨v, hg, ho, hne, hsz⟩ := hb
  obtain ⟨a, cap, rfl, hF, hr⟩ := ho.pos hn
  have hm := hr.cap_le
  have hp := place_lt i hn
  have hat := fun w => atI64 g l.length cap (some ⟨a, 0, none⟩) i w hn (by omega)
  rw [place_eq i hn] at hat
  have hdel := fun w hr => delI64_lt a l.length cap (place i l.length) (place i l.length + 1) ((place i l.length : Int) + 1) (by omega) (l.map (Value.int .i64)) w hr (by omega) (by omega) (by intro u hu; simp at hu; obtain ⟨x, _, rfl⟩ := hu; rfl)
  rw [map_delI64] at hdel
  have hl : (l.take (place i l.length) ++ l.drop (place i l.length + 1)).length = l.length - 1 := by simp; omega
  generalize l.take (place i l.length) ++ l.drop (place i l.length + 1) = l2 at *
  generalize l.getD (place i l.length) default = x at *
  generalize place i l.length = p at *
  have Ha := Bx.mk hat
  have Hd := Bx.mk hdel
  have H1 := Bx.mk hg
  have H2 := Bx.mk hr
  have H3 := Bx.mk hne
  have H4 := Bx.mk hF
  have H5 := Bx.mk hl
  clear hat hdel hg hr ho hne hF hl
  go_enter Try.func17, Try.ntmps17
  go_wp2_with fail
  refine Hs.out.mono ?_
  rintro e w1 ⟨rfl, k, hk⟩
  have hg1 := blk_drewN H1.out k
  rw [hk] at hg1
  have hr1 : RowAt w1 2 1 a l.length cap (l.map (Value.int .i64)) := by rw [← hk]; exact H2.out.chg ((Chg.refl (fun _ => False) w).drewN k) (fun h => h)
  have hch : Chg (fun k => k = g ∨ F = some k) w w1 := by rw [← hk]; exact (Chg.refl _ w).drewN k
  clear hk
  have c1 := blk_cell hg1 1
  simp at c1
  have hc := c1
  go_wp2_with fail
  refine (Ha.out w1 c1).mono ?_
  rintro e w2 ⟨rfl, rfl⟩
  have G1 := Bx.mk hg1
  have G2 := Bx.mk hr1
  have G3 := Bx.mk hch
  clear hg1 hr1 hch
  go_wp2_with fail
  refine (Hd.out w1 G2.out).mono ?_
  rintro e w2 ⟨rfl, hr2, hc2⟩
  have hga : ¬ g = a := fun h => H3.out (by rw [H4.out, h])
  have hg2 := hc2.heap G1.out hga
  have c1' := blk_cell hg2 1
  have f1' := blk_frozen hg2 1
  simp at c1'
  have G4 := Bx.mk hg2
  have G5 := Bx.mk hr2
  have G6 := Bx.mk hc2
  clear hg2 hr2 hc2
  go_wp2
  go_ret2
  have hl := H5.out
  refine ⟨rfl, ⟨_, blk_set G4.out 1 _, .inr ⟨a, cap, by rw [hl], H4.out, ?_⟩, H3.out, by omega⟩, ?_⟩
  · have := G5.out.chg ((Chg.refl (fun k => k = g) w2).setCell (p := ⟨g, 1, none⟩) (.inl rfl) (.slice (some ⟨a, 0, none⟩) (l.length - (p + 1 - p)) cap)) (fun h => hga h.symm)
    rw [hl]
    simpa using this
  · exact (G3.out.then G6.out (fun i hi => .inl (.inr (by rw [H4.out, hi])))).setCell (.inl (.inl rfl)) _
theorem seeI64_val (g : Nat) (most : Int) (l : List Int) (F : Option Nat) (i : Int) (x : Int) (w : World) (hb : BagI64 w g most l F) (hn : 0 < l.length) (hx : l.getD (place i l.length) default = x) :
    Calls Try.prog 27 #[.pointer (some ⟨g, 0, none⟩), .int .i64 i] w fun e w' => e = .returned (.tuple #[(Value.int .i64) x, .bool true]) ∧ ∃ k, w.drewN k = w' := by
  rw [← hx]; exact seeI64_some g most l F i w hb hn
theorem takeI64_val (g : Nat) (most : Int) (l l' : List Int) (F : Option Nat) (i : Int) (x : Int) (w : World) (hb : BagI64 w g most l F) (hn : 0 < l.length) (hx : l.getD (place i l.length) default = x) (hl : l.take (place i l.length) ++ l.drop (place i l.length + 1) = l') :
    Calls Try.prog 17 #[.pointer (some ⟨g, 0, none⟩), .int .i64 i] w fun e w' => e = .returned (.tuple #[(Value.int .i64) x, .bool true]) ∧
      BagI64 w' g most l' F ∧ Chg (fun k => k = g ∨ F = some k) w w' := by
  rw [← hx, ← hl]; exact takeI64_some g most l F i w hb hn
theorem Try.info9 : (Try.prog.info? 9).map (fun i => (i.zero, i.size, i.bytes)) = some (some (.string ByteArray.empty), 1, 16) := by kernel_rfl
theorem tyStr : ElemTy Try.prog 26 9 (.string ByteArray.empty) 1 16 := ElemTy.mk' Try.underlying26 Try.info9 rfl (by decide)

/-! ### slices.Delete over 26 -/
theorem delStr_same (A : Option Addr) (n cap i : Nat) (w : World) (hi : i ≤ n) (hc : n ≤ cap) (hm : cap ≤ 9223372036854775807) :
    Calls Try.prog 26 #[.slice A n cap, .int .i64 i, .int .i64 i] w fun e w' => e = .returned (.slice A n cap) ∧ w = w' := by
  go_enter Try.func26, Try.ntmps26
  go_wp2
  all_goals (go_ret; exact ⟨rfl, rfl⟩)
theorem delStr_lt (g n cap i j : Nat) (jj : Int) (hjj : jj = (j : Int)) (xs : List Value) (w : World) (hr : RowAt w 9 1 g n cap xs) (hi : i < j) (hj : j ≤ n) (h1 : ∀ u ∈ xs, u.oneCell' = true) :
    Calls Try.prog 26 #[.slice (some ⟨g, 0, none⟩) n cap, .int .i64 i, .int .i64 jj] w fun e w' => e = .returned (.slice (some ⟨g, 0, none⟩) (n - (j - i)) cap) ∧
      RowAt w' 9 1 g (n - (j - i)) cap (xs.take (i * 1) ++ xs.drop (j * 1)) ∧ Chg (fun k => k = g) w w' := by
  subst hjj
  obtain ⟨hnc, hm⟩ := hr.cap_le
  have hr1 : RowAt w.drew 9 1 g n cap xs := hr.chg ((Chg.refl (fun _ => False) w).drew) (fun h => h)
  obtain ⟨A, hA, hsrc⟩ : ∃ A : Addr, (if cap = j then some (⟨g, 0, none⟩ : Addr) else some ⟨g, j, none⟩) = some A ∧ Src w.drew (some A) (xs.drop (j * 1)) := by
    by_cases h : cap = j
    · refine ⟨⟨g, 0, none⟩, by simp [h], ?_⟩
      rw [List.drop_eq_nil_of_le (by rw [hr.1]; exact Nat.mul_le_mul_right _ (by omega))]
      exact Src.nil _ _
    · refine ⟨⟨g, j, none⟩, by simp [h], fun k u hu => ⟨_, rfl, ?_⟩⟩
      rw [List.getElem?_drop] at hu
      have hk := (List.getElem?_eq_some_iff.1 hu).1
      rw [Addr.add_lit]
      rw [hr1.cell (j + k) (by have := hr.1; omega)]
      simpa [Nat.mul_comm] using hu
  obtain ⟨w1, hrun, hr2, hc1⟩ := app_room tyStr hr1 (n := i) rfl (by omega) A (n - j) (cap - j) (xs.drop (j * 1)) (by rw [List.length_drop, hr.1, Nat.sub_mul]) hsrc (fun u hu => h1 u (List.mem_of_mem_drop hu)) (by omega) 26
  obtain ⟨w2, hclr, hr3, hc2⟩ := clear_run tyStr (by intro u hu; simp [Value.cells] at hu; subst hu; rfl) hr2 (n - (i + (n - j))) (cap - (i + (n - j))) (by omega) (by omega) (i + (n - j)) (by omega) 0
  have H1 := Bx.mk hrun
  have H2 := Bx.mk hclr
  have H3 := Bx.mk hr3
  have H4 := Bx.mk hc1
  have H5 := Bx.mk hc2
  have hic : i ≤ cap := by omega
  have hjc : j ≤ cap := by omega
  clear hrun hclr hr3 hc1 hc2 hr2 hsrc hr1 hr h1
  go_enter Try.func26, Try.ntmps26
  go_wp2_with fail
  go_region_law (refine step_append_run rfl (.tmp 22) (.tmp 25) 26 26 rfl _ _ (by simp [Act.eval, Act.put]; done) (by simp [Act.eval, Act.put, hA]; done) H1.out ?_)
  go_wp2_with (with_reducible refine wpList_clear_run rfl (.tmp 31) 26 rfl _ ?hx H2.out ?_)
  case hx => rfl
  go_ret
  rw [show n - (j - i) = i + (n - j) by omega]
  exact ⟨rfl, H3.out, (((Chg.refl _ _).drew).trans H4.out).trans H5.out⟩

/-! ### the bag Str -/
/-- In world w the pointer to block g is a bag of the things l, of at most 'most'; F: the block of its row. -/
def BagStr (w : World) (g : Nat) (most : Int) (l : List ByteArray) (F : Option Nat) : Prop :=
  ∃ v, w.heap[g]? = some (.cells #[.int .i64 most, v] 52 (0, 0)) ∧ Own w 9 1 v l.length (l.map Value.string) F ∧ F ≠ some g ∧ l.length ≤ 1000
theorem BagStr.chg {w w' : World} {g : Nat} {most : Int} {l : List ByteArray} {F : Option Nat} {S : Nat → Prop} (h : BagStr w g most l F) (c : Chg S w w') (hg : ¬ S g) (hF : ∀ k, F = some k → ¬ S k) : BagStr w' g most l F := by
  obtain ⟨v, h1, h2, h3⟩ := h
  exact ⟨v, c.heap h1 hg, h2.chg c hF, h3⟩
theorem BagStr.lt {w : World} {g : Nat} {most : Int} {l : List ByteArray} {F : Option Nat} (h : BagStr w g most l F) : g < w.heap.size ∧ ∀ k, F = some k → k < w.heap.size := by
  obtain ⟨v, h1, h2, h3⟩ := h
  exact ⟨blk_lt h1, fun k hk => h2.lt hk⟩
theorem BagStr.small {w : World} {g : Nat} {most : Int} {l : List ByteArray} {F : Option Nat} (h : BagStr w g most l F) : l.length ≤ 1000 := by obtain ⟨v, h1, h2, h3, h4⟩ := h; exact h4
theorem newStr (m : Int) (w : World) (h1 : -9223372036854775808 ≤ m) (h2 : m ≤ 9223372036854775807) :
    Calls Try.prog 7 #[.int .i64 m] w fun e w' => e = .returned (.pointer (some ⟨w.heap.size, 0, none⟩)) ∧ BagStr w' w.heap.size (if m < 1 then 1 else m) [] none ∧ Chg (fun _ => False) w w' := by
  by_cases h : m < 1
  · rw [if_pos h]
    go_enter Try.func7, Try.ntmps7
    go_wp2
    go_ret
    exact ⟨rfl, ⟨_, blk_new _ _, Own.nil _ _ _, by simp, by simp⟩, (Chg.refl _ _).alloc _⟩
  · rw [if_neg h]
    go_enter Try.func7, Try.ntmps7
    go_wp2
    go_ret
    exact ⟨rfl, ⟨_, blk_new _ _, Own.nil _ _ _, by simp, by simp⟩, (Chg.refl _ _).alloc _⟩
theorem atStr (g : Nat) (n cap : Nat) (ad : Option Addr) (i : Int) (w : World) (hn : 0 < n) (hm : n ≤ 9223372036854775807)
    (h1 : w.cell? ⟨g, 1, none⟩ = some (.slice ad n cap)) :
    Calls Try.prog 25 #[.pointer (some ⟨g, 0, none⟩), .int .i64 i] w fun e w' => e = .returned (.int .i64 ((if i < 0 then 0 else i) % n)) ∧ w = w' := by
  have hn' : (0:Int) < n := by omega
  by_cases hi : i < 0
  · rw [if_pos hi]
    go_enter Try.func25, Try.ntmps25
    go_wp2
    go_ret
    exact ⟨by simp, rfl⟩
  · rw [if_neg hi]
    go_enter Try.func25, Try.ntmps25
    go_wp2
    go_ret
    exact ⟨by simp, rfl⟩
theorem putStr_full (g : Nat) (most : Int) (l : List ByteArray) (F : Option Nat) (x : ByteArray) (w : World) (hb : BagStr w g most l F) (hn : most ≤ (l.length : Int)) :
    Calls Try.prog 9 #[.pointer (some ⟨g, 0, none⟩), Value.string x] w fun e w' => e = .returned (.int .i64 9) ∧ ∃ k, w.drewN k = w' := by
  obtain ⟨v, hg, ho, hne, hsz⟩ := hb
  obtain ⟨A, cap, rfl, hcap, hmax⟩ := ho.shape
  have c0 := blk_cell hg 0
  have c1 := blk_cell hg 1
  simp at c0 c1
  have hm : l.length ≤ 9223372036854775807 := by omega
  clear ho hg
  go_enter Try.func9, Try.ntmps9
  go_wp2_with fail
  go_quiet (fail)
  go_wp2
  go_ret
  exact ⟨rfl, _, rfl⟩
theorem putStr_room (g : Nat) (most : Int) (l : List ByteArray) (F : Option Nat) (x : ByteArray) (w : World) (hb : BagStr w g most l F) (hn : (l.length : Int) < most) (hroom : l.length < 1000) :
    Calls Try.prog 9 #[.pointer (some ⟨g, 0, none⟩), Value.string x] w fun e w' => e = .returned (.int .i64 0) ∧ ∃ F', BagStr w' g most (l ++ [x]) F' ∧ Chg (fun k => k = g ∨ F = some k) w w' ∧ ∀ k, F' = some k → F = some k ∨ w.heap.size ≤ k := by
  obtain ⟨v, hg, ho, hne, hsz⟩ := hb
  obtain ⟨A, cap, rfl, hcap, hmax⟩ := ho.shape
  have c0 := blk_cell hg 0
  have c1 := blk_cell hg 1
  simp at c0 c1
  have hm : l.length ≤ 9223372036854775807 := by omega
  go_enter Try.func9, Try.ntmps9
  go_wp2_with fail
  go_quiet (fail)
  have hg1 := blk_drewN hg nq
  have ho1 := ho.chg ((Chg.refl (fun _ => False) w).drewN nq) (fun _ _ h => h)
  have hch := ((Chg.refl (fun k => k = g ∨ F = some k) w).drewN nq)
  clear hg ho c0 c1
  generalize w.drewN nq = w1 at *
  have c0 := blk_cell hg1 0
  have c1 := blk_cell hg1 1
  simp at c0 c1
  have hlt := blk_lt hg1
  obtain ⟨A2, cap2, F2, w2, hrun, ho2, hc2, hF2⟩ := app_run tyStr (ho1.chg ((Chg.refl (fun _ => False) w1).alloc (.cells #[Value.string x] 9)) (fun _ _ h => h)) (some ⟨w1.heap.size, 0, none⟩) 1 1 [Value.string x] rfl (Src.new _ _ _) (oneCell_one rfl) (by omega) (by omega) 26
  have hg2 := hc2.heap (blk_alloc hg1 _) hne
  have c0' := blk_cell hg2 0
  have c1' := blk_cell hg2 1
  have f1' := blk_frozen hg2 1
  simp at c0' c1'
  have H1 := Bx.mk ho2
  have H2 := Bx.mk hc2
  have H3 := Bx.mk hg2
  have H4 := Bx.mk hF2
  have H5 := Bx.mk hch
  have H8 := Bx.mk hrun
  clear ho2 hc2 hg2 hg1 hch hF2 ho1 hrun
  go_wp2_with (at_builtin; refine wpList_append_run rfl (.tmp 19) (.tmp 21) 26 26 rfl _ _ rfl rfl H8.out ?_)
  go_ret
  have hne2 : ∀ k, F2 = some k → k ≠ g := fun k hk he => by
    rcases H4.out k hk with h | h
    · exact hne (he ▸ h)
    · simp at h; omega
  refine ⟨rfl, F2, ⟨_, blk_set H3.out 1 _, ?_, fun h => hne2 g h rfl, ?_⟩, ?_, ?_⟩
  · have := H1.out.chg ((Chg.refl (fun k => k = g) w2).setCell (p := ⟨g, 1, none⟩) (.inl rfl) (.slice A2 (l.length + 1) cap2)) hne2
    simpa using this
  · simp; omega
  · exact ((H5.out.alloc _).then H2.out (fun i hi => .inl (.inr hi))).setCell (.inl (.inl rfl)) _
  · intro k hk
    rcases H4.out k hk with h | h
    · exact .inl h
    · right; have := H5.out.size; simp at h; omega
theorem seeStr_none (g : Nat) (most : Int) (i : Int) (w : World) (F : Option Nat) (hb : BagStr w g most [] F) :
    Calls Try.prog 10 #[.pointer (some ⟨g, 0, none⟩), .int .i64 i] w fun e w' => e = .returned (.tuple #[.string ByteArray.empty, .bool false]) ∧ w = w' := by
  obtain ⟨v, hg, ho, hne, hsz⟩ := hb
  obtain ⟨A, cap, rfl, hcap, hmax⟩ := ho.shape
  have c1 := blk_cell hg 1
  simp at c1
  clear ho hg
  go_enter Try.func10, Try.ntmps10
  go_wp2
  go_ret2
  exact ⟨rfl, rfl⟩
theorem seeStr_some (g : Nat) (most : Int) (l : List ByteArray) (F : Option Nat) (i : Int) (w : World) (hb : BagStr w g most l F) (hn : 0 < l.length) :
    Calls Try.prog 10 #[.pointer (some ⟨g, 0, none⟩), .int .i64 i] w fun e w' => e = .returned (.tuple #[Value.string (l.getD (place i l.length) default), .bool true]) ∧ ∃ k, w.drewN k = w' := by
  obtain ⟨v, hg, ho, hne, hsz⟩ := hb
  obtain ⟨a, cap, rfl, hF, hr⟩ := ho.pos hn
  have hm := hr.cap_le
  have c1 := blk_cell hg 1
  simp at c1
  have hp := place_lt i hn
  have hcell : w.cell? ⟨a, place i l.length, none⟩ = some (Value.string (l.getD (place i l.length) default)) := by
    rw [hr.cell (place i l.length) (by omega)]; simp [hp]
  have hat := fun w => atStr g l.length cap (some ⟨a, 0, none⟩) i w hn (by omega)
  rw [place_eq i hn] at hat
  generalize l.getD (place i l.length) default = x at *
  generalize place i l.length = p at *
  have hpn : (p : Int) < (l.length : Int) := by omega
  have hl0 : ((l.length : Int) == 0) = false := beq_eq_false_iff_ne.2 (by omega)
  have H := Bx.mk hat
  clear hat ho hr hg
  go_enter Try.func10, Try.ntmps10
  go_wp2_with fail
  go_quiet ((go_at_call 25; exact Calls.quiet_of_same ((H.out _ (by go_simp)).mono fun _ _ ⟨h1, h2⟩ => ⟨h1, h2.symm⟩)))
  go_wp2
  go_ret2
  exact ⟨rfl, _, rfl⟩
theorem takeStr_none (g : Nat) (most : Int) (i : Int) (w : World) (F : Option Nat) (hb : BagStr w g most [] F) :
    Calls Try.prog 11 #[.pointer (some ⟨g, 0, none⟩), .int .i64 i] w fun e w' => e = .returned (.tuple #[.string ByteArray.empty, .bool false]) ∧ w = w' := by
  have H := Bx.mk (seeStr_none g most i w F hb)
  clear hb
  go_enter Try.func11, Try.ntmps11
  go_wp2_with (go_at_call 10; refine H.out.mono ?_; rintro e w' ⟨rfl, rfl⟩)
  go_ret2
  exact ⟨rfl, rfl⟩
theorem map_delStr (l : List ByteArray) (p : Nat) : (l.map Value.string).take (p * 1) ++ (l.map Value.string).drop ((p + 1) * 1) = (l.take p ++ l.drop (p + 1)).map Value.string := by
  simp [List.map_take, List.map_drop]
theorem takeStr_some (g : Nat) (most : Int) (l : List ByteArray) (F : Option Nat) (i : Int) (w : World) (hb : BagStr w g most l F) (hn : 0 < l.length) :
    Calls Try.prog 11 #[.pointer (some ⟨g, 0, none⟩), .int .i64 i] w fun e w' => e = .returned (.tuple #[Value.string (l.getD (place i l.length) default), .bool true]) ∧
      BagStr w' g most (l.take (place i l.length) ++ l.drop (place i l.length + 1)) F ∧ Chg (fun k => k = g ∨ F = some k) w w' := by
  have Hs := Bx.mk (seeStr_some g most l F i w hb hn)
  obtain ⟨v, hg, ho, hne, hsz⟩ := hb
  obtain ⟨a, cap, rfl, hF, hr⟩ := ho.pos hn
  have hm := hr.cap_le
  have hp := place_lt i hn
  have hat := fun w => atStr g l.length cap (some ⟨a, 0, none⟩) i w hn (by omega)
  rw [place_eq i hn] at hat
  have hdel := fun w hr => delStr_lt a l.length cap (place i l.length) (place i l.length + 1) ((place i l.length : Int) + 1) (by omega) (l.map Value.string) w hr (by omega) (by omega) (by intro u hu; simp at hu; obtain ⟨x, _, rfl⟩ := hu; rfl)
  rw [map_delStr] at hdel
  have hl : (l.take (place i l.length) ++ l.drop (place i l.length + 1)).length = l.length - 1 := by simp; omega
  generalize l.take (place i l.length) ++ l.drop (place i l.length + 1) = l2 at *
  generalize l.getD (place i l.length) default = x at *
  generalize place i l.length = p at *
  have Ha := Bx.mk hat
  have Hd := Bx.mk hdel
  have H1 := Bx.mk hg
  have H2 := Bx.mk hr
  have H3 := Bx.mk hne
  have H4 := Bx.mk hF
  have H5 := Bx.mk hl
  clear hat hdel hg hr ho hne hF hl
  go_enter Try.func11, Try.ntmps11
  go_wp2_with fail
  refine Hs.out.mono ?_
  rintro e w1 ⟨rfl, k, hk⟩
  have hg1 := blk_drewN H1.out k
  rw [hk] at hg1
  have hr1 : RowAt w1 9 1 a l.length cap (l.map Value.string) := by rw [← hk]; exact H2.out.chg ((Chg.refl (fun _ => False) w).drewN k) (fun h => h)
  have hch : Chg (fun k => k = g ∨ F = some k) w w1 := by rw [← hk]; exact (Chg.refl _ w).drewN k
  clear hk
  have c1 := blk_cell hg1 1
  simp at c1
  have hc := c1
  go_wp2_with fail
  refine (Ha.out w1 c1).mono ?_
  rintro e w2 ⟨rfl, rfl⟩
  have G1 := Bx.mk hg1
  have G2 := Bx.mk hr1
  have G3 := Bx.mk hch
  clear hg1 hr1 hch
  go_wp2_with fail
  refine (Hd.out w1 G2.out).mono ?_
  rintro e w2 ⟨rfl, hr2, hc2⟩
  have hga : ¬ g = a := fun h => H3.out (by rw [H4.out, h])
  have hg2 := hc2.heap G1.out hga
  have c1' := blk_cell hg2 1
  have f1' := blk_frozen hg2 1
  simp at c1'
  have G4 := Bx.mk hg2
  have G5 := Bx.mk hr2
  have G6 := Bx.mk hc2
  clear hg2 hr2 hc2
  go_wp2
  go_ret2
  have hl := H5.out
  refine ⟨rfl, ⟨_, blk_set G4.out 1 _, .inr ⟨a, cap, by rw [hl], H4.out, ?_⟩, H3.out, by omega⟩, ?_⟩
  · have := G5.out.chg ((Chg.refl (fun k => k = g) w2).setCell (p := ⟨g, 1, none⟩) (.inl rfl) (.slice (some ⟨a, 0, none⟩) (l.length - (p + 1 - p)) cap)) (fun h => hga h.symm)
    rw [hl]
    simpa using this
  · exact (G3.out.then G6.out (fun i hi => .inl (.inr (by rw [H4.out, hi])))).setCell (.inl (.inl rfl)) _
theorem seeStr_val (g : Nat) (most : Int) (l : List ByteArray) (F : Option Nat) (i : Int) (x : ByteArray) (w : World) (hb : BagStr w g most l F) (hn : 0 < l.length) (hx : l.getD (place i l.length) default = x) :
    Calls Try.prog 10 #[.pointer (some ⟨g, 0, none⟩), .int .i64 i] w fun e w' => e = .returned (.tuple #[Value.string x, .bool true]) ∧ ∃ k, w.drewN k = w' := by
  rw [← hx]; exact seeStr_some g most l F i w hb hn
theorem takeStr_val (g : Nat) (most : Int) (l l' : List ByteArray) (F : Option Nat) (i : Int) (x : ByteArray) (w : World) (hb : BagStr w g most l F) (hn : 0 < l.length) (hx : l.getD (place i l.length) default = x) (hl : l.take (place i l.length) ++ l.drop (place i l.length + 1) = l') :
    Calls Try.prog 11 #[.pointer (some ⟨g, 0, none⟩), .int .i64 i] w fun e w' => e = .returned (.tuple #[Value.string x, .bool true]) ∧
      BagStr w' g most l' F ∧ Chg (fun k => k = g ∨ F = some k) w w' := by
  rw [← hx, ← hl]; exact takeStr_some g most l F i w hb hn
theorem copyStr_none (g : Nat) (most : Int) (i : Int) (w : World) (F : Option Nat) (hb : BagStr w g most [] F) :
    Calls Try.prog 12 #[.pointer (some ⟨g, 0, none⟩), .int .i64 i] w fun e w' => e = .returned (.int .i64 8) ∧ w = w' := by
  have H := Bx.mk (seeStr_none g most i w F hb)
  clear hb
  go_enter Try.func12, Try.ntmps12
  go_wp2_with (go_at_call 10; refine H.out.mono ?_; rintro e w' ⟨rfl, rfl⟩)
  go_ret
  exact ⟨rfl, rfl⟩
theorem copyStr_full (g : Nat) (most : Int) (l : List ByteArray) (F : Option Nat) (i : Int) (w : World) (hb : BagStr w g most l F) (h0 : 0 < l.length) (hn : most ≤ (l.length : Int)) :
    Calls Try.prog 12 #[.pointer (some ⟨g, 0, none⟩), .int .i64 i] w fun e w' => e = .returned (.int .i64 9) ∧ ∃ k, w.drewN k = w' := by
  have H := Bx.mk (seeStr_some g most l F i w hb h0)
  have H2 := Bx.mk fun x w hb => putStr_full g most l F x w hb hn
  have H3 := Bx.mk hb
  clear hb
  go_enter Try.func12, Try.ntmps12
  go_wp2_with fail
  refine H.out.mono ?_
  rintro e w1 ⟨rfl, k, hk⟩
  have hb1 : BagStr w1 g most l F := by rw [← hk]; exact H3.out.chg ((Chg.refl (fun _ => False) w).drewN k) (fun h => h) (fun _ _ h => h)
  have H4 := Bx.mk hb1
  have H5 := Bx.mk hk
  clear hb1 hk
  go_wp2_with fail
  refine (H2.out _ w1 H4.out).mono ?_
  rintro e w2 ⟨rfl, j, hj⟩
  have H6 := Bx.mk hj
  clear hj
  go_wp2
  go_ret
  exact ⟨rfl, k + j, by rw [← World.drewN_drewN, H5.out, H6.out]⟩
theorem copyStr_room (g : Nat) (most : Int) (l : List ByteArray) (F : Option Nat) (i : Int) (w : World) (hb : BagStr w g most l F) (h0 : 0 < l.length) (hn : (l.length : Int) < most) (hroom : l.length < 1000) :
    Calls Try.prog 12 #[.pointer (some ⟨g, 0, none⟩), .int .i64 i] w fun e w' => e = .returned (.int .i64 0) ∧ ∃ F', BagStr w' g most (l ++ [l.getD (place i l.length) default]) F' ∧ Chg (fun k => k = g ∨ F = some k) w w' ∧ ∀ k, F' = some k → F = some k ∨ w.heap.size ≤ k := by
  have H := Bx.mk (seeStr_some g most l F i w hb h0)
  generalize l.getD (place i l.length) default = x at *
  have H2 := Bx.mk fun w hb => putStr_room g most l F x w hb hn hroom
  have H3 := Bx.mk hb
  clear hb
  go_enter Try.func12, Try.ntmps12
  go_wp2_with fail
  refine H.out.mono ?_
  rintro e w1 ⟨rfl, k, hk⟩
  have hch : Chg (fun k => k = g ∨ F = some k) w w1 := by rw [← hk]; exact (Chg.refl _ w).drewN k
  have hb1 : BagStr w1 g most l F := by rw [← hk]; exact H3.out.chg ((Chg.refl (fun _ => False) w).drewN k) (fun h => h) (fun _ _ h => h)
  have H4 := Bx.mk hb1
  have H5 := Bx.mk hch
  clear hb1 hk hch
  go_wp2_with fail
  refine (H2.out w1 H4.out).mono ?_
  rintro e w2 ⟨rfl, F', hb2, hc2, hf2⟩
  have H6 := Bx.mk hb2
  have H7 := Bx.mk hc2
  have H8 := Bx.mk hf2
  clear hb2 hc2 hf2
  go_wp2
  go_ret
  exact ⟨rfl, F', H6.out, H5.out.trans H7.out, fun k hk => (H8.out k hk).imp id (fun h => Nat.le_trans H5.out.size h)⟩
theorem clearStr_any (g : Nat) (most : Int) (l : List ByteArray) (F : Option Nat) (w : World) (hb : BagStr w g most l F) :
    Calls Try.prog 13 #[.pointer (some ⟨g, 0, none⟩)] w fun e w' => e = .returned (.int .i64 l.length) ∧ BagStr w' g most [] none ∧ Chg (fun k => k = g) w w' := by
  obtain ⟨v, hg, ho, hne, hsz⟩ := hb
  obtain ⟨A, cap, rfl, hcap, hmax⟩ := ho.shape
  have c1 := blk_cell hg 1
  have f1 := blk_frozen hg 1
  simp at c1
  have hm : l.length ≤ 9223372036854775807 := by omega
  have H1 := Bx.mk hg
  clear ho hg
  go_enter Try.func13, Try.ntmps13
  go_wp2
  go_ret
  exact ⟨rfl, ⟨_, blk_set H1.out 1 _, Own.nil _ _ _, by simp, by simp⟩, (Chg.refl (fun k => k = g) w).setCell (p := ⟨g, 1, none⟩) (.inl rfl) _⟩
theorem lenStr_any (g : Nat) (most : Int) (l : List ByteArray) (F : Option Nat) (w : World) (hb : BagStr w g most l F) :
    Calls Try.prog 14 #[.pointer (some ⟨g, 0, none⟩)] w fun e w' => e = .returned (.int .i64 l.length) ∧ w = w' := by
  obtain ⟨v, hg, ho, hne, hsz⟩ := hb
  obtain ⟨A, cap, rfl, hcap, hmax⟩ := ho.shape
  have c1 := blk_cell hg 1
  simp at c1
  have hm : l.length ≤ 9223372036854775807 := by omega
  clear ho hg
  go_enter Try.func14, Try.ntmps14
  go_wp2
  go_ret
  exact ⟨rfl, rfl⟩

end Go.Proofs.Ytgnekfifdmjeaaa

