/- BagNumbers' walk: for whatever numbers and places it returns true and leaves all that was there as it was. Conditions: the rows read as numbers. -/
import Derived.Test.YtgnekfifdmjeaaaKnown
import Derived.Test.YtgnekfifdmjeaaaL1
set_option linter.unusedVariables false
set_option linter.unusedSimpArgs false
namespace Go.Proofs.Ytgnekfifdmjeaaa
open Go.RowKit Go.Cn
theorem place_any (i : Int) (n : Nat) (w : World) (hn : 0 < n) (hm : n ≤ 9223372036854775807) :
    Calls Try.prog 8 #[.int .i64 i, .int .i64 n] w fun e w' => e = .returned (.int .i64 (place i n)) ∧ w = w' := by
  have hn' : (0:Int) < n := by omega
  have hp := place_eq i hn
  by_cases hi : i < 0
  · rw [if_pos hi] at hp
    have hp0 : ((place i n : Nat) : Int) = 0 := by rw [← hp]; simp
    rw [hp0]
    clear hp hp0
    go_enter Try.func8, Try.ntmps8
    go_wp2
    go_ret
    exact ⟨rfl, rfl⟩
  · rw [if_neg hi] at hp
    rw [← hp]
    clear hp
    go_enter Try.func8, Try.ntmps8
    go_wp2
    go_ret
    exact ⟨rfl, rfl⟩
set_option maxHeartbeats 2000000 in
theorem bagNumbers_walk (a0 : Option Addr) (cap0 : Nat) (l : List Int) (a1 : Option Addr) (cap1 : Nat) (at1 : List Int) (w : World)
    (g0 : l.length ≤ cap0) (m0 : cap0 ≤ 9223372036854775807) (r0 : RRow 1 (RInt .i64) w a0 l) (g1 : at1.length ≤ cap1) (m1 : cap1 ≤ 9223372036854775807) (r1 : RRow 1 (RInt .i64) w a1 at1) :
    Calls Try.prog 4 #[.slice a0 l.length cap0, .slice a1 at1.length cap1] w fun e w' => e = .returned (.bool true) ∧ Below w.heap.size w w' := by
  obtain ⟨n0, hn0⟩ : ∃ n0, n0 = w.heap.size := ⟨_, rfl⟩
  have HN := Bx.mk hn0
  have hg : Bx (n0 ≤ w.heap.size) := Bx.mk (by omega)
  rw [← hn0]
  clear hn0
  have R0 := Bx.mk r0
  have R1 := Bx.mk r1
  clear r0 r1
  have hll : l.length ≤ 9223372036854775807 := by omega
  have hla : at1.length ≤ 9223372036854775807 := by omega
  by_cases hbig : 60 < l.length
  · go_enter Try.func4, Try.ntmps4
    go_wp2_with fail
    refine (known_any w).mono ?_
    rintro e w1 ⟨rfl, h1⟩
    have hB1 : Bx (Below n0 w w1) := Bx.mk (by rw [HN.out]; exact h1)
    clear h1
    go_wp2
    go_ret
    exact ⟨rfl, hB1.out⟩
  · go_enter Try.func4, Try.ntmps4
    go_wp2_with fail
    refine (known_any w).mono ?_
    rintro e w1 ⟨rfl, h1⟩
    have hB1 : Bx (Below n0 w w1) := Bx.mk (by rw [HN.out]; exact h1)
    have hn1 := Bx.mk (Nat.le_trans hg.out h1.size)
    clear h1
    go_wp2_with fail
    refine (newI64 _ _ (by omega) (by omega)).mono ?_
    rintro e w2 ⟨rfl, b, c⟩
    rw [if_neg (by omega)] at b
    have hB2 := Bx.mk (hB1.out.step c hn1.out (fun _ h => h.elim))
    have hb2 := Bx.mk b
    have hn2 := Bx.mk (Nat.le_trans hn1.out c.size)
    have hg2 := hn1
    have hgl := Bx.mk b.lt.1
    clear b c
    generalize w1.heap.size = g at *
    have R0' : RRow 1 (RInt .i64) w2 a0 l := R0.out.of_cells (below_cell hB2.out HN.out) (fun _ _ h => h)
    obtain ⟨A, c, Fl, w3, hrun, ho, hc, hf⟩ := apart_run (w := w2) tyI64 a0 l.length cap0 (l.map (Value.int .i64)) (by simp) (RRow.src1 rint_one R0') (by intro u hu; simp at hu; obtain ⟨x, _, rfl⟩ := hu; rfl) (by omega) (by omega) 37
    clear R0'
    have H1 := Bx.mk hrun
    have H2 := Bx.mk ho
    have H3 := Bx.mk hc
    have H4 := Bx.mk hf
    clear hrun ho hc hf
    go_wp2_with (at_builtin; refine wpList_append_run rfl (.tmp 21) (.tmp 22) 37 37 rfl _ _ rfl rfl H1.out ?_)
    have hF0 : Bx (∀ j, (none : Option Nat) = some j → n0 ≤ j) := Bx.mk (fun k h => by cases h)
    have hB3 := Bx.mk (hB2.out.step H3.out hn2.out (fun _ h => h.elim))
    have hn3 := Bx.mk (Nat.le_trans hn2.out H3.out.size)
    have hFl := Bx.mk (fun k h => Nat.le_trans hn2.out (H4.out k h))
    have hd3 : Bx (∀ k, Fl = some k → k ≠ g ∧ (none : Option Nat) ≠ some k) := Bx.mk (fun k h => ⟨by have := H4.out k h; have := hgl.out; omega, by simp⟩)
    have hb3 := Bx.mk (hb2.out.chg H3.out (fun h => h) (fun _ _ h => h))
    go_loopw [7] (fun i wr => ∃ j : Nat, ∃ F, i = .int .i64 j ∧ j ≤ l.length ∧ Bx (BagI64 wr g 100 (l.take j) F) ∧ Bx (∀ k, F = some k → n0 ≤ k) ∧ Bx (Below n0 w wr) ∧ Bx (n0 ≤ wr.heap.size) ∧
      Bx (Own wr 2 1 (.slice A l.length c) l.length (l.map (Value.int .i64)) Fl) ∧ Bx (∀ k, Fl = some k → k ≠ g ∧ F ≠ some k)) (fun i _ => l.length - (intOf i).toNat)
    case atStart => exact ⟨0, none, rfl, by omega, by simpa using hb3, hF0, hB3, hn3, H2, hd3⟩
    case round =>
      obtain ⟨j, F, rfl, hj, hb, hF, hB, hn, ho, hd⟩ := hrel
      by_cases hlt : j < l.length
      · have R0' : RRow 1 (RInt .i64) wr a0 l := R0.out.of_cells (below_cell hB.out HN.out) (fun _ _ h => h)
        obtain ⟨b, off, rfl, _, hcell⟩ := R0'.one rint_one (by omega)
        have hx := hcell j hlt
        have ht : l.take j ++ [l[j]] = l.take (j + 1) := by rw [List.take_succ_eq_append_getElem hlt]
        generalize l[j] = x at hx ht
        have hput := putI64_room g 100 (l.take j) F x wr hb.out (by simp; omega) (by simp; omega)
        rw [ht] at hput
        have hput := Bx.mk hput
        clear hcell ht R0'
        go_wp2_with fail
        refine hput.out.mono ?_
        rintro e w4 ⟨rfl, F', b, c', f⟩
        have G1 := Bx.mk b
        have G2 := Bx.mk c'
        have G3 := Bx.mk f
        clear b c' f
        go_wp2
        refine ⟨⟨j + 1, F', by go_num, by omega, G1, Bx.mk (F_next hF.out G3.out hn.out), Bx.mk (hB.out.step G2.out hn.out (own_in hg2.out hF.out)), Bx.mk (Nat.le_trans hn.out G2.out.size), ?_, ?_⟩, by simp [intOf]; omega⟩
        · exact Bx.mk (ho.out.chg G2.out (fun k h hx => by have := hd.out k h; rcases hx with hx | hx; exact this.1 hx; exact this.2 hx))
        · refine Bx.mk (fun k h => ⟨(hd.out k h).1, fun hx => ?_⟩)
          rcases G3.out k hx with h2 | h2
          · exact (hd.out k h).2 h2
          · have := ho.out.lt h; omega
      · have hjl : j = l.length := by omega
        have hb' : Bx (BagI64 wr g 100 l F) := Bx.mk (by have := hb.out; rwa [hjl, List.take_length] at this)
        clear hb hjl
        go_wp2_with fail
        go_loopw [8, 6] (fun i s wr => ∃ (j : Nat) (F : Option Nat) (A : Option Addr) (c : Nat) (Fl : Option Nat) (rest : List Int), i = .int .i64 j ∧ j ≤ l.length ∧ rest.length + j = l.length ∧ s = .slice A rest.length c ∧ Bx (BagI64 wr g 100 rest F) ∧ Bx (∀ k, F = some k → n0 ≤ k) ∧ Bx (Below n0 w wr) ∧ Bx (n0 ≤ wr.heap.size) ∧
          Bx (Own wr 2 1 (.slice A rest.length c) rest.length (rest.map (Value.int .i64)) Fl) ∧ Bx (∀ k, Fl = some k → k ≠ g ∧ F ≠ some k)) (fun i _ _ => l.length - (intOf i).toNat)
        case atStart => exact ⟨0, F, A, c, Fl, l, rfl, by omega, by omega, rfl, hb', hF, hB, hn, ho, hd⟩
        case round =>
          obtain ⟨j2, F2, A2, c2, Fl2, rest, rfl, hj2, hlen, rfl, hb2, hF2, hB2, hn2, ho2, hd2⟩ := hrel
          by_cases hlt2 : j2 < l.length
          · obtain ⟨nn, hcase⟩ : ∃ nn : Int, (j2 < at1.length ∧ ∃ b1 off1, a1 = some ⟨b1, off1, none⟩ ∧ wr.cell? ⟨b1, off1 + j2, none⟩ = some (.int .i64 nn)) ∨ (¬ j2 < at1.length ∧ nn = 0) := by
              by_cases h : j2 < at1.length
              · have R1' : RRow 1 (RInt .i64) wr a1 at1 := R1.out.of_cells (below_cell hB2.out HN.out) (fun _ _ h => h)
                obtain ⟨b1, off1, h1, _, h2⟩ := R1'.one rint_one (by omega)
                exact ⟨at1[j2], .inl ⟨h, b1, off1, h1, h2 j2 h⟩⟩
              · exact ⟨0, .inr ⟨h, rfl⟩⟩
            have hpos : 0 < rest.length := by omega
            have hp := place_lt nn hpos
            obtain ⟨ga, ca, hv, hFa, hra⟩ := ho2.out.pos hpos
            simp only [Value.slice.injEq] at hv
            obtain ⟨rfl, _, rfl⟩ := hv
            have htk := takeI64_some g 100 rest F2 nn wr hb2.out hpos
            have hpl := fun w => place_any nn rest.length w hpos (by omega)
            obtain ⟨p, hpe⟩ : ∃ p, p = place nn rest.length := ⟨_, rfl⟩
            rw [← hpe] at htk hpl hp
            obtain ⟨x, hx⟩ : ∃ x, x = rest.getD p default := ⟨_, rfl⟩
            rw [← hx] at htk
            obtain ⟨rest2, hr2⟩ : ∃ r, r = rest.take p ++ rest.drop (p + 1) := ⟨_, rfl⟩
            rw [← hr2] at htk
            have hr2l : rest2.length = rest.length - 1 := by rw [hr2]; simp; omega
            have hcx : ∀ w', Chg (fun k => k = g ∨ F2 = some k) wr w' → w'.cell? ⟨ga, p, none⟩ = some (.int .i64 x) := fun w' c => by
              have := (hra.chg c (fun h => by have := hd2.out ga hFa; rcases h with h | h; exact this.1 h; exact this.2 h)).cell p (by omega)
              rw [this, hx]; simp [hp]
            have T1 := Bx.mk htk
            have T2 := Bx.mk hpl
            have T3 := Bx.mk hcx
            have T4 := Bx.mk hr2
            have T5 := Bx.mk hra
            have T6 := Bx.mk hFa
            clear htk hpl hcx hr2 hra hFa hx hpe ho2 hb2
            have hpi : (p : Int) < (rest.length : Int) := by omega
            have hrl : rest.length ≤ 60 := by omega
            rcases hcase with ⟨hat, b1, off1, rfl, hc1⟩ | ⟨hat, rfl⟩
            all_goals
              go_wp2_with fail
              refine T1.out.mono ?_
              rintro e w4 ⟨rfl, b, c⟩
              have hb4 := Bx.mk b
              have hB4 := Bx.mk (hB2.out.step c hn2.out (own_in hg2.out hF2.out))
              have hn4 := Bx.mk (Nat.le_trans hn2.out c.size)
              have hx4 := T3.out w4 c
              have hgl4 := Bx.mk b.lt
              have hra4 := Bx.mk (T5.out.chg c (fun h => by have := hd2.out ga T6.out; rcases h with h | h; exact this.1 h; exact this.2 h))
              clear b c
              go_wp2_with fail
              refine (T2.out w4).mono ?_
              rintro e _ ⟨rfl, rfl⟩
              go_wp2_with fail
              have hra4' : RowAt w4.drew 2 1 ga rest.length c2 (rest.map (Value.int .i64)) := hra4.out.chg ((Chg.refl (fun _ => False) w4).drew) (fun h => h)
              obtain ⟨A3, hA3, A4, c4, w5, hr1, A5, c5, F5, w6, hr2, ho6, hc6, hf6⟩ := cut_runs tyI64 hra4' hp (by intro u hu; simp at hu; obtain ⟨x, _, rfl⟩ := hu; rfl) (by omega) 37
              have K1 := Bx.mk hr1
              have K2 := Bx.mk hr2
              have K3 := Bx.mk ho6
              have K4 := Bx.mk hc6
              have K5 := Bx.mk hf6
              clear hr1 hr2 ho6 hc6 hf6 hra4'
              have e3 : rest.length ≤ c2 := T5.out.cap_le.1
              have e2 : p ≤ c2 := by omega
              have e0 : IntKind.i64.wrap ((p : Int) + 1) = (p : Int) + 1 := by rw [IntKind.wrap_i64]; omega
              have e4 : (0 : Int) ≤ (p : Int) + 1 := by omega
              have e1 : (p : Int) + 1 ≤ (rest.length : Int) := by omega
              have e5 : ((p : Int) + 1).toNat = p + 1 := by omega
              go_region_law (first | (refine step_append_run rfl (.tmp 71) (.tmp 74) 37 37 rfl _ _ (by simp [Act.eval, Act.put]; done) (by simp [Act.eval, Act.put]; done) K1.out ?_) | (refine step_append_run rfl (.tmp 75) (.tmp 79) 37 37 rfl _ _ (by simp [Act.eval, Act.put]; done) (by simp [Act.eval, Act.put, hA3]; done) K2.out ?_))
              clear e0 e1 e2 e4 e5
              go_wp2
              have hlm : (rest2.map (Value.int .i64)) = (rest.map (Value.int .i64)).take p ++ (rest.map (Value.int .i64)).drop (p + 1) := by rw [T4.out]; simp [List.map_take, List.map_drop]
              have hlen2 : rest.length - 1 = rest2.length := by omega
              have K3' : Bx (Own w6 2 1 (.slice A5 rest2.length c5) rest2.length (rest2.map (Value.int .i64)) F5) := Bx.mk (by rw [hlm, ← hlen2]; exact K3.out)
              have K4' : Chg (fun _ => False) w4 w6 := ((Chg.refl _ _).drew).trans K4.out
              have hsz4 : ∀ k, F5 = some k → w4.heap.size ≤ k := fun k h => K5.out k h
              refine ⟨⟨j2 + 1, F2, A5, c5, F5, rest2, by go_num, by omega, by omega, by rw [hlen2], Bx.mk (hb4.out.chg K4' (fun h => h) (fun _ _ h => h)), hF2, Bx.mk (hB4.out.step K4' hn4.out (fun _ h => h.elim)), Bx.mk (Nat.le_trans hn4.out K4'.size), K3', ?_⟩, by simp [intOf]; omega⟩
              exact Bx.mk (fun k h => ⟨fun hx => by have := hsz4 k h; have := hgl4.out.1; omega, fun hx => by have := hsz4 k h; have := hgl4.out.2 k hx; omega⟩)
          · have hnil : rest = [] := List.eq_nil_of_length_eq_zero (by omega)
            have hb3 : Bx (BagI64 wr g 100 [] F2) := Bx.mk (by rw [← hnil]; exact hb2.out)
            go_wp2_with fail
            refine (takeI64_none g 100 0 wr F2 hb3.out).mono ?_
            rintro e _ ⟨rfl, rfl⟩
            go_wp2
            go_ret
            exact ⟨rfl, hB2.out⟩
end Go.Proofs.Ytgnekfifdmjeaaa
