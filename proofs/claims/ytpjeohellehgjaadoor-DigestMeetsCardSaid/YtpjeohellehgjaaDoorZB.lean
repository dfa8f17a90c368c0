import Derived.Test.YtpjeohellehgjaaDoorVG
import Derived.Test.YtpjeohellehgjaaDoorV3
import Derived.Test.YtpjeohellehgjaaDoorV4
import Derived.Test.YtpjeohellehgjaaDoorZA
section
/- Names, and a path's parts, of both packages: each by what it computes. Conditions: at most 1000 bytes. -/
set_option linter.unusedVariables false
set_option linter.unusedSimpArgs false
set_option maxRecDepth 100000
namespace Go.Proofs.YtpjeohellehgjaaDoor
open Go.RowKit Go.Cn
def strs (ps : List (List UInt8)) : List Value := ps.map fun p => .string (txt p)
theorem ix9 (l : List UInt8) (i : Int) (h : 0 ≤ i ∧ i < (l.length : Int)) (K : Value → World → Prop) (w : World) : ValK Tryd.prog (Instr.index 9 (.string (txt l)) (.int .i64 i)) K w = K (.int .u8 ((l.getD i.toNat 0).toNat : Int)) w := index_txt Tryd.underlying9 l .i64 i h K w
theorem c47 : (ByteArray.mk #[47]) = txt [47] := rfl
theorem c0 : (ByteArray.mk #[]) = txt [] := rfl
theorem eq_txt (a b : List UInt8) : ((txt a).toList == (txt b).toList) = decide (a = b) := by
  rw [txt_toList, txt_toList]
  by_cases h : a = b
  · subst h; simp
  · simp [h]
theorem name_any {l : List UInt8} {w : World} {K : Value → World → Prop} (hK : K (.bool (nameL l)) w) : CallK Tryd.prog 39 #[.string (txt l)] K w := by
  refine F39_calls _ _ _ ?_; unfold F39
  have hsz := txt_size l
  by_cases h0 : l = []
  · have e : nameL l = false := by subst h0; rfl
    rw [e] at hK
    have hb : decide (l = []) = true := decide_eq_true h0
    simp (maxSteps := 1000000) (disch := omega) only [genAll, decAll, tk_nil, st39, c0, eq_txt, hb]
    exact hK
  have hb : decide (l = []) = false := decide_eq_false h0
  have hpos : 0 < l.length := List.length_pos_iff.2 h0
  by_cases h8 : 8 < l.length
  · have e : nameL l = false := nameL_no (by omega)
    rw [e] at hK
    simp (maxSteps := 1000000) (disch := omega) only [genAll, decAll, tk_nil, st39, c0, eq_txt, hb, hsz]
    exact hK
  by_cases h97 : (l.getD 0 0).toNat < 97
  · have e : nameL l = false := nameL_no (by omega)
    rw [e] at hK
    simp (maxSteps := 1000000) (disch := omega) only [genAll, decAll, tk_nil, st39, c0, eq_txt, hb, hsz, ix9]
    exact hK
  simp (maxSteps := 1000000) (disch := omega) only [genAll, decAll, tk_nil, st39, c0, eq_txt, hb, hsz, ix9]
  refine loopK1 (fun v w' => w' = w ∧ ∃ i : Nat, v = .int .i64 i ∧ i ≤ l.length ∧ ∀ j, j < i → (97 ≤ (l.getD j 0).toNat ∧ (l.getD j 0).toNat ≤ 122) ∨ (48 ≤ (l.getD j 0).toNat ∧ (l.getD j 0).toNat ≤ 57)) (fun v _ => l.length - (intOf v).toNat) ⟨rfl, 0, rfl, by omega, fun j h => by omega⟩ ?_
  rintro _ _ w' ⟨hw, i, rfl, hi, hlo⟩
  obtain rfl : w' = w := hw
  by_cases hlt : i < l.length
  · have bad : ¬ ((97 ≤ (l.getD i 0).toNat ∧ (l.getD i 0).toNat ≤ 122) ∨ (48 ≤ (l.getD i 0).toNat ∧ (l.getD i 0).toNat ≤ 57)) → K (.bool false) w' := fun hn => by
      have e : nameL l = false := nameL_no (fun h => hn (h.2.2.2.2 i hlt))
      rw [e] at hK; exact hK
    have good : ((97 ≤ (l.getD i 0).toNat ∧ (l.getD i 0).toNat ≤ 122) ∨ (48 ≤ (l.getD i 0).toNat ∧ (l.getD i 0).toNat ≤ 57)) → ∀ j, j < i + 1 → (97 ≤ (l.getD j 0).toNat ∧ (l.getD j 0).toNat ≤ 122) ∨ (48 ≤ (l.getD j 0).toNat ∧ (l.getD j 0).toNat ≤ 57) := fun hg j hj => by
      by_cases e : j = i
      · subst e; exact hg
      · exact hlo j (by omega)
    by_cases ha : (l.getD i 0).toNat < 97
    · by_cases hb1 : (l.getD i 0).toNat < 48
      · simp (maxSteps := 1000000) (disch := omega) only [genAll, decAll, tk_nil, st39, ix9, hsz]
        exact bad (by omega)
      · by_cases hb2 : 57 < (l.getD i 0).toNat
        · simp (maxSteps := 1000000) (disch := omega) only [genAll, decAll, tk_nil, st39, ix9, hsz]
          exact bad (by omega)
        · simp (maxSteps := 1000000) (disch := omega) only [genAll, decAll, tk_nil, st39, ix9, hsz]
          exact ⟨⟨rfl, i + 1, by go_num, by omega, good (by omega)⟩, by simp [rel, intOf]; omega⟩
    · by_cases hb : 122 < (l.getD i 0).toNat
      · simp (maxSteps := 1000000) (disch := omega) only [genAll, decAll, tk_nil, st39, ix9, hsz]
        exact bad (by omega)
      · simp (maxSteps := 1000000) (disch := omega) only [genAll, decAll, tk_nil, st39, ix9, hsz]
        exact ⟨⟨rfl, i + 1, by go_num, by omega, good (by omega)⟩, by simp [rel, intOf]; omega⟩
  · simp (maxSteps := 1000000) (disch := omega) only [genAll, decAll, tk_nil, st39]
    have e : nameL l = true := (nameL_iff l).2 ⟨by omega, by omega, by omega, by
      rcases hlo 0 (by omega) with h | h
      · exact h.2
      · omega, fun j hj => hlo j (by omega)⟩
    rw [e] at hK
    exact hK
theorem nameR_any {l : List UInt8} {w : World} {K : Value → World → Prop} (hK : K (.bool (nameL l)) w) : CallK Tryd.prog 37 #[.string (txt l)] K w := by
  refine F37_calls _ _ _ ?_; unfold F37
  have hsz := txt_size l
  by_cases h0 : l.length < 1
  · have e : nameL l = false := nameL_no (by omega)
    rw [e] at hK
    simp (maxSteps := 1000000) (disch := omega) only [genAll, decAll, tk_nil, st37, hsz]
    exact hK
  by_cases h8 : 8 < l.length
  · have e : nameL l = false := nameL_no (by omega)
    rw [e] at hK
    simp (maxSteps := 1000000) (disch := omega) only [genAll, decAll, tk_nil, st37, hsz]
    exact hK
  by_cases h97 : (l.getD 0 0).toNat < 97
  · have e : nameL l = false := nameL_no (by omega)
    rw [e] at hK
    simp (maxSteps := 1000000) (disch := omega) only [genAll, decAll, tk_nil, st37, hsz, ix9]
    exact hK
  by_cases h122 : 122 < (l.getD 0 0).toNat
  · have e : nameL l = false := nameL_no (by omega)
    rw [e] at hK
    simp (maxSteps := 1000000) (disch := omega) only [genAll, decAll, tk_nil, st37, hsz, ix9]
    exact hK
  simp (maxSteps := 1000000) (disch := omega) only [genAll, decAll, tk_nil, st37, hsz, ix9]
  refine loopK1 (fun v w' => w' = w ∧ ∃ i : Nat, v = .int .i64 i ∧ i ≤ l.length ∧ ∀ j, j < i → (97 ≤ (l.getD j 0).toNat ∧ (l.getD j 0).toNat ≤ 122) ∨ (48 ≤ (l.getD j 0).toNat ∧ (l.getD j 0).toNat ≤ 57)) (fun v _ => l.length - (intOf v).toNat) ⟨rfl, 0, rfl, by omega, fun j h => by omega⟩ ?_
  rintro _ _ w' ⟨hw, i, rfl, hi, hlo⟩
  obtain rfl : w' = w := hw
  by_cases hlt : i < l.length
  · have bad : ¬ ((97 ≤ (l.getD i 0).toNat ∧ (l.getD i 0).toNat ≤ 122) ∨ (48 ≤ (l.getD i 0).toNat ∧ (l.getD i 0).toNat ≤ 57)) → K (.bool false) w' := fun hn => by
      have e : nameL l = false := nameL_no (fun h => hn (h.2.2.2.2 i hlt))
      rw [e] at hK; exact hK
    have good : ((97 ≤ (l.getD i 0).toNat ∧ (l.getD i 0).toNat ≤ 122) ∨ (48 ≤ (l.getD i 0).toNat ∧ (l.getD i 0).toNat ≤ 57)) → ∀ j, j < i + 1 → (97 ≤ (l.getD j 0).toNat ∧ (l.getD j 0).toNat ≤ 122) ∨ (48 ≤ (l.getD j 0).toNat ∧ (l.getD j 0).toNat ≤ 57) := fun hg j hj => by
      by_cases e : j = i
      · subst e; exact hg
      · exact hlo j (by omega)
    by_cases ha : (l.getD i 0).toNat < 97
    · by_cases hb1 : (l.getD i 0).toNat < 48
      · simp (maxSteps := 1000000) (disch := omega) only [genAll, decAll, tk_nil, st37, ix9, hsz]
        exact bad (by omega)
      · by_cases hb2 : 57 < (l.getD i 0).toNat
        · simp (maxSteps := 1000000) (disch := omega) only [genAll, decAll, tk_nil, st37, ix9, hsz]
          exact bad (by omega)
        · simp (maxSteps := 1000000) (disch := omega) only [genAll, decAll, tk_nil, st37, ix9, hsz]
          exact ⟨⟨rfl, i + 1, by go_num, by omega, good (by omega)⟩, by simp [rel, intOf]; omega⟩
    · by_cases hb : 122 < (l.getD i 0).toNat
      · simp (maxSteps := 1000000) (disch := omega) only [genAll, decAll, tk_nil, st37, ix9, hsz]
        exact bad (by omega)
      · simp (maxSteps := 1000000) (disch := omega) only [genAll, decAll, tk_nil, st37, ix9, hsz]
        exact ⟨⟨rfl, i + 1, by go_num, by omega, good (by omega)⟩, by simp [rel, intOf]; omega⟩
  · simp (maxSteps := 1000000) (disch := omega) only [genAll, decAll, tk_nil, st37, hsz]
    have e : nameL l = true := (nameL_iff l).2 ⟨by omega, by omega, by omega, by omega, fun j hj => hlo j (by omega)⟩
    rw [e] at hK
    exact hK
/-- strings.CutPrefix of a stroke. -/
theorem cutPrefix_any {l : List UInt8} {w : World} {K : Value → World → Prop} (hK : K (.tuple #[.string (txt (if l.headD 0 = 47 then l.tail else l)), .bool (decide (l.headD 0 = 47))]) w) : CallK Tryd.prog 94 #[.string (txt l), .string (txt [47])] K w := by
  refine F94_calls _ _ _ _ ?_; unfold F94
  refine ck108 ?_
  refine F108_calls _ _ _ _ ?_; unfold F108
  refine ck122 ?_
  refine F122_calls _ _ _ _ ?_; unfold F122
  have hsz := txt_size l
  have h1 : (txt [47]).size = 1 := rfl
  have hn1 : ((1 : Nat) : Int) = 1 := rfl
  cases l with
  | nil =>
    have e0 : ((([] : List UInt8).length : Nat) : Int) = 0 := rfl
    have hd : decide ((([] : List UInt8).headD 0) = 47) = false := rfl
    rw [hd] at hK
    simp (maxSteps := 1000000) (disch := omega) only [genAll, decAll, tk_nil, st108, st122, hsz, h1, hn1, e0]
    exact hK
  | cons c r =>
    have hlen : (((c :: r).length : Nat) : Int) = (r.length : Int) + 1 := by simp
    have hsl : ∀ (K : Value → World → Prop) (w : World), SliceK Tryd.prog 9 (.string (txt (c :: r))) none (some (.int .i64 1)) none K w = K (.string (txt [c])) w := fun K w => slice_txt_h Tryd.underlying9 (c :: r) 1 (by simp) K w
    have hsl2 : ∀ (K : Value → World → Prop) (w : World), SliceK Tryd.prog 9 (.string (txt (c :: r))) (some (.int .i64 1)) none none K w = K (.string (txt r)) w := fun K w => slice_txt_l Tryd.underlying9 (c :: r) 1 (by simp) K w
    by_cases hc : c = 47
    · have hd : decide ((c :: r).headD 0 = 47) = true := decide_eq_true hc
      have hi : (if (c :: r).headD 0 = 47 then (c :: r).tail else c :: r) = r := if_pos hc
      rw [hd, hi] at hK
      have he : decide ([c] = [47]) = true := by subst hc; rfl
      simp (maxSteps := 1000000) (disch := omega) only [genAll, decAll, tk_nil, st108, st122, hsz, h1, hn1, hlen, hsl, eq_txt, he, hsl2]
      exact hK
    · have hd : decide ((c :: r).headD 0 = 47) = false := decide_eq_false hc
      have hi : (if (c :: r).headD 0 = 47 then (c :: r).tail else c :: r) = c :: r := if_neg hc
      rw [hd, hi] at hK
      have he : decide ([c] = [47]) = false := decide_eq_false (by simpa using hc)
      simp (maxSteps := 1000000) (disch := omega) only [genAll, decAll, tk_nil, st108, st122, hsz, h1, hn1, hlen, hsl, eq_txt, he, hsl2]
      exact hK
/-- strings.Split at strokes; m: what internal/bytealg.MaxLen holds. -/
theorem split_any {l : List UInt8} {w : World} {K : Value → World → Prop} (hl : l.length ≤ 50000) {m : Int} (hm : w.cell? ⟨0, 0, none⟩ = some (.int .i64 m))
    (hK : ∀ g w', Own w' 9 1 (.slice (some ⟨g, 0, none⟩) (splitL l).length (splitL l).length) (splitL l).length (strs (splitL l)) (some g) → Qt w w' → w.heap.size ≤ g → K (.slice (some ⟨g, 0, none⟩) (splitL l).length (splitL l).length) w') : CallV Tryd.prog (.func (.func 95) #[] #[]) #[.string (txt l), .string (txt [47])] K w := by
  refine callV_func Tryd.func95 (by kernel_rfl) (by kernel_rfl) ((Tryd.strings_Split (txt l) (txt [47]) m w (by rw [txt_size]; omega) hm (by rw [txt_size]; simp)).mono ?_)
  rintro e w' ⟨rfl, rfl⟩
  rw [split_txt, split_count]
  refine hK _ _ ?_ (Chg.alloc Qt.refl _) (Nat.le_refl _)
  refine .inr ⟨w.heap.size, (splitL l).length, rfl, rfl, by simp [strs], _, blk_new _ _, Nat.le_refl _, ?_, by simp, ?_⟩
  · have : (splitL l).length ≤ l.length + 1 := splitL_len l
    unfold maxLen; omega
  · simp only [List.map_map]
    rw [List.take_of_length_le (by simp)]; rfl
end Go.Proofs.YtpjeohellehgjaaDoor
end

section
/- Parse of both packages, a path's text. Conditions: at most 1000 bytes. -/
set_option linter.unusedVariables false
set_option linter.unusedSimpArgs false
set_option maxRecDepth 100000
namespace Go.Proofs.YtpjeohellehgjaaDoor
open Go.RowKit Go.Cn
def MaxAt (w : World) : Prop := ∃ m, w.cell? ⟨0, 0, none⟩ = some (.int .i64 m)
theorem MaxAt.quiet {w w' : World} (h : MaxAt w) (q : Qt w w') : MaxAt w' := by
  obtain ⟨m, hm⟩ := h; exact ⟨m, q.cell hm (fun h => h)⟩
theorem infoS : (Tryd.prog.info? 9).map (fun i => (i.zero, i.size, i.bytes)) = some (some (.string ByteArray.empty), 1, 16) := by kernel_rfl
theorem tyS : ElemTy Tryd.prog 24 9 (.string ByteArray.empty) 1 16 := ElemTy.mk' Tryd.underlying24 infoS rfl (by decide)
theorem strs_one (ps : List (List UInt8)) : ∀ u ∈ strs ps, u.oneCell' = true := by
  intro u hu; obtain ⟨p, _, rfl⟩ := List.mem_map.1 hu; rfl
theorem strs_at {w : World} {A : Option Addr} {ps : List (List UInt8)} (h : Reads w A (strs ps)) {i : Nat} (hi : i < ps.length) : ∃ g o, A = some ⟨g, o, none⟩ ∧ w.cell? ⟨g, o + i, none⟩ = some (.string (txt ps[i])) := by
  obtain ⟨g, o, hA, hc⟩ := Reads.get (enc := fun p => Value.string (txt p)) h hi
  refine ⟨g, o, hA, ?_⟩
  rw [hc, List.getD_eq_getElem?_getD, List.getElem?_eq_getElem hi]; rfl
theorem contains_any {ps : List (List UInt8)} {A : Option Addr} {c : Nat} {w : World} {f : FuncId} {pred : List UInt8 → Bool} {K : Value → World → Prop} (hr : Reads w A (strs ps)) (hn : ps.length ≤ 100000)
    (hf : ∀ (p : List UInt8) (K : Value → World → Prop) (w : World), K (.bool (pred p)) w → CallV Tryd.prog (.func (.func f) #[] #[]) #[.string (txt p)] K w)
    (hK : K (.bool (ps.any pred)) w) : CallK Tryd.prog 118 #[.slice A ps.length c, .func (.func f) #[] #[]] K w := by
  refine F118_calls _ _ _ _ ?_; unfold F118
  refine ck127 ?_
  refine F127_calls _ _ _ _ ?_; unfold F127
  simp (maxSteps := 1000000) (disch := omega) only [genAll, decAll, tk_nil, st118, st127]
  refine loopK1 (fun v w' => w' = w ∧ ∃ i : Nat, v = .int .i64 i ∧ i ≤ ps.length ∧ (ps.take i).any pred = false) (fun v _ => ps.length - (intOf v).toNat) ⟨rfl, 0, rfl, by omega, by simp⟩ ?_
  rintro _ _ w' ⟨hw, i, rfl, hi, hlo⟩
  obtain rfl : w' = w := hw
  by_cases hlt : i < ps.length
  · obtain ⟨g, o, rfl, hc⟩ := strs_at hr hlt
    have htk : ps.take (i + 1) = ps.take i ++ [ps[i]] := List.take_succ_eq_append_getElem hlt
    have hmem := List.getElem_mem hlt
    generalize ps[i] = p at *
    simp (maxSteps := 1000000) (disch := omega) only [genAll, decAll, tk_nil, st118, st127, hc]
    refine hf p _ w' ?_
    cases hp : pred p with
    | true =>
      have hany : ps.any pred = true := List.any_eq_true.2 ⟨p, hmem, hp⟩
      rw [hany] at hK
      simp (maxSteps := 1000000) (disch := omega) only [genAll, decAll, tk_nil, st118, st127]
      exact hK
    | false =>
      simp (maxSteps := 1000000) (disch := omega) only [genAll, decAll, tk_nil, st118, st127]
      refine ⟨⟨rfl, i + 1, by go_num, by omega, ?_⟩, by simp [rel, intOf]; omega⟩
      rw [htk, List.any_append, hlo]; simp [hp]
  · rw [List.take_of_length_le (by omega)] at hlo
    rw [hlo] at hK
    simp (maxSteps := 1000000) (disch := omega) only [genAll, decAll, tk_nil, st118, st127]
    exact hK
theorem notname_any (p : List UInt8) (K : Value → World → Prop) (w : World) (hK : K (.bool (!nameL p)) w) : CallV Tryd.prog (.func (.func 119) #[] #[]) #[.string (txt p)] K w := by
  refine ck119 ?_
  refine F119_calls _ _ _ ?_; unfold F119
  refine ck39 (name_any ?_)
  simp (maxSteps := 1000000) (disch := omega) only [genAll, decAll, tk_nil]
  exact hK
theorem any_not (ps : List (List UInt8)) : ps.any (fun p => !nameL p) = !(ps.all nameL) := by
  rw [List.all_eq_not_any_not, Bool.not_not]
theorem cut_any {l : List UInt8} {w : World} {K : Value → World → Prop} (hl : l.length ≤ 50000) (hm : MaxAt w)
    (hK : ∀ A c F w', Own w' 9 1 (.slice A ((cutL l).getD []).length c) ((cutL l).getD []).length (strs ((cutL l).getD [])) F → Qt w w' → (∀ k, F = some k → w.heap.size ≤ k) → K (.tuple #[.slice A ((cutL l).getD []).length c, .bool (cutL l).isSome]) w') : CallK Tryd.prog 117 #[.string (txt l)] K w := by
  refine F117_calls _ _ _ ?_; unfold F117
  simp (maxSteps := 1000000) (disch := omega) only [genAll, decAll, tk_nil, st117, c47]
  refine ck94 (cutPrefix_any ?_)
  cases l with
  | nil =>
    have e : decide ((([] : List UInt8).headD 0) = 47) = false := rfl
    rw [e]
    simp (maxSteps := 1000000) (disch := omega) only [genAll, decAll, tk_nil, st117]
    exact hK none 0 none w (Own.nil _ _ _) Qt.refl (fun _ h => by cases h)
  | cons c r =>
    by_cases hc : c = 47
    · have e : decide ((c :: r).headD 0 = 47) = true := decide_eq_true hc
      have e2 : (if (c :: r).headD 0 = 47 then (c :: r).tail else c :: r) = r := if_pos hc
      rw [e, e2]
      by_cases hr : r = []
      · have e3 : cutL (c :: r) = some [] := by unfold cutL; simp [hc, hr]
        rw [e3] at hK
        have hb : decide (r = []) = true := decide_eq_true hr
        simp (maxSteps := 1000000) (disch := omega) only [genAll, decAll, tk_nil, st117, c0, eq_txt, hb]
        exact hK none 0 none w (Own.nil _ _ _) Qt.refl (fun _ h => by cases h)
      · have e3 : cutL (c :: r) = some (splitL r) := by unfold cutL; simp [hc, hr]
        rw [e3] at hK
        have hb : decide (r = []) = false := decide_eq_false hr
        simp (maxSteps := 1000000) (disch := omega) only [genAll, decAll, tk_nil, st117, c0, eq_txt, hb, c47]
        obtain ⟨m, hm⟩ := hm
        refine split_any (by simp at hl; omega) hm ?_
        intro g w' o q hg
        simp (maxSteps := 1000000) (disch := omega) only [genAll, decAll, tk_nil, st117]
        exact hK _ _ _ w' o q (fun k hk => by cases hk; exact hg)
    · have e : decide ((c :: r).headD 0 = 47) = false := decide_eq_false hc
      have e3 : cutL (c :: r) = none := by unfold cutL; simp [hc]
      rw [e3] at hK
      rw [e]
      simp (maxSteps := 1000000) (disch := omega) only [genAll, decAll, tk_nil, st117]
      exact hK none 0 none w (Own.nil _ _ _) Qt.refl (fun _ h => by cases h)
theorem parse_any {l : List UInt8} {w : World} {K : Value → World → Prop} (hl : l.length ≤ 50000) (hm : MaxAt w)
    (hK : ∀ A c F w', Own w' 9 1 (.slice A (parseL l).2.length c) (parseL l).2.length (strs (parseL l).2) F → Qt w w' → (∀ k, F = some k → w.heap.size ≤ k) → K (.tuple #[.slice A (parseL l).2.length c, .int .i64 (parseL l).1]) w') : CallK Tryd.prog 104 #[.string (txt l)] K w := by
  refine F104_calls _ _ _ ?_; unfold F104
  refine ck117 (cut_any hl hm ?_)
  unfold parseL at hK
  cases hcut : cutL l with
  | none =>
    intro A c F w' o q f
    rw [hcut] at hK
    simp (maxSteps := 1000000) (disch := omega) only [genAll, decAll, tk_nil, st104, Option.isSome_none]
    exact hK none 0 none w' (Own.nil _ _ _) q (fun _ h => by cases h)
  | some ps =>
    rw [hcut] at hK
    intro A c F w' o q f
    simp only [Option.getD_some, Option.isSome_some] at o ⊢
    have hb := o.shape
    have hpl : ps.length ≤ 100000 := by
      have h1 : ps.length ≤ l.length + 1 := by
        cases l with
        | nil => cases hcut
        | cons a r =>
          unfold cutL at hcut
          simp only at hcut
          split at hcut
          · injection hcut with hcut
            subst hcut
            split
            · simp
            · have := splitL_len r; simp; omega
          · cases hcut
      omega
    simp (maxSteps := 1000000) (disch := omega) only [genAll, decAll, tk_nil, st104]
    refine ck118 (contains_any (Reads.of_own o) hpl notname_any ?_)
    rw [any_not]
    simp only at hK
    by_cases h1 : ps.all nameL = false
    · rw [if_pos h1] at hK
      simp (maxSteps := 1000000) (disch := omega) only [genAll, decAll, tk_nil, st104, h1]
      exact hK none 0 none w' (Own.nil _ _ _) q (fun _ h => by cases h)
    · have h1' : ps.all nameL = true := by simpa using h1
      rw [if_neg h1] at hK
      by_cases h2 : 4 < ps.length
      · rw [if_pos h2] at hK
        simp (maxSteps := 1000000) (disch := omega) only [genAll, decAll, tk_nil, st104, h1']
        exact hK none 0 none w' (Own.nil _ _ _) q (fun _ h => by cases h)
      · rw [if_neg h2] at hK
        simp (maxSteps := 1000000) (disch := omega) only [genAll, decAll, tk_nil, st104, h1']
        exact hK A c F w' o q f
end Go.Proofs.YtpjeohellehgjaaDoor
end

section
/- The document's cutting at strokes, and its Parse. Conditions: at most 1000 bytes. -/
set_option linter.unusedVariables false
set_option linter.unusedSimpArgs false
set_option maxRecDepth 100000
namespace Go.Proofs.YtpjeohellehgjaaDoor
open Go.RowKit Go.Cn
theorem take_o {P : Program} {S : World → Prop} {s : Sem Next} {K : Value → Prop} (v : Value) (hr : ∀ w, s.run P w = .ok (.value v) w) (hk : K v) : TakeO P S s (@Cn.hid _ ⟨K⟩) := ⟨v, fun w _ => hr w, hk⟩
theorem push_run {P : Program} {w : World} {t e : TypeId} {z : Value} {bytes : Nat} (T : ElemTy P t e z 1 bytes) {v : Value} {n : Nat} {xs : List Value} {F : Option Nat} (ho : Own w e 1 v n xs F) (x : Value) (hx : x.oneCell' = true) (hb : (n + 1) * bytes ≤ 140737488355328) (hb2 : n + 1 ≤ 9223372036854775807) (ty : TypeId) :
    ∃ A' cap F' w', (Builtin.append_ #[t, t] ty #[v, .slice (some ⟨w.heap.size, 0, none⟩) 1 1]).run P (w.alloc (.cells #[x] e)) = .ok (.slice A' (n + 1) cap) w' ∧ Own w' e 1 (.slice A' (n + 1) cap) (n + 1) (xs ++ [x]) F' ∧ Chg (fun k => F = some k) w w' ∧ (∀ k, F' = some k → F = some k ∨ w.heap.size ≤ k) := by
  have q : Qt w (w.alloc (.cells #[x] e)) := Chg.alloc Qt.refl _
  obtain ⟨A', cap, F', w', p, o, k, f⟩ := app_run T (ho.chg q (fun _ _ h => h)) (some ⟨w.heap.size, 0, none⟩) 1 1 [x] rfl (Src.new w x e) (oneCell_one hx) hb hb2 ty
  refine ⟨A', cap, F', w', p, o, Chg.then (q.mono (fun _ _ h => h.elim)) k (fun i hi => .inl hi), fun j hj => ?_⟩
  rcases f j hj with h | h
  · exact .inl h
  · right; rw [h, size_alloc]; omega
/-- One more byte. -/
def snocL (l : List (List UInt8)) (c : UInt8) : List (List UInt8) := if c = 47 then l ++ [[]] else l.set (l.length - 1) (l.getD (l.length - 1) [] ++ [c])
theorem snocL_cons (a : List UInt8) (l : List (List UInt8)) (h : l ≠ []) (c : UInt8) : snocL (a :: l) c = a :: snocL l c := by
  unfold snocL
  cases l with
  | nil => exact absurd rfl h
  | cons b r =>
    by_cases hc : c = 47
    · simp [hc]
    · simp [hc]
theorem splitL_snoc : ∀ (l : List UInt8) (c : UInt8), splitL (l ++ [c]) = snocL (splitL l) c
  | [], c => by
    by_cases hc : c = 47
    · simp [splitL, snocL, hc]
    · simp [splitL, snocL, hc]
  | x :: l, c => by
    have ih := splitL_snoc l c
    rw [List.cons_append, splitL, ih]
    by_cases hx : x = 47
    · rw [if_pos hx, splitL, if_pos hx, snocL_cons _ _ (splitL_ne l)]
    · rw [if_neg hx, splitL, if_neg hx]
      cases hs : splitL l with
      | nil => exact absurd hs (splitL_ne l)
      | cons p r =>
        cases r with
        | nil =>
          unfold snocL
          by_cases hc : c = 47
          · simp [hc]
          · simp [hc]
        | cons b r =>
          rw [snocL_cons p (b :: r) (by simp)]
          simp only [List.headD_cons, List.tail_cons]
          rw [snocL_cons (x :: p) (b :: r) (by simp)]
theorem strs_len (ps : List (List UInt8)) : (strs ps).length = ps.length := by simp [strs]
theorem part_len : ∀ (l : List UInt8), ∀ p ∈ splitL l, p.length ≤ l.length
  | [], p, h => by simp [splitL] at h; subst h; simp
  | c :: l, p, h => by
    have ih := part_len l
    rw [splitL] at h
    cases hs : splitL l with
    | nil => exact absurd hs (splitL_ne l)
    | cons a r =>
      rw [hs] at h ih
      by_cases hc : c = 47
      · rw [if_pos hc] at h
        rcases List.mem_cons.1 h with h | h
        · subst h; simp
        · have := ih p h; simp; omega
      · rw [if_neg hc] at h
        rcases List.mem_cons.1 h with h | h
        · subst h; have := ih a (by simp); simp; omega
        · have := ih p (List.mem_cons_of_mem _ h); simp; omega
theorem cutL_len {l : List UInt8} {ps : List (List UInt8)} (hcut : cutL l = some ps) : ps.length ≤ l.length + 1 := by
  cases l with
  | nil => cases hcut
  | cons a r =>
    unfold cutL at hcut
    simp only at hcut
    split at hcut
    · injection hcut with hcut
      subst hcut
      split
      · simp
      · have := splitL_len r; simp; omega
    · cases hcut
theorem cutR_any {l : List UInt8} {w : World} {K : Value → World → Prop} (hl : l.length ≤ 2000000)
    (hK : ∀ A c F w', Own w' 9 1 (.slice A ((cutL l).getD []).length c) ((cutL l).getD []).length (strs ((cutL l).getD [])) F → Qt w w' → (∀ k, F = some k → w.heap.size ≤ k) → K (.tuple #[.slice A ((cutL l).getD []).length c, .bool (cutL l).isSome]) w') : CallK Tryd.prog 121 #[.string (txt l)] K w := by
  refine F121_calls _ _ _ ?_; unfold F121
  have hsz := txt_size l
  cases l with
  | nil =>
    have hb : decide (([] : List UInt8) = []) = true := rfl
    simp (maxSteps := 1000000) (disch := omega) only [genAll, decAll, tk_nil, st121, c0, eq_txt, hb]
    exact hK none 0 none w (Own.nil _ _ _) Qt.refl (fun _ h => by cases h)
  | cons c r =>
    have hb : decide (c :: r = []) = false := by simp
    have hlen : (((c :: r).length : Nat) : Int) = (r.length : Int) + 1 := by simp
    have hg0 : (c :: r).getD 0 0 = c := rfl
    by_cases hc : c = 47
    · by_cases hr : r = []
      · have e3 : cutL (c :: r) = some [] := by unfold cutL; simp [hc, hr]
        rw [e3] at hK
        have h47 : ¬ ((c.toNat : Int) ≠ 47) := by subst hc; decide
        have h48 : (c.toNat : Int) = 47 := by subst hc; rfl
        have hb2 : decide (c :: r = [47]) = true := by subst hc hr; rfl
        simp (maxSteps := 1000000) (disch := omega) only [genAll, decAll, tk_nil, st121, c0, eq_txt, hb, ix9, hlen, hg0, h48, c47, hb2]
        exact hK none 0 none w (Own.nil _ _ _) Qt.refl (fun _ h => by cases h)
      have e3 : cutL (c :: r) = some (splitL r) := by unfold cutL; simp [hc, hr]
      rw [e3] at hK
      have h48 : (c.toNat : Int) = 47 := by subst hc; rfl
      have hb2 : decide (c :: r = [47]) = false := by simp [hr]
      simp (maxSteps := 1000000) (disch := omega) only [genAll, decAll, tk_nil, st121, c0, eq_txt, hb, ix9, hlen, hg0, h48, c47, hb2]
      have hrow0 : RowAt (w.alloc (.cells #[.string (txt [])] 9)) 9 1 w.heap.size 1 1 (strs (splitL (r.take 0))) := by
        exact ⟨rfl, _, blk_new _ _, Nat.le_refl _, by decide, by decide, rfl⟩
      refine loopK2 (fun x v w' => Qt w w' ∧ ∃ (i : Nat) (g cap : Nat), v = .int .i64 (i + 1 : Nat) ∧ i ≤ r.length ∧ w.heap.size ≤ g ∧ x = .slice (some ⟨g, 0, none⟩) (splitL (r.take i)).length cap ∧ RowAt w' 9 1 g (splitL (r.take i)).length cap (strs (splitL (r.take i)))) (fun _ v _ => r.length + 1 - (intOf v).toNat) ⟨Chg.alloc Qt.refl _, 0, w.heap.size, 1, rfl, by omega, Nat.le_refl _, rfl, hrow0⟩ ?_
      rintro _ _ _ w' ⟨q, i, g, cap, rfl, hi, hg, rfl, hrow⟩
      by_cases hlt : i < r.length
      · have htk : r.take (i + 1) = r.take i ++ [r[i]] := List.take_succ_eq_append_getElem hlt
        have hgi : (c :: r).getD (i + 1) 0 = r[i] := by simp [hlt]
        have hdr : ((c :: r).drop (i + 1)).take (i + 2 - (i + 1)) = [r[i]] := by
          rw [List.drop_succ_cons, show i + 2 - (i + 1) = 1 by omega, List.drop_eq_getElem_cons hlt]; rfl
        have hsn := splitL_snoc (r.take i) r[i]
        rw [← htk] at hsn
        have hpos := splitL_pos (r.take i)
        have hle := splitL_len (r.take i)
        have hpl := part_len (r.take i)
        have htl : (r.take i).length = i := by rw [List.length_take]; omega
        rw [htl] at hle hpl
        have hl' : r.length + 1 ≤ 2000000 := by simpa using hl
        have hsl : ∀ (K : Value → World → Prop) (w : World), SliceK Tryd.prog 9 (.string (txt (c :: r))) (some (.int .i64 (i + 1 : Nat))) (some (.int .i64 (((i + 1 : Nat) : Int) + 1))) none K w = K (.string (txt [r[i]])) w := fun K w => by
          rw [show (((i + 1 : Nat) : Int) + 1) = ((i + 2 : Nat) : Int) by omega, slice_txt_lh Tryd.underlying9 (c :: r) (i + 1) (i + 2) ⟨by omega, by simp; omega⟩, hdr]
        generalize r[i] = d at *
        generalize splitL (r.take i) = ps at *
        by_cases hd : d = 47
        · have hd' : (d.toNat : Int) = 47 := by subst hd; rfl
          simp (maxSteps := 1000000) (disch := omega) only [genAll, decAll, tk_nil, st121, hsz, hlen, ix9, hgi, hd']
          obtain ⟨A2, c2, F2, w2, p2, o2, k2, f2⟩ := push_run (P := Tryd.prog) tyS hrow.own (.string (txt [])) rfl (by omega) (by omega) 24
          refine appK p2 ?_
          obtain ⟨g2, c2', e2, rfl, hr2⟩ := o2.pos (by omega)
          injection e2 with e21 e22 e23
          subst e21 e23
          have hq2 := Qt.then q k2 (fun k hk => by cases hk; exact hg)
          have hg2 : w.heap.size ≤ g2 := by
            rcases f2 g2 rfl with h | h
            · cases h; exact hg
            · have := q.size; omega
          have e47 : snocL ps d = ps ++ [[]] := by unfold snocL; rw [if_pos hd]
          simp (maxSteps := 1000000) (disch := omega) only [genAll, decAll, tk_nil, st121]
          refine ⟨⟨hq2, i + 1, g2, c2, by go_num, by omega, hg2, ?_, ?_⟩, by simp [rel, intOf]; omega⟩
          · rw [hsn, e47, List.length_append]; rfl
          · rw [hsn, e47, List.length_append, strs, List.map_append]; exact hr2
        · have hd' : ¬ (d.toNat : Int) = 47 := fun h => hd (UInt8.toNat_inj.1 (show d.toNat = 47 by omega))
          simp (maxSteps := 1000000) (disch := omega) only [genAll, decAll, tk_nil, st121, hsz, hlen, ix9, hgi, hd']
          refine drawK_by (fun _ => True) trivial ?_
          have hn1 : ((ps.length : Int) - 1).toNat = ps.length - 1 := by omega
          refine take_o (.int .i64 ps.length) (fun w => by first | (go_simp; rfl) | (go_simp; done)) ?_
          refine take_bin (.int .i64 ((ps.length : Int) - 1)) (fun w' _ => by (simp (maxSteps := 1000000) (disch := omega) only [genAll, decAll, tk_nil, st121]; try (exact ⟨trivial, trivial⟩))) ?_
          refine take_o (.int .i64 ps.length) (fun w => by first | (go_simp; rfl) | (go_simp; done)) ?_
          refine take_bin (.int .i64 ((ps.length : Int) - 1)) (fun w' _ => by (simp (maxSteps := 1000000) (disch := omega) only [genAll, decAll, tk_nil, st121]; try (exact ⟨trivial, trivial⟩))) ?_
          refine take_index (.pointer (some ⟨g, ps.length - 1, none⟩)) (fun w' _ => by (simp (maxSteps := 1000000) (disch := omega) only [genAll, decAll, tk_nil, st121, hn1]; try (exact ⟨trivial, trivial⟩))) ?_
          refine take_bin (.int .i64 (((i + 1 : Nat) : Int) + 1)) (fun w' _ => by (simp (maxSteps := 1000000) (disch := omega) only [genAll, decAll, tk_nil, st121]; try (exact ⟨trivial, trivial⟩))) ?_
          refine take_slice (.string (txt [d])) (fun w' _ => by (simp (maxSteps := 1000000) (disch := omega) only [genAll, decAll, tk_nil, st121, hsl]; try (exact ⟨trivial, trivial⟩))) ?_
          have hlast : ps.length - 1 < ps.length := by omega
          have hcl : w'.drew.cell? ⟨g, ps.length - 1, none⟩ = some (.string (txt (ps.getD (ps.length - 1) []))) := by
            have := (hrow.chg (S := fun _ => False) (Qt.drew Qt.refl) (fun h => h)).cell (ps.length - 1) (by omega)
            rw [this, strs, List.getElem?_map, List.getElem?_eq_getElem hlast, List.getD_eq_getElem?_getD, List.getElem?_eq_getElem hlast]; rfl
          have hll : (ps.getD (ps.length - 1) []).length ≤ 2000000 := by
            rw [List.getD_eq_getElem?_getD, List.getElem?_eq_getElem hlast]
            have := hpl _ (List.getElem_mem hlast)
            simp only [Option.getD_some]; omega
          have e47 : snocL ps d = ps.set (ps.length - 1) (ps.getD (ps.length - 1) [] ++ [d]) := by unfold snocL; rw [if_neg hd]
          generalize ps.getD (ps.length - 1) [] = lp at *
          have hrow2 := (hrow.chg (S := fun _ => False) (Qt.drew Qt.refl) (fun h => h)).store (ps.length - 1) (.string (txt (lp ++ [d])))
          have hfz := (hrow.chg (S := fun _ => False) (Qt.drew Qt.refl) (fun h => h)).frozen (ps.length - 1)
          have hq2 : Qt w (w'.drew.setCell ⟨g, ps.length - 1, none⟩ (.string (txt (lp ++ [d])))) := Qt.then q ((Chg.refl (fun k => k = g) w').drew.setCell (p := ⟨g, ps.length - 1, none⟩) (.inl rfl) _) (fun k hk => by rw [hk]; exact hg)
          simp (maxSteps := 1000000) (disch := omega) only [genAll, decAll, tk_nil, st121, hcl]
          refine ⟨?_, trivial⟩
          refine take_bin (.string (txt (lp ++ [d]))) (fun w' _ => by rw [add_txt _ _ (by simp; omega)]; exact ⟨rfl, rfl⟩) ?_
          refine take_index (.pointer (some ⟨g, ps.length - 1, none⟩)) (fun w' _ => by (simp (maxSteps := 1000000) (disch := omega) only [genAll, decAll, tk_nil, st121, hn1]; try (exact ⟨trivial, trivial⟩))) ?_
          simp (maxSteps := 1000000) (disch := omega) only [genAll, decAll, tk_nil, st121, hcl, hfz]
          refine ⟨⟨⟨hq2, i + 1, g, cap, by go_num, by omega, hg, ?_, ?_⟩, by simp [rel, intOf]; omega⟩, trivial⟩
          · rw [hsn, e47, List.length_set]
          · rw [hsn, e47, List.length_set, strs, List.map_set]; exact hrow2
      · obtain rfl : i = r.length := by omega
        rw [List.take_length] at hrow ⊢
        simp (maxSteps := 1000000) (disch := omega) only [genAll, decAll, tk_nil, st121, hsz, hlen]
        exact hK _ _ _ w' hrow.own q (fun k hk => by cases hk; exact hg)
    · have e3 : cutL (c :: r) = none := by unfold cutL; simp [hc]
      rw [e3] at hK
      have h48 : ¬ (c.toNat : Int) = 47 := fun h => hc (UInt8.toNat_inj.1 (show c.toNat = 47 by omega))
      simp (maxSteps := 1000000) (disch := omega) only [genAll, decAll, tk_nil, st121, c0, eq_txt, hb, ix9, hlen, hg0, h48]
      exact hK none 0 none w (Own.nil _ _ _) Qt.refl (fun _ h => by cases h)
theorem parseR_any {l : List UInt8} {w : World} {K : Value → World → Prop} (hl : l.length ≤ 2000000)
    (hK : ∀ A c F w', Own w' 9 1 (.slice A (parseL l).2.length c) (parseL l).2.length (strs (parseL l).2) F → Qt w w' → (∀ k, F = some k → w.heap.size ≤ k) → K (.tuple #[.slice A (parseL l).2.length c, .int .i64 (parseL l).1]) w') : CallK Tryd.prog 107 #[.string (txt l)] K w := by
  refine F107_calls _ _ _ ?_; unfold F107
  refine ck121 (cutR_any (by omega) ?_)
  unfold parseL at hK
  cases hcut : cutL l with
  | none =>
    intro A c F w' o q f
    rw [hcut] at hK
    simp (maxSteps := 1000000) (disch := omega) only [genAll, decAll, tk_nil, st107, Option.isSome_none]
    exact hK none 0 none w' (Own.nil _ _ _) q (fun _ h => by cases h)
  | some ps =>
    rw [hcut] at hK
    intro A c F w' o q f
    simp only [Option.getD_some, Option.isSome_some] at o ⊢
    have hb := o.shape
    have hr := Reads.of_own o
    have hpl : ps.length ≤ 3000000 := by
      have h1 : ps.length ≤ l.length + 1 := cutL_len hcut
      omega
    simp only at hK
    simp (maxSteps := 1000000) (disch := omega) only [genAll, decAll, tk_nil, st107]
    refine loopK1 (fun v w2 => w2 = w' ∧ ∃ i : Nat, v = .int .i64 i ∧ i ≤ ps.length ∧ (ps.take i).all nameL = true) (fun v _ => ps.length - (intOf v).toNat) ⟨rfl, 0, rfl, by omega, rfl⟩ ?_
    rintro _ _ w2 ⟨hw, i, rfl, hi, hlo⟩
    obtain rfl : w2 = w' := hw
    by_cases hlt : i < ps.length
    · obtain ⟨g, o', rfl, hc⟩ := strs_at hr hlt
      have htk : ps.take (i + 1) = ps.take i ++ [ps[i]] := List.take_succ_eq_append_getElem hlt
      have hmem := List.getElem_mem hlt
      generalize ps[i] = p at *
      simp (maxSteps := 1000000) (disch := omega) only [genAll, decAll, tk_nil, st107, hc]
      refine ck37 (nameR_any ?_)
      cases hp : nameL p with
      | true =>
        simp (maxSteps := 1000000) (disch := omega) only [genAll, decAll, tk_nil, st107]
        refine ⟨⟨rfl, i + 1, by go_num, by omega, ?_⟩, by simp [rel, intOf]; omega⟩
        rw [htk, List.all_append, hlo]; simp [hp]
      | false =>
        have hany : ps.all nameL = false := by
          cases h : ps.all nameL with
          | false => rfl
          | true => rw [List.all_eq_true.1 h p hmem] at hp; cases hp
        rw [if_pos hany] at hK
        simp (maxSteps := 1000000) (disch := omega) only [genAll, decAll, tk_nil, st107]
        exact hK none 0 none w2 (Own.nil _ _ _) q (fun _ h => by cases h)
    · rw [List.take_of_length_le (by omega)] at hlo
      rw [if_neg (by rw [hlo]; decide)] at hK
      by_cases h2 : 4 < ps.length
      · rw [if_pos h2] at hK
        simp (maxSteps := 1000000) (disch := omega) only [genAll, decAll, tk_nil, st107]
        exact hK none 0 none w2 (Own.nil _ _ _) q (fun _ h => by cases h)
      · rw [if_neg h2] at hK
        simp (maxSteps := 1000000) (disch := omega) only [genAll, decAll, tk_nil, st107]
        exact hK A c F w2 o q f
end Go.Proofs.YtpjeohellehgjaaDoor
end

section
/- path.Depth, the document's Path and Node: each by what it computes. -/
set_option linter.unusedVariables false
set_option linter.unusedSimpArgs false
set_option maxRecDepth 100000
namespace Go.Proofs.YtpjeohellehgjaaDoor
open Go.RowKit Go.Cn
theorem len_small (l : List UInt8) : (parseL l).2.length ≤ 4 := by
  by_cases h : (parseL l).1 = 0
  · exact (parseL_ok h).2.2
  · rw [(parseL_bad h).1]; simp
theorem code_small (l : List UInt8) : (parseL l).1 = 0 ∨ (parseL l).1 = 2 ∨ (parseL l).1 = 4 := by
  by_cases h : (parseL l).1 = 0
  · exact .inl h
  · exact .inr (parseL_bad h).2
theorem depth_any {l : List UInt8} {w : World} {K : Value → World → Prop} (hl : l.length ≤ 50000) (hm : MaxAt w)
    (hK : ∀ w', Qt w w' → K (.int .i64 (depthL l)) w') : CallK Tryd.prog 91 #[.string (txt l)] K w := by
  refine F91_calls _ _ _ ?_; unfold F91
  refine ck104 (parse_any hl hm ?_)
  intro A c F w' o q f
  obtain hsh := o.shape
  have hs := len_small l
  unfold depthL at hK
  rcases code_small l with h0 | h0 | h0
  · rw [h0] at hK
    generalize (parseL l).2 = ps at *
    simp (maxSteps := 1000000) (disch := omega) only [genAll, decAll, tk_nil, st91, h0]
    exact hK w' q
  · rw [h0] at hK
    simp (maxSteps := 1000000) (disch := omega) only [genAll, decAll, tk_nil, st91, h0]
    exact hK w' q
  · rw [h0] at hK
    simp (maxSteps := 1000000) (disch := omega) only [genAll, decAll, tk_nil, st91, h0]
    exact hK w' q
theorem isR_any {l : List UInt8} {w : World} {K : Value → World → Prop} (hl : l.length ≤ 2000000)
    (hK : ∀ w', Qt w w' → K (.bool (decide ((parseL l).1 = 0))) w') : CallK Tryd.prog 93 #[.string (txt l)] K w := by
  refine F93_calls _ _ _ ?_; unfold F93
  refine ck107 (parseR_any (by omega) ?_)
  intro A c F w' o q f
  have e : ((parseL l).1 == 0) = decide ((parseL l).1 = 0) := rfl
  generalize (parseL l).1 = x at *
  simp (maxSteps := 1000000) (disch := omega) only [genAll, decAll, tk_nil, st93, e]
  exact hK w' q
def nodeL (l : List UInt8) : Bool := decide ((parseL l).1 = 0) && decide (l ≠ [47])
theorem node_depth (l : List UInt8) : nodeL l = true ↔ 1 ≤ depthL l := by
  unfold nodeL depthL
  by_cases h : (parseL l).1 = 0
  · rw [if_pos h]
    have hp := path_of (parseL_ok h).1
    have e : l = [47] ↔ (parseL l).2 = [] := by
      constructor
      · intro e; rw [e]; rfl
      · intro e; rw [e] at hp; exact hp.symm
    have e2 : (parseL l).2 ≠ [] ↔ 1 ≤ ((parseL l).2.length : Int) := by
      rw [← List.length_pos_iff]; omega
    rw [← e2]
    simp [h, e]
  · rw [if_neg h]
    simp [h]
theorem nodeR_any {l : List UInt8} {w : World} {K : Value → World → Prop} (hl : l.length ≤ 2000000)
    (hK : ∀ w', Qt w w' → K (.bool (nodeL l)) w') : CallK Tryd.prog 71 #[.string (txt l)] K w := by
  refine F71_calls _ _ _ ?_; unfold F71
  refine ck93 (isR_any hl ?_)
  intro w' q
  have fin := hK w' q
  unfold nodeL at fin
  by_cases h : (parseL l).1 = 0
  · have hd : decide ((parseL l).1 = 0) = true := decide_eq_true h
    rw [hd, Bool.true_and] at fin
    by_cases h2 : l = [47]
    · have hd2 : decide (l = [47]) = true := decide_eq_true h2
      have hd3 : decide (l ≠ [47]) = false := decide_eq_false (fun e => e h2)
      rw [hd3] at fin
      simp (maxSteps := 1000000) (disch := omega) only [genAll, decAll, tk_nil, st71, hd, c47, eq_txt, hd2, Bool.not_true]
      exact fin
    · have hd2 : decide (l = [47]) = false := decide_eq_false h2
      have hd3 : decide (l ≠ [47]) = true := decide_eq_true h2
      rw [hd3] at fin
      simp (maxSteps := 1000000) (disch := omega) only [genAll, decAll, tk_nil, st71, hd, c47, eq_txt, hd2, Bool.not_false]
      exact fin
  · have hd : decide ((parseL l).1 = 0) = false := decide_eq_false h
    rw [hd, Bool.false_and] at fin
    simp (maxSteps := 1000000) (disch := omega) only [genAll, decAll, tk_nil, st71, hd, guardK_u]
    exact fin
theorem node_len {l : List UInt8} (h : nodeL l = true) : 2 ≤ l.length ∧ l.length ≤ 40 := by
  unfold nodeL at h
  rw [Bool.and_eq_true, decide_eq_true_eq, decide_eq_true_eq] at h
  have hk := parseL_ok h.1
  have hp := path_of hk.1
  have key : ∀ r : List (List UInt8), (∀ p ∈ r, p.length ≤ 8) → (r.flatMap (fun q => (47 : UInt8) :: q)).length ≤ r.length * 9 := by
    intro r hr
    induction r with
    | nil => simp
    | cons a r ih =>
      have h1 := ih (fun p hp => hr p (by simp [hp]))
      have h2 := hr a (by simp)
      rw [List.flatMap_cons, List.length_append, List.length_cons, List.length_cons, Nat.succ_mul]; omega
  have hn := fun p hp => (parts_len hk.2.1 p hp)
  generalize (parseL l).2 = ps at *
  cases ps with
  | nil => exact absurd hp.symm h.2
  | cons p r =>
    have h1 := key r (fun q hq => (hn q (by simp [hq])).2)
    have h2 := hn p (by simp)
    have h3 := hk.2.2
    rw [List.length_cons] at h3
    have h4 : r.length * 9 ≤ 3 * 9 := by omega
    rw [← hp]
    unfold pathL
    rw [List.length_cons, joinL, List.length_append]
    omega
end Go.Proofs.YtpjeohellehgjaaDoor
end

section
/- What is less: numbers, texts, rows of numbers, values; by the program and by the document. Conditions: the rows read. -/
set_option linter.unusedVariables false
set_option linter.unusedSimpArgs false
set_option maxRecDepth 100000
namespace Go.Proofs.YtpjeohellehgjaaDoor
open Go.RowKit Go.Cn
def ints (l : List Int) : List Value := l.map (Value.int .i64)
theorem int_at {w : World} {A : Option Addr} {l : List Int} (h : Reads w A (ints l)) {i : Nat} (hi : i < l.length) : ∃ b o, A = some ⟨b, o, none⟩ ∧ w.cell? ⟨b, o + i, none⟩ = some (.int .i64 (l.getD i 0)) := by
  obtain ⟨g, o, hA, hc⟩ := Reads.get (enc := Value.int .i64) h hi
  exact ⟨g, o, hA, hc⟩
/-- The value as it lies, as it is handed. -/
abbrev vv (v : Val) (A : Option Addr) (c : Nat) : Value := .agg #[.int .i64 v.1, .int .i64 v.2.1, .string v.2.2.1, .slice A v.2.2.2.length c]
theorem cell4 {w : World} {b : Nat} {t : TypeId} {x y z u : Value} (h : w.heap[b]? = some (.cells #[x, y, z, u] t (0, 0))) : w.cell? ⟨b, 0, none⟩ = some x ∧ w.cell? ⟨b, 1, none⟩ = some y ∧ w.cell? ⟨b, 2, none⟩ = some z ∧ w.cell? ⟨b, 3, none⟩ = some u :=
  ⟨by rw [blk_cell h]; rfl, by rw [blk_cell h]; rfl, by rw [blk_cell h]; rfl, by rw [blk_cell h]; rfl⟩
theorem nan_any49 {a : Int} {w : World} {K : Value → World → Prop} (hK : K (.bool false) w) : CallK Tryd.prog 126 #[.int .i64 a] K w := by
  refine F126_calls _ _ _ ?_; unfold F126
  have e : (a != a) = false := bne_self_eq_false a
  simp (maxSteps := 1000000) (disch := omega) only [genAll, decAll, tk_nil, st126, e]
  exact hK
theorem nan_any50 {a : Int} {w : World} {K : Value → World → Prop} (hK : K (.bool false) w) : CallK Tryd.prog 85 #[.int .i64 a] K w := by
  refine F85_calls _ _ _ ?_; unfold F85
  have e : (a != a) = false := bne_self_eq_false a
  simp (maxSteps := 1000000) (disch := omega) only [genAll, decAll, tk_nil, st85, e]
  exact hK
theorem nan_any51 {a : ByteArray} {w : World} {K : Value → World → Prop} (hK : K (.bool false) w) : CallK Tryd.prog 75 #[.string a] K w := by
  refine F75_calls _ _ _ ?_; unfold F75
  simp (maxSteps := 1000000) (disch := omega) only [genAll, decAll, tk_nil, st75, beq_self_eq_true, Bool.not_true]
  exact hK
theorem cmp35 {a b : Int} {w : World} {K : Value → World → Prop} (hK : K (.int .i64 (cmpI a b)) w) : CallK Tryd.prog 113 #[.int .i64 a, .int .i64 b] K w := by
  refine F113_calls _ _ _ _ ?_; unfold F113
  refine ck126 (nan_any49 ?_)
  simp (maxSteps := 1000000) (disch := omega) only [genAll, decAll, tk_nil, st113]
  refine ck126 (nan_any49 ?_)
  unfold cmpI at hK
  by_cases h1 : a < b
  · rw [if_pos h1] at hK
    simp (maxSteps := 1000000) (disch := omega) only [genAll, decAll, tk_nil, st113]
    exact hK
  · rw [if_neg h1] at hK
    by_cases h2 : b < a
    · rw [if_pos h2] at hK
      simp (maxSteps := 1000000) (disch := omega) only [genAll, decAll, tk_nil, st113]
      exact hK
    · rw [if_neg h2] at hK
      simp (maxSteps := 1000000) (disch := omega) only [genAll, decAll, tk_nil, st113]
      exact hK
theorem cmp36 {a b : Int} {w : World} {K : Value → World → Prop} (hK : K (.int .i64 (cmpI a b)) w) : CallK Tryd.prog 59 #[.int .i64 a, .int .i64 b] K w := by
  refine F59_calls _ _ _ _ ?_; unfold F59
  refine ck85 (nan_any50 ?_)
  simp (maxSteps := 1000000) (disch := omega) only [genAll, decAll, tk_nil, st59]
  refine ck85 (nan_any50 ?_)
  unfold cmpI at hK
  by_cases h1 : a < b
  · rw [if_pos h1] at hK
    simp (maxSteps := 1000000) (disch := omega) only [genAll, decAll, tk_nil, st59]
    exact hK
  · rw [if_neg h1] at hK
    by_cases h2 : b < a
    · rw [if_pos h2] at hK
      simp (maxSteps := 1000000) (disch := omega) only [genAll, decAll, tk_nil, st59]
      exact hK
    · rw [if_neg h2] at hK
      simp (maxSteps := 1000000) (disch := omega) only [genAll, decAll, tk_nil, st59]
      exact hK
theorem ord33 {a b : Int} {w : World} {K : Value → World → Prop} (hK : K (.int .i64 (cmpI a b)) w) : CallK Tryd.prog 82 #[.int .i64 a, .int .i64 b] K w := by
  refine F82_calls _ _ _ _ ?_; unfold F82
  unfold cmpI at hK
  by_cases h1 : a < b
  · rw [if_pos h1] at hK
    simp (maxSteps := 1000000) (disch := omega) only [genAll, decAll, tk_nil, st82]
    exact hK
  · rw [if_neg h1] at hK
    by_cases h2 : b < a
    · rw [if_pos h2] at hK
      simp (maxSteps := 1000000) (disch := omega) only [genAll, decAll, tk_nil, st82]
      exact hK
    · rw [if_neg h2] at hK
      simp (maxSteps := 1000000) (disch := omega) only [genAll, decAll, tk_nil, st82]
      exact hK
theorem less3 (x y : ByteArray) : (cmpS x y = -1 ∧ Op.bytesLess x.toList y.toList = true) ∨ (cmpS x y = 0 ∧ Op.bytesLess x.toList y.toList = false ∧ (x.toList == y.toList) = true) ∨ (cmpS x y = 1 ∧ Op.bytesLess x.toList y.toList = false ∧ (x.toList == y.toList) = false) := by
  have h := less_cmp x.data.toList y.data.toList
  rw [ByteArray.toList_eq, ByteArray.toList_eq]
  have hb : ∀ z : Int, cmpL (bts x.data.toList) (bts y.data.toList) = z → z ≠ -1 → Op.bytesLess x.data.toList y.data.toList = false := fun z e hz => by
    cases hb : Op.bytesLess x.data.toList y.data.toList with
    | false => rfl
    | true => exact absurd (e.symm.trans (h.1 hb)) hz
  rcases cmpL_three (bts x.data.toList) (bts y.data.toList) with h1 | h1 | h1
  · exact .inl ⟨h1, h.2 h1⟩
  · refine .inr (.inl ⟨h1, hb 0 h1 (by decide), ?_⟩)
    rw [bts_inj (cmpL_zero _ _ h1)]; exact beq_self_eq_true _
  · refine .inr (.inr ⟨h1, hb 1 h1 (by decide), ?_⟩)
    rw [beq_eq_false_iff_ne]
    intro e
    rw [e, cmpL_self] at h1; cases h1
theorem ord34 {a b : ByteArray} {w : World} {K : Value → World → Prop} (hK : K (.int .i64 (cmpS a b)) w) : CallK Tryd.prog 83 #[.string a, .string b] K w := by
  refine F83_calls _ _ _ _ ?_; unfold F83
  rcases less3 a b with ⟨h, h1⟩ | ⟨h, h1, h2⟩ | ⟨h, h1, h2⟩
  · rw [h] at hK
    simp (maxSteps := 1000000) (disch := omega) only [genAll, decAll, tk_nil, st83, h1]
    exact hK
  · rw [h] at hK
    simp (maxSteps := 1000000) (disch := omega) only [genAll, decAll, tk_nil, st83, h1, h2, Bool.false_or, Bool.not_true]
    exact hK
  · rw [h] at hK
    simp (maxSteps := 1000000) (disch := omega) only [genAll, decAll, tk_nil, st83, h1, h2, Bool.false_or, Bool.not_false]
    exact hK
theorem cmp37 {a b : ByteArray} {w : World} {K : Value → World → Prop} (hK : K (.int .i64 (cmpS a b)) w) : CallK Tryd.prog 40 #[.string a, .string b] K w := by
  refine F40_calls _ _ _ _ ?_; unfold F40
  refine ck75 (nan_any51 ?_)
  simp (maxSteps := 1000000) (disch := omega) only [genAll, decAll, tk_nil, st40]
  refine ck75 (nan_any51 ?_)
  rcases less3 a b with ⟨h, h1⟩ | ⟨h, h1, h2⟩ | ⟨h, h1, h2⟩
  · rw [h] at hK
    simp (maxSteps := 1000000) (disch := omega) only [genAll, decAll, tk_nil, st40, h1]
    exact hK
  · rw [h] at hK
    simp (maxSteps := 1000000) (disch := omega) only [genAll, decAll, tk_nil, st40, h1, h2, Bool.false_or, Bool.not_true]
    exact hK
  · rw [h] at hK
    simp (maxSteps := 1000000) (disch := omega) only [genAll, decAll, tk_nil, st40, h1, h2, Bool.false_or, Bool.not_false]
    exact hK
theorem cmpL_step {a b : List Int} {i : Nat} (ha : i < a.length) (hb : i < b.length) : cmpL (a.drop i) (b.drop i) = if a.getD i 0 < b.getD i 0 then -1 else if b.getD i 0 < a.getD i 0 then 1 else cmpL (a.drop (i + 1)) (b.drop (i + 1)) := by
  rw [List.drop_eq_getElem_cons ha, List.drop_eq_getElem_cons hb, cmpL]
  simp [ha, hb]
theorem cmpL_out {a b : List Int} {i : Nat} (ha : i < a.length) (hb : b.length ≤ i) : cmpL (a.drop i) (b.drop i) = 1 := by
  rw [List.drop_eq_getElem_cons ha, List.drop_eq_nil_of_le hb]; rfl
theorem cmpL_end {a b : List Int} {i : Nat} (ha : a.length ≤ i) (hi : i ≤ b.length) : cmpL (a.drop i) (b.drop i) = if i < b.length then -1 else 0 := by
  rw [List.drop_eq_nil_of_le ha]
  by_cases h : i < b.length
  · rw [if_pos h, List.drop_eq_getElem_cons h]; rfl
  · rw [if_neg h, List.drop_eq_nil_of_le (by omega)]; rfl
set_option maxHeartbeats 1000000 in
theorem cmp38 {l m : List Int} {A B : Option Addr} {c d : Nat} {w : World} {K : Value → World → Prop} (ha : Reads w A (ints l)) (hb : Reads w B (ints m)) (hl : l.length ≤ 9223372036854775807) (hm : m.length ≤ 9223372036854775807)
    (hK : K (.int .i64 (cmpL l m)) w) : CallK Tryd.prog 114 #[.slice A l.length c, .slice B m.length d] K w := by
  refine F114_calls _ _ _ _ ?_; unfold F114
  simp (maxSteps := 1000000) (disch := omega) only [genAll, decAll, tk_nil, st114]
  refine loopK1 (fun v w' => w' = w ∧ ∃ i : Nat, v = .int .i64 i ∧ i ≤ l.length ∧ i ≤ m.length ∧ cmpL (l.drop i) (m.drop i) = cmpL l m) (fun v _ => l.length - (intOf v).toNat) ⟨rfl, 0, rfl, by omega, by omega, rfl⟩ ?_
  rintro _ _ w1 ⟨hw, i, rfl, hi, him, hc⟩
  obtain rfl : w1 = w := hw
  by_cases hlt : i < l.length
  · obtain ⟨b, o, rfl, x1⟩ := int_at ha hlt
    by_cases hmt : i < m.length
    · obtain ⟨b2, o2, rfl, x2⟩ := int_at hb hmt
      rw [cmpL_step hlt hmt] at hc
      generalize l.getD i 0 = x at *
      generalize m.getD i 0 = y at *
      simp (maxSteps := 1000000) (disch := omega) only [genAll, decAll, tk_nil, st114, x1, x2]
      refine ck59 (cmp36 ?_)
      unfold cmpI
      by_cases h1 : x < y
      · rw [if_pos h1] at hc
        rw [if_pos h1]
        simp (maxSteps := 1000000) (disch := omega) only [genAll, decAll, tk_nil, st114]
        rw [← hc] at hK
        exact hK
      · rw [if_neg h1] at hc
        rw [if_neg h1]
        by_cases h2 : y < x
        · rw [if_pos h2] at hc
          rw [if_pos h2]
          simp (maxSteps := 1000000) (disch := omega) only [genAll, decAll, tk_nil, st114]
          rw [← hc] at hK
          exact hK
        · rw [if_neg h2] at hc
          rw [if_neg h2]
          simp (maxSteps := 1000000) (disch := omega) only [genAll, decAll, tk_nil, st114]
          exact ⟨⟨rfl, i + 1, by go_num, by omega, by omega, hc⟩, by simp [rel, intOf]; omega⟩
    · rw [cmpL_out hlt (by omega)] at hc
      rw [← hc] at hK
      simp (maxSteps := 1000000) (disch := omega) only [genAll, decAll, tk_nil, st114, x1]
      exact hK
  · rw [cmpL_end (by omega) him] at hc
    rw [← hc] at hK
    by_cases hmt : i < m.length
    · rw [if_pos hmt] at hK
      simp (maxSteps := 1000000) (disch := omega) only [genAll, decAll, tk_nil, st114]
      exact hK
    · rw [if_neg hmt] at hK
      simp (maxSteps := 1000000) (disch := omega) only [genAll, decAll, tk_nil, st114]
      exact hK
end Go.Proofs.YtpjeohellehgjaaDoor
end

section
/- Values: which is less, whether they are the same, whether they may be; by the program and by the document. Conditions: the rows read. -/
set_option linter.unusedVariables false
set_option linter.unusedSimpArgs false
set_option maxRecDepth 100000
namespace Go.Proofs.YtpjeohellehgjaaDoor
open Go.RowKit Go.Cn
theorem box4 (w : World) (v : Val) (A : Option Addr) (c : Nat) (t : TypeId) : Qt w (w.alloc (.cells #[.int .i64 v.1, .int .i64 v.2.1, .string v.2.2.1, .slice A v.2.2.2.length c] t)) ∧ (w.alloc (.cells #[.int .i64 v.1, .int .i64 v.2.1, .string v.2.2.1, .slice A v.2.2.2.length c] t)).heap[w.heap.size]? = some (.cells #[.int .i64 v.1, .int .i64 v.2.1, .string v.2.2.1, .slice A v.2.2.2.length c] t (0, 0)) :=
  ⟨Chg.alloc Qt.refl _, blk_new _ _⟩
theorem box8 (w : World) (a b : Val) (A B : Option Addr) (c d : Nat) (t : TypeId) : Qt w ((w.alloc (.cells #[.int .i64 a.1, .int .i64 a.2.1, .string a.2.2.1, .slice A a.2.2.2.length c] t)).alloc (.cells #[.int .i64 b.1, .int .i64 b.2.1, .string b.2.2.1, .slice B b.2.2.2.length d] t)) ∧ ((w.alloc (.cells #[.int .i64 a.1, .int .i64 a.2.1, .string a.2.2.1, .slice A a.2.2.2.length c] t)).alloc (.cells #[.int .i64 b.1, .int .i64 b.2.1, .string b.2.2.1, .slice B b.2.2.2.length d] t)).heap[w.heap.size]? = some (.cells #[.int .i64 a.1, .int .i64 a.2.1, .string a.2.2.1, .slice A a.2.2.2.length c] t (0, 0)) ∧ ((w.alloc (.cells #[.int .i64 a.1, .int .i64 a.2.1, .string a.2.2.1, .slice A a.2.2.2.length c] t)).alloc (.cells #[.int .i64 b.1, .int .i64 b.2.1, .string b.2.2.1, .slice B b.2.2.2.length d] t)).heap[w.heap.size + 1]? = some (.cells #[.int .i64 b.1, .int .i64 b.2.1, .string b.2.2.1, .slice B b.2.2.2.length d] t (0, 0)) := by
  obtain ⟨q1, h1⟩ := box4 w a A c t
  have hs : (w.alloc (.cells #[.int .i64 a.1, .int .i64 a.2.1, .string a.2.2.1, .slice A a.2.2.2.length c] t)).heap.size = w.heap.size + 1 := size_alloc _ _
  obtain ⟨q2, h2⟩ := box4 (w.alloc (.cells #[.int .i64 a.1, .int .i64 a.2.1, .string a.2.2.1, .slice A a.2.2.2.length c] t)) b B d t
  rw [hs] at h2
  exact ⟨q1.trans q2, q2.heap h1 (fun h => h), h2⟩
set_option maxHeartbeats 1000000 in
theorem cmp15 {a b : Val} {A B : Option Addr} {c d : Nat} {w : World} {K : Value → World → Prop} (ha : Reads w A (ints a.2.2.2)) (hb : Reads w B (ints b.2.2.2)) (la : a.2.2.2.length ≤ 9223372036854775807) (lb : b.2.2.2.length ≤ 9223372036854775807)
    (hK : ∀ w', Qt w w' → K (.int .i64 (cmpV a b)) w') : CallK Tryd.prog 101 #[vv a A c, vv b B d] K w := by
  refine F101_calls _ _ _ _ ?_; unfold F101
  obtain ⟨q02, h1, h2⟩ := box8 w a b A B c d 126
  simp (maxSteps := 1000000) (disch := omega) only [genAll, decAll, tk_nil, st101]
  generalize ((w.alloc (.cells #[.int .i64 a.1, .int .i64 a.2.1, .string a.2.2.1, .slice A a.2.2.2.length c] 126)).alloc (.cells #[.int .i64 b.1, .int .i64 b.2.1, .string b.2.2.1, .slice B b.2.2.2.length d] 126)) = w2 at *
  generalize w.heap.size + 1 = b2 at *
  generalize w.heap.size = b1 at *
  have ha2 := ha.quiet q02
  have hb2 := hb.quiet q02
  obtain ⟨x0, x1, x2, x3⟩ := cell4 h1
  obtain ⟨y0, y1, y2, y3⟩ := cell4 h2
  have hf := hK w2 q02
  rw [cmpV_eq] at hf
  simp (maxSteps := 1000000) (disch := omega) only [genAll, decAll, tk_nil, st101, x0, y0]
  refine ck113 (cmp35 ?_)
  by_cases hk : a.1 = b.1
  · have e0 : cmpI a.1 b.1 = 0 := by unfold cmpI; rw [if_neg (by omega), if_neg (by omega)]
    have e1 : ((0 : Int) != 0) = false := rfl
    rw [if_neg (show ¬ (a.1 ≠ b.1) from fun h => h hk)] at hf
    rw [e0]
    by_cases k1 : a.1 = 1
    · rw [if_pos k1] at hf
      have e2 : (a.1 == 1) = true := by rw [k1]; rfl
      simp (maxSteps := 1000000) (disch := omega) only [genAll, decAll, tk_nil, st101, e1, x0, e2, x1, y1]
      refine ck59 (cmp36 ?_)
      simp (maxSteps := 1000000) (disch := omega) only [genAll, decAll, tk_nil, st101]
      exact hf
    · have n1 : (a.1 == 1) = false := beq_eq_false_iff_ne.2 k1
      rw [if_neg k1] at hf
      by_cases k2 : a.1 = 2
      · rw [if_pos k2] at hf
        have e2 : (a.1 == 2) = true := by rw [k2]; rfl
        simp (maxSteps := 1000000) (disch := omega) only [genAll, decAll, tk_nil, st101, e1, x0, n1, e2, x2, y2]
        refine ck40 (cmp37 ?_)
        simp (maxSteps := 1000000) (disch := omega) only [genAll, decAll, tk_nil, st101]
        exact hf
      · have n2 : (a.1 == 2) = false := beq_eq_false_iff_ne.2 k2
        rw [if_neg k2] at hf
        by_cases k3 : a.1 = 3
        · rw [if_pos k3] at hf
          have e2 : (a.1 == 3) = true := by rw [k3]; rfl
          simp (maxSteps := 1000000) (disch := omega) only [genAll, decAll, tk_nil, st101, e1, x0, n1, n2, e2, x3, y3]
          refine ck114 (cmp38 ha2 hb2 la lb ?_)
          simp (maxSteps := 1000000) (disch := omega) only [genAll, decAll, tk_nil, st101]
          exact hf
        · have n3 : (a.1 == 3) = false := beq_eq_false_iff_ne.2 k3
          rw [if_neg k3] at hf
          simp (maxSteps := 1000000) (disch := omega) only [genAll, decAll, tk_nil, st101, e1, x0, n1, n2, n3]
          exact hf
  · rw [if_pos hk] at hf
    have e1 : (cmpI a.1 b.1 != 0) = true := by
      unfold cmpI
      by_cases h : a.1 < b.1
      · rw [if_pos h]; rfl
      · rw [if_neg h, if_pos (by omega)]; rfl
    simp (maxSteps := 1000000) (disch := omega) only [genAll, decAll, tk_nil, st101, e1]
    exact hf
theorem same19 {a b : Val} {A B : Option Addr} {c d : Nat} {w : World} {K : Value → World → Prop} (ha : Reads w A (ints a.2.2.2)) (hb : Reads w B (ints b.2.2.2)) (la : a.2.2.2.length ≤ 9223372036854775807) (lb : b.2.2.2.length ≤ 9223372036854775807)
    (hK : ∀ w', Qt w w' → K (.bool (decide (cmpV a b = 0))) w') : CallK Tryd.prog 88 #[vv a A c, vv b B d] K w := by
  refine F88_calls _ _ _ _ ?_; unfold F88
  obtain ⟨q02, h1, h2⟩ := box8 w a b A B c d 126
  simp (maxSteps := 1000000) (disch := omega) only [genAll, decAll, tk_nil, st88]
  generalize ((w.alloc (.cells #[.int .i64 a.1, .int .i64 a.2.1, .string a.2.2.1, .slice A a.2.2.2.length c] 126)).alloc (.cells #[.int .i64 b.1, .int .i64 b.2.1, .string b.2.2.1, .slice B b.2.2.2.length d] 126)) = w2 at *
  generalize w.heap.size + 1 = b2 at *
  generalize w.heap.size = b1 at *
  obtain ⟨x0, x1, x2, x3⟩ := cell4 h1
  obtain ⟨y0, y1, y2, y3⟩ := cell4 h2
  simp (maxSteps := 1000000) (disch := omega) only [genAll, decAll, tk_nil, st88, x0, x1, x2, x3, y0, y1, y2, y3]
  refine ck101 (cmp15 (ha.quiet q02) (hb.quiet q02) la lb ?_)
  intro w3 q3
  have hf := hK w3 (q02.trans q3)
  have e : (cmpV a b == 0) = decide (cmpV a b = 0) := rfl
  simp (maxSteps := 1000000) (disch := omega) only [genAll, decAll, tk_nil, st88, e]
  exact hf
set_option maxHeartbeats 1000000 in
theorem cmp14 {a b : Val} {A B : Option Addr} {c d : Nat} {w : World} {K : Value → World → Prop} (ha : Reads w A (ints a.2.2.2)) (hb : Reads w B (ints b.2.2.2)) (la : a.2.2.2.length ≤ 9223372036854775807) (lb : b.2.2.2.length ≤ 9223372036854775807)
    (hK : ∀ w', Qt w w' → K (.int .i64 (cmpV a b)) w') : CallK Tryd.prog 102 #[vv a A c, vv b B d] K w := by
  refine F102_calls _ _ _ _ ?_; unfold F102
  obtain ⟨q02, h1, h2⟩ := box8 w a b A B c d 121
  simp (maxSteps := 1000000) (disch := omega) only [genAll, decAll, tk_nil, st102]
  generalize ((w.alloc (.cells #[.int .i64 a.1, .int .i64 a.2.1, .string a.2.2.1, .slice A a.2.2.2.length c] 121)).alloc (.cells #[.int .i64 b.1, .int .i64 b.2.1, .string b.2.2.1, .slice B b.2.2.2.length d] 121)) = w2 at *
  generalize w.heap.size + 1 = b2 at *
  generalize w.heap.size = b1 at *
  have ha2 := ha.quiet q02
  have hb2 := hb.quiet q02
  have X := fun w' (q : Qt w2 w') => cell4 (q.heap h1 (fun h => h))
  have Y := fun w' (q : Qt w2 w') => cell4 (q.heap h2 (fun h => h))
  obtain ⟨x0, x1, x2, x3⟩ := X w2 Qt.refl
  obtain ⟨y0, y1, y2, y3⟩ := Y w2 Qt.refl
  have hf := fun w' (q : Qt w2 w') => hK w' (q02.trans q)
  rw [cmpV_eq] at hf
  by_cases hk : a.1 = b.1
  · have e1 : (a.1 != b.1) = false := by rw [hk]; exact bne_self_eq_false _
    rw [if_neg (show ¬ (a.1 ≠ b.1) from fun h => h hk)] at hf
    by_cases k1 : a.1 = 1
    · rw [if_pos k1] at hf
      have e2 : (a.1 == 1) = true := by rw [k1]; rfl
      simp (maxSteps := 1000000) (disch := omega) only [genAll, decAll, tk_nil, st102, x0, y0, e1, e2, x1, y1]
      refine ck82 (ord33 ?_)
      simp (maxSteps := 1000000) (disch := omega) only [genAll, decAll, tk_nil, st102]
      exact hf w2 Qt.refl
    · have n1 : (a.1 == 1) = false := beq_eq_false_iff_ne.2 k1
      rw [if_neg k1] at hf
      by_cases k2 : a.1 = 2
      · rw [if_pos k2] at hf
        have e2 : (a.1 == 2) = true := by rw [k2]; rfl
        simp (maxSteps := 1000000) (disch := omega) only [genAll, decAll, tk_nil, st102, x0, y0, e1, n1, e2, x2, y2]
        refine ck83 (ord34 ?_)
        simp (maxSteps := 1000000) (disch := omega) only [genAll, decAll, tk_nil, st102]
        exact hf w2 Qt.refl
      · have n2 : (a.1 == 2) = false := beq_eq_false_iff_ne.2 k2
        rw [if_neg k2] at hf
        by_cases k3 : a.1 = 3
        · rw [if_pos k3] at hf
          have e2 : (a.1 == 3) = true := by rw [k3]; rfl
          generalize a.2.2.2 = l at *
          generalize b.2.2.2 = m at *
          simp (maxSteps := 1000000) (disch := omega) only [genAll, decAll, tk_nil, st102, x0, y0, e1, n1, n2, e2]
          refine loopK1 (fun v w' => ∃ i : Nat, v = .int .i64 i ∧ i ≤ l.length ∧ i ≤ m.length ∧ cmpL (l.drop i) (m.drop i) = cmpL l m ∧ Qt w2 w') (fun v _ => l.length - (intOf v).toNat) ⟨0, rfl, by omega, by omega, rfl, Qt.refl⟩ ?_
          rintro _ _ w3 ⟨i, rfl, hi, him, hc, q3⟩
          obtain ⟨u0, u1, u2, u3⟩ := X w3 q3
          obtain ⟨v0, v1, v2, v3⟩ := Y w3 q3
          by_cases hlt : i < l.length
          · by_cases hmt : i < m.length
            · obtain ⟨bb, o, rfl, z1⟩ := int_at (ha2.quiet q3) hlt
              obtain ⟨bb2, o2, rfl, z2⟩ := int_at (hb2.quiet q3) hmt
              have Z1 : ∀ w', Qt w2 w' → w'.cell? ⟨bb, o + i, none⟩ = some (.int .i64 (l.getD i 0)) := fun w' q => by
                obtain ⟨_, _, e, h⟩ := int_at (ha2.quiet q) hlt
                cases e; exact h
              have Z2 : ∀ w', Qt w2 w' → w'.cell? ⟨bb2, o2 + i, none⟩ = some (.int .i64 (m.getD i 0)) := fun w' q => by
                obtain ⟨_, _, e, h⟩ := int_at (hb2.quiet q) hmt
                cases e; exact h
              rw [cmpL_step hlt hmt] at hc
              generalize l.getD i 0 = x at *
              generalize m.getD i 0 = y at *
              have kd : Qt w2 w3.drew := q3.trans (Qt.drew Qt.refl)
              simp (maxSteps := 1000000) (disch := omega) only [genAll, decAll, tk_nil, st102, u3, v3]
              refine drawK_by (fun w' => Qt w2 w') kd ?_
              refine take_field (.pointer (some ⟨b1, 3, none⟩)) (fun w' hq => by (simp (maxSteps := 1000000) (disch := omega) only [genAll, decAll, tk_nil, st102]; try (exact ⟨trivial, trivial⟩))) ?_
              refine take_load (.slice (some ⟨bb, o, none⟩) l.length c) (fun w' hq => by have h := (X w' hq).2.2.2; (simp (maxSteps := 1000000) (disch := omega) only [genAll, decAll, tk_nil, st102, h]; try (exact ⟨trivial, trivial⟩))) ?_
              refine take_index (.pointer (some ⟨bb, o + i, none⟩)) (fun w' hq => by (simp (maxSteps := 1000000) (disch := omega) only [genAll, decAll, tk_nil, st102]; try (exact ⟨trivial, trivial⟩))) ?_
              refine take_load (.int .i64 x) (fun w' hq => by have h := Z1 w' hq; (simp (maxSteps := 1000000) (disch := omega) only [genAll, decAll, tk_nil, st102, h]; try (exact ⟨trivial, trivial⟩))) ?_
              refine take_field (.pointer (some ⟨b2, 3, none⟩)) (fun w' hq => by (simp (maxSteps := 1000000) (disch := omega) only [genAll, decAll, tk_nil, st102]; try (exact ⟨trivial, trivial⟩))) ?_
              refine take_load (.slice (some ⟨bb2, o2, none⟩) m.length d) (fun w' hq => by have h := (Y w' hq).2.2.2; (simp (maxSteps := 1000000) (disch := omega) only [genAll, decAll, tk_nil, st102, h]; try (exact ⟨trivial, trivial⟩))) ?_
              refine take_index (.pointer (some ⟨bb2, o2 + i, none⟩)) (fun w' hq => by (simp (maxSteps := 1000000) (disch := omega) only [genAll, decAll, tk_nil, st102]; try (exact ⟨trivial, trivial⟩))) ?_
              refine take_load (.int .i64 y) (fun w' hq => by have h := Z2 w' hq; (simp (maxSteps := 1000000) (disch := omega) only [genAll, decAll, tk_nil, st102, h]; try (exact ⟨trivial, trivial⟩))) ?_
              by_cases hxy : x = y
              · have e4 : (x != y) = false := by rw [hxy]; exact bne_self_eq_false _
                rw [if_neg (by omega), if_neg (by omega)] at hc
                refine take_bin (.bool false) (fun w' _ => by simp (maxSteps := 1000000) (disch := omega) only [genAll, decAll, tk_nil, st102, e4, here_rfl]; try (exact ⟨trivial, trivial⟩)) ?_
                simp (maxSteps := 1000000) (disch := omega) only [genAll, decAll, tk_nil, st102]
                exact ⟨⟨i + 1, by go_num, by omega, by omega, hc, kd⟩, by simp [rel, intOf]; omega⟩
              · have e4 : (x != y) = true := by rw [bne_iff_ne]; exact hxy
                have e5 : cmpI x y = cmpL l m := by
                  rw [← hc]; unfold cmpI
                  by_cases h : x < y
                  · rw [if_pos h, if_pos h]
                  · rw [if_neg h, if_neg h, if_pos (by omega), if_pos (by omega)]
                refine take_bin (.bool true) (fun w' _ => by simp (maxSteps := 1000000) (disch := omega) only [genAll, decAll, tk_nil, st102, e4, here_rfl]; try (exact ⟨trivial, trivial⟩)) ?_
                have kd2 : Qt w2 w3.drew.drew := kd.trans (Qt.drew Qt.refl)
                simp (maxSteps := 1000000) (disch := omega) only [genAll, decAll, tk_nil, st102]
                refine drawK_by (fun w' => Qt w2 w') kd2 ?_
                refine take_field (.pointer (some ⟨b1, 3, none⟩)) (fun w' hq => by (simp (maxSteps := 1000000) (disch := omega) only [genAll, decAll, tk_nil, st102]; try (exact ⟨trivial, trivial⟩))) ?_
                refine take_load (.slice (some ⟨bb, o, none⟩) l.length c) (fun w' hq => by have h := (X w' hq).2.2.2; (simp (maxSteps := 1000000) (disch := omega) only [genAll, decAll, tk_nil, st102, h]; try (exact ⟨trivial, trivial⟩))) ?_
                refine take_index (.pointer (some ⟨bb, o + i, none⟩)) (fun w' hq => by (simp (maxSteps := 1000000) (disch := omega) only [genAll, decAll, tk_nil, st102]; try (exact ⟨trivial, trivial⟩))) ?_
                refine take_load (.int .i64 x) (fun w' hq => by have h := Z1 w' hq; (simp (maxSteps := 1000000) (disch := omega) only [genAll, decAll, tk_nil, st102, h]; try (exact ⟨trivial, trivial⟩))) ?_
                refine take_field (.pointer (some ⟨b2, 3, none⟩)) (fun w' hq => by (simp (maxSteps := 1000000) (disch := omega) only [genAll, decAll, tk_nil, st102]; try (exact ⟨trivial, trivial⟩))) ?_
                refine take_load (.slice (some ⟨bb2, o2, none⟩) m.length d) (fun w' hq => by have h := (Y w' hq).2.2.2; (simp (maxSteps := 1000000) (disch := omega) only [genAll, decAll, tk_nil, st102, h]; try (exact ⟨trivial, trivial⟩))) ?_
                refine take_index (.pointer (some ⟨bb2, o2 + i, none⟩)) (fun w' hq => by (simp (maxSteps := 1000000) (disch := omega) only [genAll, decAll, tk_nil, st102]; try (exact ⟨trivial, trivial⟩))) ?_
                refine take_load (.int .i64 y) (fun w' hq => by have h := Z2 w' hq; (simp (maxSteps := 1000000) (disch := omega) only [genAll, decAll, tk_nil, st102, h]; try (exact ⟨trivial, trivial⟩))) ?_
                refine ⟨ck82 (ord33 ?_), trivial⟩
                rw [e5]
                simp (maxSteps := 1000000) (disch := omega) only [genAll, decAll, tk_nil, st102]
                exact ⟨kd2, hf _ kd2⟩
            · have e5 : cmpI (l.length : Int) (m.length : Int) = cmpL l m := by
                rw [← hc, cmpL_out hlt (by omega)]
                unfold cmpI
                rw [if_neg (by omega), if_pos (by omega)]
              simp (maxSteps := 1000000) (disch := omega) only [genAll, decAll, tk_nil, st102, u3, v3]
              refine ck82 (ord33 ?_)
              rw [e5]
              simp (maxSteps := 1000000) (disch := omega) only [genAll, decAll, tk_nil, st102]
              exact hf w3 q3
          · have e5 : cmpI (l.length : Int) (m.length : Int) = cmpL l m := by
              rw [← hc, cmpL_end (by omega) him]
              unfold cmpI
              by_cases hmt : i < m.length
              · rw [if_pos (by omega), if_pos hmt]
              · rw [if_neg (by omega), if_neg (by omega), if_neg hmt]
            simp (maxSteps := 1000000) (disch := omega) only [genAll, decAll, tk_nil, st102, u3, v3, guardK_u]
            refine ck82 (ord33 ?_)
            rw [e5]
            simp (maxSteps := 1000000) (disch := omega) only [genAll, decAll, tk_nil, st102]
            exact hf w3 q3
        · have n3 : (a.1 == 3) = false := beq_eq_false_iff_ne.2 k3
          rw [if_neg k3] at hf
          simp (maxSteps := 1000000) (disch := omega) only [genAll, decAll, tk_nil, st102, x0, y0, e1, n1, n2, n3]
          exact hf w2 Qt.refl
  · rw [if_pos hk] at hf
    have e1 : (a.1 != b.1) = true := by rw [bne_iff_ne]; exact hk
    simp (maxSteps := 1000000) (disch := omega) only [genAll, decAll, tk_nil, st102, x0, y0, e1]
    refine ck82 (ord33 ?_)
    simp (maxSteps := 1000000) (disch := omega) only [genAll, decAll, tk_nil, st102]
    exact hf w2 Qt.refl
end Go.Proofs.YtpjeohellehgjaaDoor
end

section
/- Whether a value may be; by the program and by the document. Conditions: the rows read. -/
set_option linter.unusedVariables false
set_option linter.unusedSimpArgs false
set_option maxRecDepth 100000
namespace Go.Proofs.YtpjeohellehgjaaDoor
open Go.RowKit Go.Cn
theorem ix9c (l : List UInt8) (i : Int) (h : 0 ≤ i ∧ i < (l.length : Int)) (K : Value → World → Prop) (w : World) : ValK Tryd.prog (Instr.index 9 (.string (txt l)) (.int .i64 i)) K w = K (.int .u8 ((l.getD i.toNat 0).toNat : Int)) w := index_txt Tryd.underlying9 l .i64 i h K w
theorem all_pr (l : List UInt8) : l.all prB = true ↔ ∀ i, i < l.length → prB (l.getD i 0) = true := by
  rw [List.all_eq_true]
  constructor
  · intro h i hi
    have := h l[i] (List.getElem_mem hi)
    simpa [hi] using this
  · intro h x hx
    obtain ⟨i, hi, rfl⟩ := List.mem_iff_getElem.1 hx
    have := h i hi
    simpa [hi] using this
theorem all_up (l : List Int) : upL l = true ↔ ∀ i, i + 1 < l.length → l.getD i 0 < l.getD (i + 1) 0 := by
  unfold upL
  rw [List.all_eq_true]
  constructor
  · intro h i hi
    exact of_decide_eq_true (h i (List.mem_range.2 (by omega)))
  · intro h i hi
    exact decide_eq_true (h i (by have := List.mem_range.1 hi; omega))
theorem pr_iff (c : UInt8) : prB c = true ↔ 32 ≤ c.toNat ∧ c.toNat ≤ 126 ∧ c.toNat ≠ 34 := by simp [prB, and_assoc]
end Go.Proofs.YtpjeohellehgjaaDoor
end

section
/- Value's Check, the document's, Few, Of. Conditions: the rows read. -/
set_option linter.unusedVariables false
set_option linter.unusedSimpArgs false
set_option maxRecDepth 100000
namespace Go.Proofs.YtpjeohellehgjaaDoor
open Go.RowKit Go.Cn
set_option maxHeartbeats 1000000 in
theorem check11 {a : Val} {A : Option Addr} {c : Nat} {w : World} {K : Value → World → Prop} (ha : Reads w A (ints a.2.2.2)) (la : a.2.2.2.length ≤ 9223372036854775807) (ls : a.2.2.1.size ≤ 9223372036854775807)
    (hK : ∀ w', Qt w w' → K (.int .i64 (checkV a)) w') : CallK Tryd.prog 79 #[vv a A c] K w := by
  refine F79_calls _ _ _ ?_; unfold F79
  obtain ⟨q1, h1⟩ := box4 w a A c 121
  simp (maxSteps := 1000000) (disch := omega) only [genAll, decAll, tk_nil, st79]
  generalize (w.alloc (.cells #[.int .i64 a.1, .int .i64 a.2.1, .string a.2.2.1, .slice A a.2.2.2.length c] 121)) = w1 at *
  generalize w.heap.size = b1 at *
  have X := fun w' (q : Qt w1 w') => cell4 (q.heap h1 (fun h => h))
  obtain ⟨x0, x1, x2, x3⟩ := X w1 Qt.refl
  have ha1 := ha.quiet q1
  have hf := fun w' (q : Qt w1 w') => hK w' (q1.trans q)
  unfold checkV at hf
  by_cases k1 : a.1 = 1
  · rw [if_pos k1] at hf
    have e2 : (a.1 == 1) = true := by rw [k1]; rfl
    simp (maxSteps := 1000000) (disch := omega) only [genAll, decAll, tk_nil, st79, x0, e2]
    exact hf w1 Qt.refl
  · have n1 : (a.1 == 1) = false := beq_eq_false_iff_ne.2 k1
    rw [if_neg k1] at hf
    by_cases k2 : a.1 = 2
    · rw [if_pos k2] at hf
      have e2 : (a.1 == 2) = true := by rw [k2]; rfl
      obtain ⟨l, hl⟩ : ∃ l, a.2.2.1 = txt l := ⟨a.2.2.1.data.toList, (txt_list _).symm⟩
      rw [hl, txt_data] at hf
      rw [hl, txt_size] at ls
      rw [hl] at x2
      have hsz := txt_size l
      unfold textE at hf
      by_cases h64 : 64 < l.length
      · rw [if_pos h64] at hf
        simp (maxSteps := 1000000) (disch := omega) only [genAll, decAll, tk_nil, st79, x0, n1, e2, x2, hsz]
        exact hf w1 Qt.refl
      rw [if_neg h64] at hf
      simp (maxSteps := 1000000) (disch := omega) only [genAll, decAll, tk_nil, st79, x0, n1, e2, x2, hsz]
      refine loopK1 (fun v w' => w' = w1 ∧ ∃ i : Nat, v = .int .i64 i ∧ i ≤ l.length ∧ ∀ j, j < i → prB (l.getD j 0) = true) (fun v _ => l.length - (intOf v).toNat) ⟨rfl, 0, rfl, by omega, fun j h => by omega⟩ ?_
      rintro _ _ w2 ⟨hw, i, rfl, hi, hlo⟩
      obtain rfl : w2 = w1 := hw
      by_cases hlt : i < l.length
      · have hbad : ¬ (32 ≤ (l.getD i 0).toNat ∧ (l.getD i 0).toNat ≤ 126 ∧ (l.getD i 0).toNat ≠ 34) → ¬ l.all prB = true := fun h e => h ((pr_iff _).1 ((all_pr l).1 e i hlt))
        by_cases g1 : (l.getD i 0).toNat < 32
        · rw [if_neg (hbad (by omega))] at hf
          simp (maxSteps := 1000000) (disch := omega) only [genAll, decAll, tk_nil, st79, x2, hsz, ix9, guardK_u]
          exact hf _ Qt.refl
        · by_cases g2 : 126 < (l.getD i 0).toNat
          · rw [if_neg (hbad (by omega))] at hf
            simp (maxSteps := 1000000) (disch := omega) only [genAll, decAll, tk_nil, st79, x2, hsz, ix9, guardK_u]
            exact hf _ Qt.refl
          · by_cases g3 : (l.getD i 0).toNat = 34
            · rw [if_neg (hbad (by omega))] at hf
              have e3 : (((l.getD i 0).toNat : Int) == 34) = true := by rw [g3]; rfl
              simp (maxSteps := 1000000) (disch := omega) only [genAll, decAll, tk_nil, st79, x2, hsz, ix9, e3]
              exact hf _ Qt.refl
            · have e3 : (((l.getD i 0).toNat : Int) == 34) = false := by rw [beq_eq_false_iff_ne]; omega
              simp (maxSteps := 1000000) (disch := omega) only [genAll, decAll, tk_nil, st79, x2, hsz, ix9, e3]
              refine ⟨⟨rfl, i + 1, by go_num, by omega, fun j hj => ?_⟩, by simp [rel, intOf]; omega⟩
              by_cases e : j = i
              · subst e; exact (pr_iff _).2 ⟨by omega, by omega, g3⟩
              · exact hlo j (by omega)
      · rw [if_pos ((all_pr l).2 (fun j hj => hlo j (by omega)))] at hf
        simp (maxSteps := 1000000) (disch := omega) only [genAll, decAll, tk_nil, st79, x2, hsz]
        exact hf _ Qt.refl
    · have n2 : (a.1 == 2) = false := beq_eq_false_iff_ne.2 k2
      rw [if_neg k2] at hf
      by_cases k3 : a.1 = 3
      · rw [if_pos k3] at hf
        have e2 : (a.1 == 3) = true := by rw [k3]; rfl
        generalize a.2.2.2 = l at *
        unfold listE at hf
        by_cases h16 : 16 < l.length
        · rw [if_pos h16] at hf
          simp (maxSteps := 1000000) (disch := omega) only [genAll, decAll, tk_nil, st79, x0, n1, n2, e2, x3]
          exact hf w1 Qt.refl
        rw [if_neg h16] at hf
        simp (maxSteps := 1000000) (disch := omega) only [genAll, decAll, tk_nil, st79, x0, n1, n2, e2, x3]
        refine loopK1 (fun v w' => ∃ i : Nat, v = .int .i64 ((i : Int) + 1) ∧ (i + 1 ≤ l.length ∨ l.length = 0 ∧ i = 0) ∧ (∀ j, j < i → l.getD j 0 < l.getD (j + 1) 0) ∧ Qt w1 w') (fun v _ => l.length + 1 - (intOf v).toNat) ⟨0, rfl, by omega, fun j h => by omega, Qt.refl⟩ ?_
        rintro _ _ w2 ⟨i, rfl, hi, hlo, q2⟩
        obtain ⟨u0, u1, u2, u3⟩ := X w2 q2
        by_cases hlt : i + 1 < l.length
        · obtain ⟨b, o, rfl, z1⟩ := int_at (ha1.quiet q2) hlt
          have Z0 : ∀ w', Qt w1 w' → w'.cell? ⟨b, o + i, none⟩ = some (.int .i64 (l.getD i 0)) := fun w' q => by
            obtain ⟨_, _, e, h⟩ := int_at (ha1.quiet q) (show i < l.length by omega)
            cases e; exact h
          have Z1 : ∀ w', Qt w1 w' → w'.cell? ⟨b, o + (i + 1), none⟩ = some (.int .i64 (l.getD (i + 1) 0)) := fun w' q => by
            obtain ⟨_, _, e, h⟩ := int_at (ha1.quiet q) hlt
            cases e; exact h
          have kd : Qt w1 w2.drew := q2.trans (Qt.drew Qt.refl)
          have hlo' : l.getD i 0 < l.getD (i + 1) 0 → ∀ j, j < i + 1 → l.getD j 0 < l.getD (j + 1) 0 := fun h j hj => by
            by_cases e : j = i
            · subst e; exact h
            · exact hlo j (by omega)
          have hbad : ¬ l.getD i 0 < l.getD (i + 1) 0 → ¬ upL l = true := fun h e => h ((all_up l).1 e i hlt)
          have hT : ((i : Int) + 1).toNat = i + 1 := by omega
          generalize l.getD i 0 = x at *
          generalize l.getD (i + 1) 0 = y at *
          simp (maxSteps := 1000000) (disch := omega) only [genAll, decAll, tk_nil, st79, u3]
          refine drawK_by (fun w' => Qt w1 w') kd ?_
          refine take_field (.pointer (some ⟨b1, 3, none⟩)) (fun w' hq => by (simp (maxSteps := 1000000) (disch := omega) only [genAll, decAll, tk_nil, st79]; try (exact ⟨trivial, trivial⟩))) ?_
          refine take_load (.slice (some ⟨b, o, none⟩) l.length c) (fun w' hq => by have h := (X w' hq).2.2.2; (simp (maxSteps := 1000000) (disch := omega) only [genAll, decAll, tk_nil, st79, h]; try (exact ⟨trivial, trivial⟩))) ?_
          refine take_bin (.int .i64 i) (fun w' _ => by simp (maxSteps := 1000000) (disch := omega) only [genAll, decAll, tk_nil, st79, Int.add_sub_cancel, here_rfl]; try (exact ⟨trivial, trivial⟩)) ?_
          refine take_index (.pointer (some ⟨b, o + i, none⟩)) (fun w' hq => by (simp (maxSteps := 1000000) (disch := omega) only [genAll, decAll, tk_nil, st79]; try (exact ⟨trivial, trivial⟩))) ?_
          refine take_load (.int .i64 x) (fun w' hq => by have h := Z0 w' hq; (simp (maxSteps := 1000000) (disch := omega) only [genAll, decAll, tk_nil, st79, h]; try (exact ⟨trivial, trivial⟩))) ?_
          refine take_field (.pointer (some ⟨b1, 3, none⟩)) (fun w' hq => by (simp (maxSteps := 1000000) (disch := omega) only [genAll, decAll, tk_nil, st79]; try (exact ⟨trivial, trivial⟩))) ?_
          refine take_load (.slice (some ⟨b, o, none⟩) l.length c) (fun w' hq => by have h := (X w' hq).2.2.2; (simp (maxSteps := 1000000) (disch := omega) only [genAll, decAll, tk_nil, st79, h]; try (exact ⟨trivial, trivial⟩))) ?_
          refine take_index (.pointer (some ⟨b, o + (i + 1), none⟩)) (fun w' hq => by (simp (maxSteps := 1000000) (disch := omega) only [genAll, decAll, tk_nil, st79, hT]; try (exact ⟨trivial, trivial⟩))) ?_
          refine take_load (.int .i64 y) (fun w' hq => by have h := Z1 w' hq; (simp (maxSteps := 1000000) (disch := omega) only [genAll, decAll, tk_nil, st79, h]; try (exact ⟨trivial, trivial⟩))) ?_
          by_cases hxy : x < y
          · refine take_bin (.bool false) (fun w' _ => by simp (maxSteps := 1000000) (disch := omega) only [genAll, decAll, tk_nil, st79, here_rfl]; try (exact ⟨trivial, trivial⟩)) ?_
            simp (maxSteps := 1000000) (disch := omega) only [genAll, decAll, tk_nil, st79]
            exact ⟨⟨i + 1, by go_num, by omega, hlo' hxy, kd⟩, by simp [rel, intOf]; omega⟩
          · refine take_bin (.bool true) (fun w' _ => by simp (maxSteps := 1000000) (disch := omega) only [genAll, decAll, tk_nil, st79, here_rfl]; try (exact ⟨trivial, trivial⟩)) ?_
            rw [if_neg (hbad hxy)] at hf
            simp (maxSteps := 1000000) (disch := omega) only [genAll, decAll, tk_nil, st79]
            exact hf _ kd
        · rw [if_pos ((all_up l).2 (fun j hj => hlo j (by omega)))] at hf
          simp (maxSteps := 1000000) (disch := omega) only [genAll, decAll, tk_nil, st79, u3]
          exact hf w2 q2
      · have n3 : (a.1 == 3) = false := beq_eq_false_iff_ne.2 k3
        rw [if_neg k3] at hf
        simp (maxSteps := 1000000) (disch := omega) only [genAll, decAll, tk_nil, st79, x0, n1, n2, n3]
        exact hf w1 Qt.refl
theorem few10 {a : Val} {A : Option Addr} {c : Nat} {w : World} {K : Value → World → Prop} (hK : ∀ (b : Bool) w', Qt w w' → (b = true ↔ a.2.2.1.size ≤ 200 ∧ a.2.2.2.length ≤ 40) → K (.bool b) w') : CallK Tryd.prog 110 #[vv a A c] K w := by
  refine F110_calls _ _ _ ?_; unfold F110
  obtain ⟨q1, h1⟩ := box4 w a A c 126
  simp (maxSteps := 1000000) (disch := omega) only [genAll, decAll, tk_nil, st110]
  generalize (w.alloc (.cells #[.int .i64 a.1, .int .i64 a.2.1, .string a.2.2.1, .slice A a.2.2.2.length c] 126)) = w1 at *
  generalize w.heap.size = b1 at *
  obtain ⟨x0, x1, x2, x3⟩ := cell4 h1
  by_cases h2 : 200 < a.2.2.1.size
  · simp (maxSteps := 1000000) (disch := omega) only [genAll, decAll, tk_nil, st110, x2, guardK_u]
    exact hK false w1 q1 ⟨fun h => (by cases h), fun h => by omega⟩
  · by_cases h3 : 40 < a.2.2.2.length
    · simp (maxSteps := 1000000) (disch := omega) only [genAll, decAll, tk_nil, st110, x2, x3]
      exact hK false w1 q1 ⟨fun h => (by cases h), fun h => by omega⟩
    · simp (maxSteps := 1000000) (disch := omega) only [genAll, decAll, tk_nil, st110, x2, x3]
      exact hK true w1 q1 ⟨fun _ => ⟨by omega, by omega⟩, fun _ => rfl⟩
theorem there4 {w : World} {b : Nat} {t : TypeId} {a c d e : Value} {x y z u : Value} (h : w.heap[b]? = some (.cells #[a, c, d, e] t (0, 0))) : World.there w b 0 (#[x, y, z, u] : Array Value).size := fun j hj => by
  have hj : j < 4 := hj
  rw [Nat.zero_add, blk_cell h, blk_frozen h j]
  exact ⟨by rw [Array.getElem?_eq_getElem hj]; rfl, rfl⟩
theorem store4 {w : World} {b : Nat} {t : TypeId} {a c d e : Value} (x y z u : Value) (h : w.heap[b]? = some (.cells #[a, c, d, e] t (0, 0))) : (w.setCells b 0 [x, y, z, u]).heap[b]? = some (.cells #[x, y, z, u] t (0, 0)) ∧ Chg (fun q => q = b) w (w.setCells b 0 [x, y, z, u]) :=
  ⟨blk_setCells [x, y, z, u] 0 w _ h (Nat.le_refl 4), Chg.sets⟩
theorem all4 {x y z u : Value} (hx : x.oneCell' = true) (hy : y.oneCell' = true) (hz : z.oneCell' = true) (hu : u.oneCell' = true) : (#[x, y, z, u] : Array Value).all (·.oneCell') = true := by
  rw [← Array.all_toList]
  simp [hx, hy, hz, hu]
def zero4 : Obj := .cells #[.int .i64 0, .int .i64 0, .string ByteArray.empty, .slice none 0 0] 121
theorem of12 {a : Val} {A : Option Addr} {c : Nat} {w : World} {K : Value → World → Prop} (hK : ∀ w', Qt w w' → K (vv a A c) w') : CallK Tryd.prog 98 #[vv a A c] K w := by
  refine F98_calls _ _ _ ?_; unfold F98
  obtain ⟨q1, h1⟩ := box4 w a A c 126
  have hs : (w.alloc (.cells #[.int .i64 a.1, .int .i64 a.2.1, .string a.2.2.1, .slice A a.2.2.2.length c] 126)).heap.size = w.heap.size + 1 := size_alloc _ _
  simp (maxSteps := 1000000) (disch := omega) only [genAll, decAll, tk_nil, st98]
  generalize (w.alloc (.cells #[.int .i64 a.1, .int .i64 a.2.1, .string a.2.2.1, .slice A a.2.2.2.length c] 126)) = w1 at *
  have q2 : Qt w1 (w1.alloc (.cells #[.int .i64 0, .int .i64 0, .string ByteArray.empty, .slice none 0 0] 121)) := Chg.alloc Qt.refl _
  have h2 : (w1.alloc (.cells #[.int .i64 0, .int .i64 0, .string ByteArray.empty, .slice none 0 0] 121)).heap[w1.heap.size]? = some (.cells #[.int .i64 0, .int .i64 0, .string ByteArray.empty, .slice none 0 0] 121 (0, 0)) := blk_new _ _
  rw [hs] at h2
  generalize (w1.alloc (.cells #[.int .i64 0, .int .i64 0, .string ByteArray.empty, .slice none 0 0] 121)) = w2 at *
  obtain ⟨x0, x1, x2, x3⟩ := cell4 (q2.heap h1 (fun h => h))
  simp (maxSteps := 1000000) (disch := omega) only [genAll, decAll, tk_nil, st98, x0, x1, x2, x3]
  refine aggStoreK (there4 h2) (by kernel_rfl) (all4 rfl rfl rfl rfl) ?_
  obtain ⟨h3, k3⟩ := store4 (.int .i64 a.1) (.int .i64 a.2.1) (.string a.2.2.1) (.slice A a.2.2.2.length c) h2
  have q3 : Qt w (w2.setCells (w.heap.size + 1) 0 [.int .i64 a.1, .int .i64 a.2.1, .string a.2.2.1, .slice A a.2.2.2.length c]) := Qt.then (q1.trans q2) k3 (fun k hk => by omega)
  generalize (w2.setCells (w.heap.size + 1) 0 [.int .i64 a.1, .int .i64 a.2.1, .string a.2.2.1, .slice A a.2.2.2.length c]) = w3 at *
  obtain ⟨y0, y1, y2, y3⟩ := cell4 h3
  simp (maxSteps := 1000000) (disch := omega) only [genAll, decAll, tk_nil, st98, y0, y1, y2, y3]
  exact hK _ q3
end Go.Proofs.YtpjeohellehgjaaDoor
end

section
/- Stamps, of both packages: whether they may be, which is older; a stamp told over. Conditions: the origin's length. -/
set_option linter.unusedVariables false
set_option linter.unusedSimpArgs false
set_option maxRecDepth 100000
namespace Go.Proofs.YtpjeohellehgjaaDoor
open Go.RowKit Go.Cn
theorem newb (w : World) (C : Array Value) (t : TypeId) : Qt w (w.alloc (.cells C t)) ∧ (w.alloc (.cells C t)).heap[w.heap.size]? = some (.cells C t (0, 0)) ∧ (w.alloc (.cells C t)).heap.size = w.heap.size + 1 := ⟨Chg.alloc Qt.refl _, blk_new _ _, size_alloc _ _⟩
abbrev stV (s : Stm) : Value := .agg #[.int .i64 s.1, .int .i64 s.2.1, .int .i64 s.2.2.1, .string s.2.2.2]
theorem cellL_at {w : World} {b : Nat} {cs : List Value} {t : TypeId} (h : w.heap[b]? = some (.cells cs.toArray t (0, 0))) {i : Nat} (hi : i < cs.length) : w.cell? ⟨b, i, none⟩ = some cs[i] := by
  rw [blk_cell h]; simp [hi]
def orL : List Int → Int
  | [] => 0
  | a :: r => orI a (orL r)
theorem orL_four (x y z u : Int) : orI x (orI y (orI z u)) = orL [x, y, z, u] := by
  unfold orL orL orL orL orL orI
  by_cases h : u = 0 <;> simp [h]
theorem orL_at {l : List Int} {i : Nat} (hi : i < l.length) : orL (l.drop i) = orI (l.getD i 0) (orL (l.drop (i + 1))) := by
  rw [List.drop_eq_getElem_cons hi, orL]
  simp [hi]
theorem or4_any {x y z u : Int} {b : Nat} {t : TypeId} {w : World} {K : Value → World → Prop} (h3 : w.heap[b]? = some (.cells #[.int .i64 x, .int .i64 y, .int .i64 z, .int .i64 u] t (0, 0))) (hK : K (.int .i64 (orI x (orI y (orI z u)))) w) : CallK Tryd.prog 58 #[.slice (some ⟨b, 0, none⟩) 4 4] K w := by
  refine F58_calls _ _ _ ?_; unfold F58
  have fin := hK
  have h4 : (((4 : Nat)) : Int) = 4 := rfl
  simp (maxSteps := 1000000) (disch := omega) only [genAll, decAll, tk_nil, st58, h4]
  refine loopK1 (fun v w' => w' = w ∧ ∃ i : Nat, v = .int .i64 i ∧ i ≤ 4 ∧ orL [x, y, z, u] = orL ([x, y, z, u].drop i)) (fun v _ => 4 - (intOf v).toNat) ⟨rfl, 0, rfl, by omega, rfl⟩ ?_
  rintro _ _ w4 ⟨hw, i, rfl, hi, hlo⟩
  obtain rfl : w4 = w := hw
  have ho : orI x (orI y (orI z u)) = orL [x, y, z, u] := orL_four x y z u
  rw [ho] at fin
  by_cases hlt : i < 4
  · have hc := cellL_at (cs := [.int .i64 x, .int .i64 y, .int .i64 z, .int .i64 u]) h3 (show i < 4 from hlt)
    have hg : ([Value.int .i64 x, .int .i64 y, .int .i64 z, .int .i64 u] : List Value)[i]'(hlt) = .int .i64 (([x, y, z, u] : List Int).getD i 0) := by
      match i, hlt with
      | 0, _ => rfl
      | 1, _ => rfl
      | 2, _ => rfl
      | 3, _ => rfl
    rw [hg] at hc
    have hst := orL_at (l := [x, y, z, u]) (i := i) hlt
    rw [hst] at hlo
    generalize ([x, y, z, u] : List Int).getD i 0 = v at *
    by_cases hv : v = 0
    · simp (maxSteps := 1000000) (disch := omega) only [genAll, decAll, tk_nil, st58, hc]
      refine ⟨⟨rfl, i + 1, by go_num, by omega, ?_⟩, by simp [rel, intOf]; omega⟩
      rw [hlo, hv]; rfl
    · rw [hlo] at fin
      unfold orI at fin
      rw [if_pos hv] at fin
      simp (maxSteps := 1000000) (disch := omega) only [genAll, decAll, tk_nil, st58, hc]
      exact fin
  · obtain rfl : i = 4 := by omega
    rw [hlo] at fin
    simp (maxSteps := 1000000) (disch := omega) only [genAll, decAll, tk_nil, st58]
    exact fin
theorem part_any {l : List UInt8} {w : World} {K : Value → World → Prop} (hK : K (.bool (nameL l)) w) : CallK Tryd.prog 96 #[.string (txt l)] K w := by
  refine F96_calls _ _ _ ?_; unfold F96
  have hsz := txt_size l
  by_cases h0 : l = []
  · have e : nameL l = false := by subst h0; rfl
    rw [e] at hK
    have hb : decide (l = []) = true := decide_eq_true h0
    simp (maxSteps := 1000000) (disch := omega) only [genAll, decAll, tk_nil, st96, c0, eq_txt, hb]
    exact hK
  have hb : decide (l = []) = false := decide_eq_false h0
  have hpos : 0 < l.length := List.length_pos_iff.2 h0
  by_cases h8 : 8 < l.length
  · have e : nameL l = false := nameL_no (by omega)
    rw [e] at hK
    simp (maxSteps := 1000000) (disch := omega) only [genAll, decAll, tk_nil, st96, c0, eq_txt, hb, hsz]
    exact hK
  by_cases h97 : (l.getD 0 0).toNat < 97
  · have e : nameL l = false := nameL_no (by omega)
    rw [e] at hK
    simp (maxSteps := 1000000) (disch := omega) only [genAll, decAll, tk_nil, st96, c0, eq_txt, hb, hsz, ix9]
    exact hK
  simp (maxSteps := 1000000) (disch := omega) only [genAll, decAll, tk_nil, st96, c0, eq_txt, hb, hsz, ix9]
  refine loopK1 (fun v w' => w' = w ∧ ∃ i : Nat, v = .int .i64 i ∧ i ≤ l.length ∧ ∀ j, j < i → (97 ≤ (l.getD j 0).toNat ∧ (l.getD j 0).toNat ≤ 122) ∨ (48 ≤ (l.getD j 0).toNat ∧ (l.getD j 0).toNat ≤ 57)) (fun v _ => l.length - (intOf v).toNat) ⟨rfl, 0, rfl, by omega, fun j h => by omega⟩ ?_
  rintro _ _ w' ⟨hw, i, rfl, hi, hlo⟩
  obtain rfl : w' = w := hw
  by_cases hlt : i < l.length
  · have bad : ¬ ((97 ≤ (l.getD i 0).toNat ∧ (l.getD i 0).toNat ≤ 122) ∨ (48 ≤ (l.getD i 0).toNat ∧ (l.getD i 0).toNat ≤ 57)) → K (.bool false) w' := fun hn => by
      have e : nameL l = false := nameL_no (fun h => hn (h.2.2.2.2 i hlt))
      rw [e] at hK; exact hK
    have good : ((97 ≤ (l.getD i 0).toNat ∧ (l.getD i 0).toNat ≤ 122) ∨ (48 ≤ (l.getD i 0).toNat ∧ (l.getD i 0).toNat ≤ 57)) → ∀ j, j < i + 1 → (97 ≤ (l.getD j 0).toNat ∧ (l.getD j 0).toNat ≤ 122) ∨ (48 ≤ (l.getD j 0).toNat ∧ (l.getD j 0).toNat ≤ 57) := fun hg j hj => by
      by_cases e : j = i
      · subst e; exact hg
      · exact hlo j (by omega)
    by_cases ha : (l.getD i 0).toNat < 97
    · by_cases hb1 : (l.getD i 0).toNat < 48
      · simp (maxSteps := 1000000) (disch := omega) only [genAll, decAll, tk_nil, st96, ix9, hsz]
        exact bad (by omega)
      · by_cases hb2 : 57 < (l.getD i 0).toNat
        · simp (maxSteps := 1000000) (disch := omega) only [genAll, decAll, tk_nil, st96, ix9, hsz]
          exact bad (by omega)
        · simp (maxSteps := 1000000) (disch := omega) only [genAll, decAll, tk_nil, st96, ix9, hsz]
          exact ⟨⟨rfl, i + 1, by go_num, by omega, good (by omega)⟩, by simp [rel, intOf]; omega⟩
    · by_cases hb : 122 < (l.getD i 0).toNat
      · simp (maxSteps := 1000000) (disch := omega) only [genAll, decAll, tk_nil, st96, ix9, hsz]
        exact bad (by omega)
      · simp (maxSteps := 1000000) (disch := omega) only [genAll, decAll, tk_nil, st96, ix9, hsz]
        exact ⟨⟨rfl, i + 1, by go_num, by omega, good (by omega)⟩, by simp [rel, intOf]; omega⟩
  · simp (maxSteps := 1000000) (disch := omega) only [genAll, decAll, tk_nil, st96]
    have e : nameL l = true := (nameL_iff l).2 ⟨by omega, by omega, by omega, by
      rcases hlo 0 (by omega) with h | h
      · exact h.2
      · omega, fun j hj => hlo j (by omega)⟩
    rw [e] at hK
    exact hK
theorem in_any {n : Int} {w : World} {K : Value → World → Prop} (hK : K (.bool (inT n)) w) : CallK Tryd.prog 76 #[.int .i64 n] K w := by
  refine F76_calls _ _ _ ?_; unfold F76
  unfold inT at hK
  by_cases h1 : 0 ≤ n
  · by_cases h2 : n ≤ 1000000000
    · rw [decide_eq_true h1, decide_eq_true h2] at hK
      simp (maxSteps := 1000000) (disch := omega) only [genAll, decAll, tk_nil, st76]
      exact hK
    · rw [decide_eq_true h1, decide_eq_false h2] at hK
      simp (maxSteps := 1000000) (disch := omega) only [genAll, decAll, tk_nil, st76]
      exact hK
  · rw [decide_eq_false h1] at hK
    simp (maxSteps := 1000000) (disch := omega) only [genAll, decAll, tk_nil, st76, guardK_u]
    exact hK
theorem inR_any {n : Int} {w : World} {K : Value → World → Prop} (hK : K (.bool (inT n)) w) : CallK Tryd.prog 74 #[.int .i64 n] K w := by
  refine F74_calls _ _ _ ?_; unfold F74
  unfold inT at hK
  by_cases h1 : 0 ≤ n
  · by_cases h2 : n ≤ 1000000000
    · rw [decide_eq_true h1, decide_eq_true h2] at hK
      simp (maxSteps := 1000000) (disch := omega) only [genAll, decAll, tk_nil, st74]
      exact hK
    · rw [decide_eq_true h1, decide_eq_false h2] at hK
      simp (maxSteps := 1000000) (disch := omega) only [genAll, decAll, tk_nil, st74]
      exact hK
  · rw [decide_eq_false h1] at hK
    simp (maxSteps := 1000000) (disch := omega) only [genAll, decAll, tk_nil, st74, guardK_u]
    exact hK
theorem nodeB_split (l : List UInt8) : nodeB l = (decide (l.headD 0 = 47) && ((splitL l.tail).all nameL && decide ((splitL l.tail).length ≤ 4))) := by
  cases l with
  | nil => rfl
  | cons c r =>
    unfold nodeB parseL cutL
    by_cases hc : c = 47
    · subst hc
      by_cases hr : r = []
      · subst hr; rfl
      · have e : decide ((47 : UInt8) :: r ≠ [47]) = true := by simp [hr]
        simp only [if_true, if_neg hr, e, Bool.and_true, List.headD_cons, List.tail_cons, decide_true, Bool.true_and]
        cases ha : (splitL r).all nameL with
        | false => simp
        | true =>
          simp only [Bool.true_eq_false, if_false, Bool.true_and]
          by_cases h4 : 4 < (splitL r).length
          · have e : decide ((splitL r).length ≤ 4) = false := decide_eq_false (by omega)
            rw [if_pos h4]; exact (show decide ((4 : Int) = 0) = false from rfl).trans e.symm
          · have e : decide ((splitL r).length ≤ 4) = true := decide_eq_true (by omega)
            rw [if_neg h4]; exact (show decide ((0 : Int) = 0) = true from rfl).trans e.symm
    · simp [hc]
theorem pathS_any {l : List UInt8} {w : World} {K : Value → World → Prop} (hl : l.length ≤ 20000) (hm : MaxAt w)
    (hK : ∀ w', Qt w w' → K (.bool (nodeB l)) w') : CallK Tryd.prog 77 #[.string (txt l)] K w := by
  refine F77_calls _ _ _ ?_; unfold F77
  simp (maxSteps := 1000000) (disch := omega) only [genAll, decAll, tk_nil, st77, c47]
  refine ck94 (cutPrefix_any ?_)
  rw [nodeB_split] at hK
  by_cases hh : l.headD 0 = 47
  · rw [decide_eq_true hh, if_pos hh]
    rw [decide_eq_true hh, Bool.true_and] at hK
    simp (maxSteps := 1000000) (disch := omega) only [genAll, decAll, tk_nil, st77, c47]
    obtain ⟨m, hm⟩ := hm
    have htl : l.tail.length ≤ 20000 := by simp; omega
    refine split_any (by omega) hm ?_
    intro g w2 o2 q2 hg
    have hsl := splitL_len l.tail
    generalize splitL l.tail = ps at *
    have r2 := Reads.of_own o2
    simp (maxSteps := 1000000) (disch := omega) only [genAll, decAll, tk_nil, st77]
    refine loopK1 (fun v w' => w' = w2 ∧ ∃ i : Nat, v = .int .i64 i ∧ i ≤ ps.length ∧ (ps.take i).all nameL = true) (fun v _ => ps.length - (intOf v).toNat) ⟨rfl, 0, rfl, by omega, rfl⟩ ?_
    rintro _ _ w3 ⟨hw, i, rfl, hi, hlo⟩
    obtain rfl : w3 = w2 := hw
    by_cases hlt : i < ps.length
    · obtain ⟨g', o', he, hc⟩ := strs_at r2 hlt
      cases he
      rw [Nat.zero_add] at hc
      have htk : ps.take (i + 1) = ps.take i ++ [ps[i]] := List.take_succ_eq_append_getElem hlt
      have hmem := List.getElem_mem hlt
      generalize ps[i] = p at *
      simp (maxSteps := 1000000) (disch := omega) only [genAll, decAll, tk_nil, st77, hc]
      refine ck96 (part_any ?_)
      cases hp : nameL p with
      | true =>
        simp (maxSteps := 1000000) (disch := omega) only [genAll, decAll, tk_nil, st77]
        refine ⟨⟨rfl, i + 1, by go_num, by omega, ?_⟩, by simp [rel, intOf]; omega⟩
        rw [htk, List.all_append, hlo]; simp [hp]
      | false =>
        have hany : ps.all nameL = false := by
          cases h : ps.all nameL with
          | false => rfl
          | true => rw [List.all_eq_true.1 h p hmem] at hp; cases hp
        rw [hany, Bool.false_and] at hK
        simp (maxSteps := 1000000) (disch := omega) only [genAll, decAll, tk_nil, st77]
        exact hK w3 q2
    · rw [List.take_of_length_le (by omega)] at hlo
      rw [hlo, Bool.true_and] at hK
      by_cases h4 : ps.length ≤ 4
      · rw [decide_eq_true h4] at hK
        simp (maxSteps := 1000000) (disch := omega) only [genAll, decAll, tk_nil, st77]
        exact hK w3 q2
      · rw [decide_eq_false h4] at hK
        simp (maxSteps := 1000000) (disch := omega) only [genAll, decAll, tk_nil, st77]
        exact hK w3 q2
  · rw [decide_eq_false hh]
    rw [decide_eq_false hh, Bool.false_and] at hK
    simp (maxSteps := 1000000) (disch := omega) only [genAll, decAll, tk_nil, st77]
    exact hK w Qt.refl
set_option maxHeartbeats 1000000 in
theorem checkS_any {s : Stm} {w : World} {K : Value → World → Prop} (hl : s.2.2.2.size ≤ 20000) (hm : MaxAt w)
    (hK : ∀ w', Qt w w' → K (.int .i64 (checkS s)) w') : CallK Tryd.prog 41 #[stV s] K w := by
  refine F41_calls _ _ _ ?_; unfold F41
  obtain ⟨q1, h1, s1⟩ := newb w #[.int .i64 s.1, .int .i64 s.2.1, .int .i64 s.2.2.1, .string s.2.2.2] 52
  unfold checkS at hK
  simp (maxSteps := 1000000) (disch := omega) only [genAll, decAll, tk_nil, st41]
  generalize (w.alloc (.cells #[.int .i64 s.1, .int .i64 s.2.1, .int .i64 s.2.2.1, .string s.2.2.2] 52)) = w1 at *
  obtain ⟨x0, x1, x2, x3⟩ := cell4 h1
  rw [← txt_list s.2.2.2] at x3 hl
  rw [txt_size] at hl
  generalize s.2.2.2.data.toList = o at *
  simp (maxSteps := 1000000) (disch := omega) only [genAll, decAll, tk_nil, st41, x0]
  refine ck76 (in_any ?_)
  cases e1 : inT s.1 with
  | false =>
    simp only [e1, Bool.false_and, if_true] at hK
    simp (maxSteps := 1000000) (disch := omega) only [genAll, decAll, tk_nil, st41, guardK_u]
    exact hK w1 q1
  | true =>
  simp (maxSteps := 1000000) (disch := omega) only [genAll, decAll, tk_nil, st41, x1]
  refine ck76 (in_any ?_)
  cases e2 : inT s.2.1 with
  | false =>
    simp only [e1, e2, Bool.false_and, Bool.and_false, if_true] at hK
    simp (maxSteps := 1000000) (disch := omega) only [genAll, decAll, tk_nil, st41, guardK_u]
    exact hK w1 q1
  | true =>
  simp (maxSteps := 1000000) (disch := omega) only [genAll, decAll, tk_nil, st41, x2]
  refine ck76 (in_any ?_)
  cases e3 : inT s.2.2.1 with
  | false =>
    simp only [e1, e2, e3, Bool.and_false, if_true] at hK
    simp (maxSteps := 1000000) (disch := omega) only [genAll, decAll, tk_nil, st41, guardK_u]
    exact hK w1 q1
  | true =>
  simp only [e1, e2, e3, Bool.and_true, Bool.true_eq_false, if_false] at hK
  simp (maxSteps := 1000000) (disch := omega) only [genAll, decAll, tk_nil, st41, x3]
  refine ck77 (pathS_any (l := o) hl (hm.quiet q1) ?_)
  intro w2 q2
  cases e4 : nodeB o with
  | false =>
    simp only [e4, if_true] at hK
    simp (maxSteps := 1000000) (disch := omega) only [genAll, decAll, tk_nil, st41]
    exact hK w2 (q1.trans q2)
  | true =>
    simp only [e4, Bool.true_eq_false, if_false] at hK
    simp (maxSteps := 1000000) (disch := omega) only [genAll, decAll, tk_nil, st41]
    exact hK w2 (q1.trans q2)
set_option maxHeartbeats 1000000 in
theorem nodeR_B {l : List UInt8} {w : World} {K : Value → World → Prop} (hl : l.length ≤ 20000) (hK : ∀ w', Qt w w' → K (.bool (nodeB l)) w') : CallK Tryd.prog 71 #[.string (txt l)] K w := nodeR_any (by omega) hK
set_option maxHeartbeats 1000000 in
theorem checkSR_any {s : Stm} {w : World} {K : Value → World → Prop} (hl : s.2.2.2.size ≤ 20000)
    (hK : ∀ w', Qt w w' → K (.int .i64 (checkS s)) w') : CallK Tryd.prog 36 #[stV s] K w := by
  refine F36_calls _ _ _ ?_; unfold F36
  obtain ⟨q1, h1, s1⟩ := newb w #[.int .i64 s.1, .int .i64 s.2.1, .int .i64 s.2.2.1, .string s.2.2.2] 38
  unfold checkS at hK
  simp (maxSteps := 1000000) (disch := omega) only [genAll, decAll, tk_nil, st36]
  generalize (w.alloc (.cells #[.int .i64 s.1, .int .i64 s.2.1, .int .i64 s.2.2.1, .string s.2.2.2] 38)) = w1 at *
  obtain ⟨x0, x1, x2, x3⟩ := cell4 h1
  rw [← txt_list s.2.2.2] at x3 hl
  rw [txt_size] at hl
  generalize s.2.2.2.data.toList = o at *
  simp (maxSteps := 1000000) (disch := omega) only [genAll, decAll, tk_nil, st36, x0]
  refine ck74 (inR_any ?_)
  cases e1 : inT s.1 with
  | false =>
    simp only [e1, Bool.false_and, if_true] at hK
    simp (maxSteps := 1000000) (disch := omega) only [genAll, decAll, tk_nil, st36, guardK_u]
    exact hK w1 q1
  | true =>
  simp (maxSteps := 1000000) (disch := omega) only [genAll, decAll, tk_nil, st36, x1]
  refine ck74 (inR_any ?_)
  cases e2 : inT s.2.1 with
  | false =>
    simp only [e1, e2, Bool.false_and, Bool.and_false, if_true] at hK
    simp (maxSteps := 1000000) (disch := omega) only [genAll, decAll, tk_nil, st36, guardK_u]
    exact hK w1 q1
  | true =>
  simp (maxSteps := 1000000) (disch := omega) only [genAll, decAll, tk_nil, st36, x2]
  refine ck74 (inR_any ?_)
  cases e3 : inT s.2.2.1 with
  | false =>
    simp only [e1, e2, e3, Bool.and_false, if_true] at hK
    simp (maxSteps := 1000000) (disch := omega) only [genAll, decAll, tk_nil, st36, guardK_u]
    exact hK w1 q1
  | true =>
  simp only [e1, e2, e3, Bool.and_true, Bool.true_eq_false, if_false] at hK
  simp (maxSteps := 1000000) (disch := omega) only [genAll, decAll, tk_nil, st36, x3]
  refine ck71 (nodeR_B hl ?_)
  intro w2 q2
  cases e4 : nodeB o with
  | false =>
    simp only [e4, if_true] at hK
    simp (maxSteps := 1000000) (disch := omega) only [genAll, decAll, tk_nil, st36]
    exact hK w2 (q1.trans q2)
  | true =>
    simp only [e4, Bool.true_eq_false, if_false] at hK
    simp (maxSteps := 1000000) (disch := omega) only [genAll, decAll, tk_nil, st36]
    exact hK w2 (q1.trans q2)
set_option maxHeartbeats 2000000 in
theorem cmpSt_any {a b : Stm} {w : World} {K : Value → World → Prop}
    (hK : ∀ w', Qt w w' → K (.int .i64 (cmpStm a b)) w') : CallK Tryd.prog 26 #[stV a, stV b] K w := by
  refine F26_calls _ _ _ _ ?_; unfold F26
  obtain ⟨q1, h1, s1⟩ := newb w #[.int .i64 a.1, .int .i64 a.2.1, .int .i64 a.2.2.1, .string a.2.2.2] 52
  simp (maxSteps := 1000000) (disch := omega) only [genAll, decAll, tk_nil, st26]
  generalize (w.alloc (.cells #[.int .i64 a.1, .int .i64 a.2.1, .int .i64 a.2.2.1, .string a.2.2.2] 52)) = w1 at *
  obtain ⟨q2, h2, s2⟩ := newb w1 #[.int .i64 b.1, .int .i64 b.2.1, .int .i64 b.2.2.1, .string b.2.2.2] 52
  generalize (w1.alloc (.cells #[.int .i64 b.1, .int .i64 b.2.1, .int .i64 b.2.2.1, .string b.2.2.2] 52)) = w2 at *
  rw [s1] at h2
  have X := fun w' (q : Quiets w2 w') => cell4 ((Chg.trans q2 q).heap h1 (fun h => h))
  have Y := fun w' (q : Quiets w2 w') => cell4 (Chg.heap q h2 (fun h => h))
  have q02 := q1.trans q2
  generalize w.heap.size = g at *
  have qd : Qt w2 w2.drew := Qt.drew Qt.refl
  refine drawQ w2 qd ?_
  generalize w2.drew = wd at *
  simp (maxSteps := 1000000) (disch := omega) only [genAll, decAll, tk_nil, st26, qkld2 (fun w' q => (X w' q).1), qkld2 (fun w' q => (X w' q).2.1), qkld2 (fun w' q => (X w' q).2.2.1), qkld9 (fun w' q => (X w' q).2.2.2), qkld2 (fun w' q => (Y w' q).1), qkld2 (fun w' q => (Y w' q).2.1), qkld2 (fun w' q => (Y w' q).2.2.1), qkld9 (fun w' q => (Y w' q).2.2.2)]
  refine ⟨?_, trivial⟩
  refine ck59 (cmp36 ?_)
  simp (maxSteps := 1000000) (disch := omega) only [genAll, decAll, tk_nil, st26]
  refine ⟨qd, ?_, trivial⟩
  refine ck59 (cmp36 ?_)
  simp (maxSteps := 1000000) (disch := omega) only [genAll, decAll, tk_nil, st26]
  refine ⟨qd, ?_, trivial⟩
  refine ck59 (cmp36 ?_)
  simp (maxSteps := 1000000) (disch := omega) only [genAll, decAll, tk_nil, st26]
  refine ⟨qd, ?_, trivial⟩
  refine ck40 (cmp37 ?_)
  simp (maxSteps := 1000000) (disch := omega) only [genAll, decAll, tk_nil, st26]
  refine ⟨qd, ?_⟩
  have fin := fun w' (q : Qt wd w') => hK w' (q02.trans (qd.trans q))
  unfold cmpStm at fin
  generalize cmpI a.1 b.1 = x at *
  generalize cmpI a.2.1 b.2.1 = y at *
  generalize cmpI a.2.2.1 b.2.2.1 = z at *
  generalize cmpS a.2.2.2 b.2.2.2 = u at *
  obtain ⟨q3, h3, s3⟩ := newb wd #[.int .i64 x, .int .i64 y, .int .i64 z, .int .i64 u] 3
  generalize (wd.alloc (.cells #[.int .i64 x, .int .i64 y, .int .i64 z, .int .i64 u] 3)) = w3 at *
  generalize wd.heap.size = b3 at *
  refine ⟨⟨qd.trans q3, ?_, trivial⟩, trivial⟩
  refine ck58 (or4_any h3 ?_)
  simp (maxSteps := 1000000) (disch := omega) only [genAll, decAll, tk_nil, st26]
  exact ⟨qd.trans q3, fin _ q3⟩
set_option maxHeartbeats 2000000 in
theorem cmpStR_any {a b : Stm} {w : World} {K : Value → World → Prop}
    (hK : ∀ w', Qt w w' → K (.int .i64 (cmpStm a b)) w') : CallK Tryd.prog 53 #[stV a, stV b] K w := by
  refine F53_calls _ _ _ _ ?_; unfold F53
  obtain ⟨q1, h1, s1⟩ := newb w #[.int .i64 a.1, .int .i64 a.2.1, .int .i64 a.2.2.1, .string a.2.2.2] 38
  simp (maxSteps := 1000000) (disch := omega) only [genAll, decAll, tk_nil, st53]
  generalize (w.alloc (.cells #[.int .i64 a.1, .int .i64 a.2.1, .int .i64 a.2.2.1, .string a.2.2.2] 38)) = w1 at *
  obtain ⟨q2, h2, s2⟩ := newb w1 #[.int .i64 b.1, .int .i64 b.2.1, .int .i64 b.2.2.1, .string b.2.2.2] 38
  generalize (w1.alloc (.cells #[.int .i64 b.1, .int .i64 b.2.1, .int .i64 b.2.2.1, .string b.2.2.2] 38)) = w2 at *
  rw [s1] at h2
  have X := fun w' (q : Quiets w2 w') => cell4 ((Chg.trans q2 q).heap h1 (fun h => h))
  have Y := fun w' (q : Quiets w2 w') => cell4 (Chg.heap q h2 (fun h => h))
  have q02 := q1.trans q2
  generalize w.heap.size = g at *
  have qd : Qt w2 w2.drew := Qt.drew Qt.refl
  refine drawQ w2 qd ?_
  generalize w2.drew = wd at *
  simp (maxSteps := 1000000) (disch := omega) only [genAll, decAll, tk_nil, st53, qkld2 (fun w' q => (X w' q).1), qkld2 (fun w' q => (X w' q).2.1), qkld2 (fun w' q => (X w' q).2.2.1), qkld9 (fun w' q => (X w' q).2.2.2), qkld2 (fun w' q => (Y w' q).1), qkld2 (fun w' q => (Y w' q).2.1), qkld2 (fun w' q => (Y w' q).2.2.1), qkld9 (fun w' q => (Y w' q).2.2.2)]
  refine ⟨?_, trivial⟩
  refine ck82 (ord33 ?_)
  simp (maxSteps := 1000000) (disch := omega) only [genAll, decAll, tk_nil, st53]
  refine ⟨qd, ?_, trivial⟩
  refine ck82 (ord33 ?_)
  simp (maxSteps := 1000000) (disch := omega) only [genAll, decAll, tk_nil, st53]
  refine ⟨qd, ?_, trivial⟩
  refine ck82 (ord33 ?_)
  simp (maxSteps := 1000000) (disch := omega) only [genAll, decAll, tk_nil, st53]
  refine ⟨qd, ?_, trivial⟩
  refine ck83 (ord34 ?_)
  simp (maxSteps := 1000000) (disch := omega) only [genAll, decAll, tk_nil, st53]
  refine ⟨qd, ?_⟩
  have fin := fun w' (q : Qt wd w') => hK w' (q02.trans (qd.trans q))
  unfold cmpStm at fin
  generalize cmpI a.1 b.1 = x at *
  generalize cmpI a.2.1 b.2.1 = y at *
  generalize cmpI a.2.2.1 b.2.2.1 = z at *
  generalize cmpS a.2.2.2 b.2.2.2 = u at *
  obtain ⟨q3, h3, s3⟩ := newb wd #[.int .i64 x, .int .i64 y, .int .i64 z, .int .i64 u] 3
  generalize (wd.alloc (.cells #[.int .i64 x, .int .i64 y, .int .i64 z, .int .i64 u] 3)) = w3 at *
  generalize wd.heap.size = b3 at *
  refine ⟨⟨qd.trans q3, ?_⟩, trivial⟩
  refine loopK1 (fun v w' => w' = w3 ∧ ∃ i : Nat, v = .int .i64 i ∧ i ≤ 4 ∧ orL [x, y, z, u] = orL ([x, y, z, u].drop i)) (fun v _ => 4 - (intOf v).toNat) ⟨rfl, 0, rfl, by omega, rfl⟩ ?_
  rintro _ _ w4 ⟨hw, i, rfl, hi, hlo⟩
  obtain rfl : w4 = w3 := hw
  have ho : orI x (orI y (orI z u)) = orL [x, y, z, u] := orL_four x y z u
  rw [ho] at fin
  by_cases hlt : i < 4
  · have hc := cellL_at (cs := [.int .i64 x, .int .i64 y, .int .i64 z, .int .i64 u]) h3 (show i < 4 from hlt)
    have hg : ([Value.int .i64 x, .int .i64 y, .int .i64 z, .int .i64 u] : List Value)[i]'(hlt) = .int .i64 (([x, y, z, u] : List Int).getD i 0) := by
      match i, hlt with
      | 0, _ => rfl
      | 1, _ => rfl
      | 2, _ => rfl
      | 3, _ => rfl
    rw [hg] at hc
    have hst := orL_at (l := [x, y, z, u]) (i := i) hlt
    rw [hst] at hlo
    generalize ([x, y, z, u] : List Int).getD i 0 = v at *
    by_cases hv : v = 0
    · simp (maxSteps := 1000000) (disch := omega) only [genAll, decAll, tk_nil, st53, hc, guardK_u]
      refine ⟨⟨rfl, i + 1, by go_num, by omega, ?_⟩, by simp [rel, intOf]; omega⟩
      rw [hlo, hv]; rfl
    · rw [hlo] at fin
      unfold orI at fin
      rw [if_pos hv] at fin
      simp (maxSteps := 1000000) (disch := omega) only [genAll, decAll, tk_nil, st53, hc, guardK_u]
      exact fin _ q3
  · obtain rfl : i = 4 := by omega
    rw [hlo] at fin
    simp (maxSteps := 1000000) (disch := omega) only [genAll, decAll, tk_nil, st53]
    exact fin _ q3
theorem stOf_any {s : Stm} {w : World} {K : Value → World → Prop} (hK : ∀ w', Qt w w' → K (stV s) w') : CallK Tryd.prog 38 #[stV s] K w := by
  refine F38_calls _ _ _ ?_; unfold F38
  obtain ⟨q1, h1, s1⟩ := newb w #[.int .i64 s.1, .int .i64 s.2.1, .int .i64 s.2.2.1, .string s.2.2.2] 52
  simp (maxSteps := 1000000) (disch := omega) only [genAll, decAll, tk_nil, st38]
  generalize (w.alloc (.cells #[.int .i64 s.1, .int .i64 s.2.1, .int .i64 s.2.2.1, .string s.2.2.2] 52)) = w1 at *
  obtain ⟨q2, h2, s2⟩ := newb w1 #[.int .i64 0, .int .i64 0, .int .i64 0, .string ByteArray.empty] 38
  rw [s1] at h2
  generalize (w1.alloc (.cells #[.int .i64 0, .int .i64 0, .int .i64 0, .string ByteArray.empty] 38)) = w2 at *
  have q02 := q1.trans q2
  obtain ⟨x0, x1, x2, x3⟩ := cell4 (q2.heap h1 (fun h => h))
  simp (maxSteps := 1000000) (disch := omega) only [genAll, decAll, tk_nil, st38, x0, x1, x2, x3]
  refine aggStoreK (there4 h2) (by kernel_rfl) (all4 rfl rfl rfl rfl) ?_
  obtain ⟨h3, k3⟩ := store4 (.int .i64 s.1) (.int .i64 s.2.1) (.int .i64 s.2.2.1) (.string s.2.2.2) h2
  have q3 : Qt w (w2.setCells (w.heap.size + 1) 0 [.int .i64 s.1, .int .i64 s.2.1, .int .i64 s.2.2.1, .string s.2.2.2]) := Qt.then q02 k3 (fun k hk => by omega)
  generalize (w2.setCells (w.heap.size + 1) 0 [.int .i64 s.1, .int .i64 s.2.1, .int .i64 s.2.2.1, .string s.2.2.2]) = w3 at *
  obtain ⟨y0, y1, y2, y3⟩ := cell4 h3
  simp (maxSteps := 1000000) (disch := omega) only [genAll, decAll, tk_nil, st38, y0, y1, y2, y3]
  exact hK _ q3
end Go.Proofs.YtpjeohellehgjaaDoor
end
