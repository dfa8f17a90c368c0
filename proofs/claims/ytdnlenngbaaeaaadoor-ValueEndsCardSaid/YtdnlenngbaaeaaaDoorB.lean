/- Bit operations over words: for values that are a word's number. -/
import Derived.Test.YtdnlenngbaaeaaaDoorL3
import Derived.Test.YtdnlenngbaaeaaaDoorV2
import Derived.Laws.Bits64
import Derived.Laws.Bits64b
import Derived.Laws.BitsLemmas
import Derived.Laws.BytesArg
import Derived.Lib.AppendStr
set_option linter.unusedVariables false
set_option linter.unusedSimpArgs false
namespace Go.Cn
open Go.RowKit Go.Lib
theorem ofInt_toNat {n : Nat} (a : BitVec n) : BitVec.ofInt n (a.toNat : Int) = a := by
  apply BitVec.eq_of_toNat_eq
  simp [BitVec.toNat_ofInt]
theorem wrap_u32_word (a : BitVec 32) : IntKind.u32.wrap (a.toNat : Int) = a.toNat := by
  have := a.isLt
  simp [IntKind.wrap, IntKind.bits, IntKind.signed]; omega
theorem wrap_u64_word (a : BitVec 64) : IntKind.u64.wrap (a.toNat : Int) = a.toNat := by
  have := a.isLt
  simp [IntKind.wrap, IntKind.bits, IntKind.signed]; omega
theorem wrap_u8_word (a : BitVec 8) : IntKind.u8.wrap (a.toNat : Int) = a.toNat := by
  have := a.isLt
  simp [IntKind.wrap, IntKind.bits, IntKind.signed]; omega
theorem xor_u32 (a b : BitVec 32) : bits .xor .u32 a.toNat b.toNat = ((a ^^^ b).toNat : Int) := by
  show IntKind.u32.wrap (((BitVec.ofInt 32 (a.toNat : Int)) ^^^ (BitVec.ofInt 32 (b.toNat : Int))).toNat : Int) = _
  rw [ofInt_toNat, ofInt_toNat, wrap_u32_word]
theorem and_u32 (a b : BitVec 32) : bits .and .u32 a.toNat b.toNat = ((a &&& b).toNat : Int) := by
  show IntKind.u32.wrap (((BitVec.ofInt 32 (a.toNat : Int)) &&& (BitVec.ofInt 32 (b.toNat : Int))).toNat : Int) = _
  rw [ofInt_toNat, ofInt_toNat, wrap_u32_word]
theorem xor_u8 (a b : BitVec 8) : bits .xor .u8 a.toNat b.toNat = ((a ^^^ b).toNat : Int) := by
  show IntKind.u8.wrap (((BitVec.ofInt 8 (a.toNat : Int)) ^^^ (BitVec.ofInt 8 (b.toNat : Int))).toNat : Int) = _
  rw [ofInt_toNat, ofInt_toNat, wrap_u8_word]
theorem or_u8 (a b : BitVec 8) : bits .or .u8 a.toNat b.toNat = ((a ||| b).toNat : Int) := by
  show IntKind.u8.wrap (((BitVec.ofInt 8 (a.toNat : Int)) ||| (BitVec.ofInt 8 (b.toNat : Int))).toNat : Int) = _
  rw [ofInt_toNat, ofInt_toNat, wrap_u8_word]
theorem andNot_u8 (a b : BitVec 8) : bits .andNot .u8 a.toNat b.toNat = ((a &&& ~~~b).toNat : Int) := by
  show IntKind.u8.wrap (((BitVec.ofInt 8 (a.toNat : Int)) &&& ~~~(BitVec.ofInt 8 (b.toNat : Int))).toNat : Int) = _
  rw [ofInt_toNat, ofInt_toNat, wrap_u8_word]
/-- Bytes as values. -/
def vb (b : UInt8) : Value := .int .u8 b.toNat
theorem vb_one (l : List UInt8) : ∀ u ∈ l.map vb, u.oneCell' = true := by
  intro u hu
  obtain ⟨s, _, rfl⟩ := List.mem_map.1 hu
  rfl
/-- The text of bytes. -/
def txt (l : List UInt8) : ByteArray := ⟨l.toArray⟩
theorem txt_inj {a b : List UInt8} (h : txt a = txt b) : a = b := by
  have := congrArg (fun x => x.data.toList) h
  simpa [txt] using this
theorem txt_list (s : ByteArray) : txt s.data.toList = s := by cases s; simp [txt]
theorem txt_toList (l : List UInt8) : (txt l).toList = l := by rw [ByteArray.toList_eq]; simp [txt]
theorem txt_size (l : List UInt8) : (txt l).size = l.length := by simp [txt, ByteArray.size]
theorem conv_run {P : Program} {w : World} {src dst e : TypeId} (hs : P.underlying src = some (.slice e)) (he : P.underlying e = some (.int .u8)) (hd : P.underlying dst = some .string) {A : Option Addr} {l : List UInt8} {c : Nat} (hr : Reads w A (l.map vb)) :
    (convert src dst (.slice A l.length c)).run P w = .ok (.string (txt l)) w := by
  match A, hr with
  | none, hr =>
    obtain rfl : l = [] := by
      rcases hr with h | ⟨g, o, h, _⟩
      · exact List.map_eq_nil_iff.1 h
      · cases h
    exact run_convert_bytes_nil w src e hs he 0 c dst hd
  | some ad, hr =>
    by_cases hl : 0 < l.length
    · obtain ⟨g, o, hA, hc⟩ := hr.all hl
      cases hA
      have h := run_convert_bytes_arg w src e hs he g o l.length c (l.map fun b => (b.toNat : Int)) (by simp) (fun i hi => by rw [hc i hi]; simp [vb, hi]) dst hd
      rw [h]
      have e : List.map ((fun n : Int => UInt8.ofNat n.toNat) ∘ fun b : UInt8 => (b.toNat : Int)) l = l := by
        have : ((fun n : Int => UInt8.ofNat n.toNat) ∘ fun b : UInt8 => (b.toNat : Int)) = id := by funext b; simp
        rw [this, List.map_id]
      simp [strOfNums, txt, e]
    · obtain rfl : l = [] := List.eq_nil_of_length_eq_zero (by omega)
      obtain ⟨b, off, sp⟩ := ad
      cases sp with
      | none => exact run_convert_bytes_arg w src e hs he b off 0 c [] rfl (fun i hi => by omega) dst hd
      | some q =>
        rw [List.length_nil, run_convert_bytes_string w src dst e _ 0 c hs he hd]
        simp [Conv.bytesToString, loadCells]
        rfl
theorem convK {P : Program} {w : World} {src dst e : TypeId} (hs : P.underlying src = some (.slice e)) (he : P.underlying e = some (.int .u8)) (hd : P.underlying dst = some .string) {A : Option Addr} {l : List UInt8} {c : Nat} (hr : Reads w A (l.map vb)) {K : Value → World → Prop} (h : K (.string (txt l)) w) :
    ConvK P src dst (.slice A l.length c) K w := by
  unfold ConvK
  rw [conv_run hs he hd hr]; exact h
theorem strCells_eq (s : ByteArray) : strCells s = s.data.toList.map vb := by
  rfl
/-- append(b, s...): a text's bytes behind a row of bytes. -/
theorem appendS_run {P : Program} {w : World} {t u e : TypeId} (T : ElemTy P t e (.int .u8 0) 1 1) (hu : P.underlying u = some .string) {v : Value} {n : Nat} {xs : List Value} {F : Option Nat} (ho : Own w e 1 v n xs F) (s : ByteArray)
    (hb : n + s.size ≤ 140737488355328) (ty : TypeId) :
    ∃ A' cap F' w', (Builtin.append_ #[t, u] ty #[v, .string s]).run P w = .ok (.slice A' (n + s.size) cap) w' ∧ Own w' e 1 (.slice A' (n + s.size) cap) (n + s.size) (xs ++ s.data.toList.map vb) F' ∧ Chg (fun k => F = some k) w w' ∧ (∀ k, F' = some k → F = some k ∨ w.heap.size ≤ k) := by
  obtain ⟨i, hi, hz, hsz, hby⟩ := T.info
  obtain ⟨hrow, hF⟩ := ho.row
  rcases ho with ⟨rfl, rfl, rfl, rfl⟩ | ⟨g, cap, rfl, rfl, hr⟩
  · obtain ⟨v', w', h1, h2, h3, h4⟩ := run_append_own_string (P := P) w w.heap.size t u ty e i T.und hu hi hz hsz hby (.slice none 0 0) 0 [] ⟨rfl, .inl ⟨rfl, rfl⟩⟩ s (by unfold maxLen; omega) hb (Nat.le_refl _)
    have ho' := Own.of_row h2
    obtain ⟨A', cap, rfl, _⟩ := ho'.shape
    refine ⟨A', cap, _, w', h1, ho', (Chg.of_grown h3).mono (fun k _ h => by cases h), fun k hk => .inr ?_⟩
    rcases h2.2 with ⟨hv, _⟩ | ⟨g, cap', cur, hv, hb', _⟩
    · injection hv with e1 e2 e3; subst e1; cases hk
    · injection hv with e1 e2 e3; subst e1; cases hk; exact hb'
  · obtain ⟨v', w', h1, h2, h3, h4⟩ := run_append_own_string (P := P) w 0 t u ty e i T.und hu hi hz hsz hby (.slice (some ⟨g, 0, none⟩) n cap) n xs hrow s (by unfold maxLen; omega) hb (Nat.zero_le _)
    have ho' := Own.of_row h2
    obtain ⟨A', cap', rfl, _⟩ := ho'.shape
    rw [hF] at h3
    refine ⟨A', cap', _, w', h1, ho', Chg.of_grown h3, fun k hk => ?_⟩
    obtain ⟨hl, cur, hb', q1, q2, q3, q4⟩ := hr
    by_cases hroom : n + s.size ≤ cap
    · have := run_append_room_string (P := P) w t u ty e i T.und hu hi hsz g n cap cur hb' s hroom (by omega)
      rw [this] at h1
      simp only [Result.ok.injEq, Value.slice.injEq] at h1
      obtain ⟨⟨rfl, _⟩, _⟩ := h1
      exact .inl hk
    · have := run_append_grow_string (P := P) w t u ty e i (.int .u8 0) T.und hu hi hz ⟨g, 0, none⟩ n cap xs (by rw [hsz]; exact hl) (fun j v hj => by
        have hjl := (List.getElem?_eq_some_iff.1 hj).1
        rw [Addr.add_lit, Nat.zero_add, blk_cell hb', ← hj, ← q4, List.getElem?_take, if_pos (by omega)]; simp) s (by omega) (by omega) (by rw [hby, Nat.mul_one]; exact Nat.le_trans (nextslicecap_le (by omega)) (by omega))
      rw [this] at h1
      simp only [Result.ok.injEq, Value.slice.injEq] at h1
      obtain ⟨⟨rfl, _⟩, _⟩ := h1
      cases hk
      exact .inr (Nat.le_refl _)
end Go.Cn
