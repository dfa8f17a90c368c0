/- Texts as rows of bytes: index, slices, concatenation; the parts of a path. -/
import Derived.Test.YtdnlenngbaaeaaaDoorB
import Derived.Test.YtdnlenngbaaeaaaDoorV4
import Derived.Lib.Split
import Derived.Lib.SplitLaws
set_option linter.unusedVariables false
set_option linter.unusedSimpArgs false
namespace Go.Cn
open Go.RowKit
theorem txt_data (l : List UInt8) : (txt l).data.toList = l := rfl
theorem data_inj {a b : ByteArray} (h : a.data.toList = b.data.toList) : a = b := by
  cases a; cases b; simp at h; simp [h]
theorem txt_extract (l : List UInt8) (a b : Nat) : (txt l).extract a b = txt ((l.drop a).take (b - a)) := by
  apply data_inj
  rw [Go.Lib.extract_data]
  simp [txt_data]
theorem txt_app (a b : List UInt8) : txt a ++ txt b = txt (a ++ b) := by
  apply data_inj
  simp [txt, ByteArray.data_append]
theorem index_txt {P : Program} {t : TypeId} (hu : P.underlying t = some .string) (l : List UInt8) (k : IntKind) (i : Int) (h : 0 ≤ i ∧ i < (l.length : Int)) (K : Value → World → Prop) (w : World) : ValK P (Instr.index t (.string (txt l)) (.int k i)) K w = K (.int .u8 ((l.getD i.toNat 0).toNat : Int)) w := by
  have hs : (txt l).size = l.length := txt_size l
  unfold ValK
  rw [run_index_string w t (txt l) k i hu, dif_pos (by omega)]
  have e : (txt l)[i.toNat]'(by omega) = l.getD i.toNat 0 := by
    have hl : i.toNat < l.length := by omega
    show (txt l).data[i.toNat]'_ = _
    simp [txt, hl]
  show K _ w = _
  rw [e]
theorem slice_txt_l {P : Program} {t : TypeId} (hu : P.underlying t = some .string) (l : List UInt8) (n : Nat) (h : n ≤ l.length) (K : Value → World → Prop) (w : World) : SliceK P t (.string (txt l)) (some (.int .i64 n)) none none K w = K (.string (txt (l.drop n))) w := by
  have hs : (txt l).size = l.length := txt_size l
  unfold SliceK
  rw [run_sliceAt_string w t _ _ _ _ hu, run_slice_string_l w t (txt l) hu .i64 n (by omega) (by omega)]
  have e : (txt l).extract (n : Int).toNat (txt l).size = txt (l.drop n) := by
    rw [txt_extract, hs, List.take_of_length_le (by simp)]; rfl
  rw [e]; rfl
theorem slice_txt_h {P : Program} {t : TypeId} (hu : P.underlying t = some .string) (l : List UInt8) (n : Nat) (h : n ≤ l.length) (K : Value → World → Prop) (w : World) : SliceK P t (.string (txt l)) none (some (.int .i64 n)) none K w = K (.string (txt (l.take n))) w := by
  have hs : (txt l).size = l.length := txt_size l
  unfold SliceK
  rw [run_sliceAt_string w t _ _ _ _ hu, run_slice_string_h w t (txt l) hu .i64 n (by omega) (by omega)]
  have e : (txt l).extract 0 (n : Int).toNat = txt (l.take n) := by
    rw [txt_extract]; rfl
  rw [e]; rfl
theorem slice_txt_lh {P : Program} {t : TypeId} (hu : P.underlying t = some .string) (l : List UInt8) (a b : Nat) (h : a ≤ b ∧ b ≤ l.length) (K : Value → World → Prop) (w : World) : SliceK P t (.string (txt l)) (some (.int .i64 a)) (some (.int .i64 b)) none K w = K (.string (txt ((l.drop a).take (b - a)))) w := by
  have hs : (txt l).size = l.length := txt_size l
  unfold SliceK
  rw [run_sliceAt_string w t _ _ _ _ hu, run_slice_string w t (txt l) .i64 .i64 a b hu (by omega) (by omega) (by omega)]
  have e : (txt l).extract (a : Int).toNat (b : Int).toNat = txt ((l.drop a).take (b - a)) := by
    rw [txt_extract]; rfl
  rw [e]; rfl
theorem add_txt {P : Program} {t : TypeId} (a b : List UInt8) (h : a.length + b.length ≤ 9223372036854775807) (K : Value → World → Prop) (w : World) : BinK P .add t (.string (txt a)) (.string (txt b)) K w = K (.string (txt (a ++ b))) w := by
  have h1 : (txt a).size = a.length := txt_size a
  have h2 : (txt b).size = b.length := txt_size b
  have hn : ¬ 9223372036854775807 < a.length + b.length := by omega
  rw [← txt_app]
  unfold BinK; go_simp
  exact Iff.rfl
/-- A text cut at every stroke. -/
def splitL : List UInt8 → List (List UInt8)
  | [] => [[]]
  | c :: l => if c = 47 then [] :: splitL l else (c :: (splitL l).headD []) :: (splitL l).tail
theorem splitL_pos (l : List UInt8) : 0 < (splitL l).length := by
  cases l with
  | nil => simp [splitL]
  | cons c l => rw [splitL]; split <;> simp
theorem splitL_ne (l : List UInt8) : splitL l ≠ [] := fun h => by have := splitL_pos l; rw [h] at this; simp at this
theorem splitL_none : ∀ (l : List UInt8), (47 : UInt8) ∉ l → splitL l = [l]
  | [], _ => rfl
  | c :: l, h => by
    have hc : c ≠ 47 := fun e => h (by simp [e])
    rw [splitL, if_neg hc, splitL_none l (fun h2 => h (by simp [h2]))]; rfl
theorem splitL_hit : ∀ (a b : List UInt8), (47 : UInt8) ∉ a → splitL (a ++ 47 :: b) = a :: splitL b
  | [], b, _ => by rw [List.nil_append, splitL, if_pos rfl]
  | c :: a, b, h => by
    have hc : c ≠ 47 := fun e => h (by simp [e])
    rw [List.cons_append, splitL, if_neg hc, splitL_hit a b (fun h2 => h (by simp [h2]))]; rfl
theorem index47 : ∀ (l : List UInt8), (Go.Lib.index l [47] = -1 ∧ (47 : UInt8) ∉ l) ∨ ∃ a b, l = a ++ 47 :: b ∧ (47 : UInt8) ∉ a ∧ Go.Lib.index l [47] = a.length
  | [] => .inl ⟨rfl, by simp⟩
  | c :: l => by
    by_cases hc : c = 47
    · subst hc
      right
      refine ⟨[], l, rfl, by simp, ?_⟩
      rw [Go.Lib.index, if_pos (by simp [List.isPrefixOf])]; rfl
    · have hp : ¬ ([47] : List UInt8).isPrefixOf (c :: l) = true := by
        simp [List.isPrefixOf]; exact fun h => hc h.symm
      rw [Go.Lib.index, if_neg hp]
      rcases index47 l with ⟨h1, h2⟩ | ⟨a, b, h1, h2, h3⟩
      · left
        rw [if_pos (by rw [h1]; rfl)]
        exact ⟨rfl, by simp [h2]; intro h; exact hc h.symm⟩
      · right
        refine ⟨c :: a, b, by rw [h1]; rfl, by simp [h2]; exact fun h => hc h.symm, ?_⟩
        have hn : ¬ (Go.Lib.index l [47] == -1) = true := by rw [h3]; simp
        rw [if_neg hn, h3]; simp
theorem splitK_eq : ∀ (n : Nat) (l : List UInt8), l.length ≤ n → Go.Lib.splitK [47] 0 (Go.Lib.count l [47]) l = splitL l
  | n, l, hn => by
    rcases index47 l with ⟨h1, h2⟩ | ⟨a, b, h1, h2, h3⟩
    · rw [Go.Lib.count_miss h1, Go.Lib.splitK, splitL_none l h2]
    · have hd : l.drop (a.length + 1) = b := by rw [h1]; simp
      have hl : b.length < l.length := by rw [h1]; simp; omega
      rw [Go.Lib.count_hit (by simp) h3, Nat.add_comm, Go.Lib.splitK, if_neg (by rw [h3]; simp), h3]
      simp only [Int.toNat_natCast, List.length_cons, List.length_nil, Nat.add_zero, Nat.zero_add]
      cases n with
      | zero => omega
      | succ n =>
        rw [hd, splitK_eq n b (by omega), h1, splitL_hit a b h2]
        simp
theorem split_txt (l : List UInt8) : Go.Lib.splitB (txt [47]) 0 (Go.Lib.countB (txt l) (txt [47])) (txt l) = (splitL l).map txt := by
  have h := Go.Lib.splitB_data (txt [47]) 0 (Go.Lib.countB (txt l) (txt [47])) (txt l)
  rw [txt_data, txt_data] at h
  have e : Go.Lib.splitK [47] 0 (Go.Lib.countB (txt l) (txt [47])) l = splitL l := splitK_eq l.length l (Nat.le_refl _)
  rw [e] at h
  rw [← h, List.map_map]
  have : (txt ∘ fun x : ByteArray => x.data.toList) = id := by funext x; exact txt_list x
  rw [this, List.map_id]
theorem split_count (l : List UInt8) : Go.Lib.countB (txt l) (txt [47]) + 1 = (splitL l).length := by
  have h := Go.Lib.splitB_all (txt [47]) (by rw [txt_size]; simp) 0 _ (txt l) rfl
  rw [← h, split_txt, List.length_map]
def joinL : List (List UInt8) → List UInt8
  | [] => []
  | p :: r => p ++ r.flatMap (fun q => 47 :: q)
end Go.Cn
