/- A struct as an argument: its cells read. -/
import Derived.Test.YtdnlenngbaaeaaaDoorL5
import Derived.Test.YtdnlenngbaaeaaaDoorV2
import Derived.Deep.MidRow
set_option linter.unusedVariables false
set_option linter.unusedSimpArgs false
namespace Go.Cn
open Go.RowKit Go.ChangeShapes Go.WideShapes
theorem agg_opened {P : Program} {t : TypeId} {fs : Array Field} {sz : Nat} {α : Type} {R : World → List Value → α → Prop} {H : Type} {enc : TypeId × Value → H} {w : World} {spare : Nat → Bool} {held : Bool} {v : Value} {d : DataW H} {ps : List MemPlace}
    (hu : P.underlying t = some (.struct fs)) (hs : P.cellsOf t = sz) (he : Opens P t R) (hv : Value.okWide P w .any 0 t v) (hx : DataW.Trod enc P w 0 spare held t v d ps) : ∃ (cs : Array Value) (x : α), v = .agg cs ∧ cs.toList.length = sz ∧ R w cs.toList x := by
  obtain ⟨fuel, hf⟩ := hx
  simp only [Value.okWide, hu] at hv
  obtain ⟨cs, rfl, hsz, _⟩ := hv
  obtain ⟨x, hx⟩ := he H enc w spare held fuel _ _ hf
  exact ⟨cs, x, rfl, by rw [← hs, ← hsz]; rfl, hx⟩
theorem take_of {P : Program} {S : World → Prop} {s : Sem Value} {K : Value → Prop} (v : Value) (h : ∀ w, S w → s.run P w = .ok v w) (hk : K v) : TakeS P S s (@hid _ ⟨K⟩) := ⟨v, h, hk⟩
theorem take_txt {P : Program} {S : World → Prop} {t : TypeId} {x y : ByteArray} {K : Value → Prop} (op : BinOp) (v : Value) (h : ∀ w, S w → BinK P op t (.string x) (.string y) (@hid _ ⟨fun v' w' => v' = v ∧ w' = w⟩) w) (hk : K v) : BinT P S op t (.string x) (.string y) (@hid _ ⟨K⟩) := ⟨v, fun w hw => ⟨(h w hw).1, resK_is (h w hw).2⟩, hk⟩
theorem arr_eq {cs : Array Value} {l : List Value} (h : cs.toList = l) : cs = l.toArray := by rw [← h]
theorem aggStoreK {P : Program} {ty : TypeId} {b o : Nat} {cells : Array Value} {K : Value → World → Prop} {w : World} (ht : World.there w b o cells.size) (hi : (P.info? ty).map (·.size) = some cells.size) (h1 : cells.all (·.oneCell') = true)
    (hK : K undef (w.setCells b o cells.toList)) : StoreK P ty (.pointer (some ⟨b, o, none⟩)) (.agg cells) K w := by
  unfold StoreK UnitK
  rw [run_storeAt_mid w b o ty cells ht hi h1]
  exact hK
end Go.Cn
