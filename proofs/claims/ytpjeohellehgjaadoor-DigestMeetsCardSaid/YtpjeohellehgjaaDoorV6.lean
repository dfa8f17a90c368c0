/- Reads in regions that draw, where what was there stays: equations. -/
import Derived.Test.YtpjeohellehgjaaDoorV5
import Derived.Test.YtpjeohellehgjaaDoorL3
set_option linter.unusedVariables false
set_option linter.unusedSimpArgs false
namespace Go.Cn
open Go.RowKit
/-- All worlds in which nothing old but what T names has changed. -/
def Chs (T : Nat → Prop) (w1 w' : World) : Prop := Chg T w1 w'
abbrev Quiets (w1 w' : World) : Prop := Chs (fun _ => False) w1 w'
theorem drawC {B : (World → Prop) → World → Prop} {w : World} (T : Nat → Prop) (w1 : World) (h0 : Chg T w1 w.drew) (h : B (Chs T w1) w.drew) : DrawK (@hid _ ⟨B⟩) w := ⟨Chs T w1, h0, h⟩
theorem drawQ {B : (World → Prop) → World → Prop} {w : World} (w1 : World) (h0 : Qt w1 w.drew) (h : B (Chs (fun _ => False) w1) w.drew) : DrawK (@hid _ ⟨B⟩) w := ⟨Chs _ w1, h0, h⟩
theorem tk_S {P : Program} {s : Sem Value} {v : Value} {K : Value → Prop} {T : Nat → Prop} {w1 : World} (h : ∀ w', Chs T w1 w' → ResK (s.run P w') (fun v' w'' => v' = v ∧ w'' = w')) : TakeS P (Chs T w1) s (@hid _ ⟨K⟩) = K v :=
  propext ⟨fun ⟨u, hu, hk⟩ => by
    have e := (hu w1 (Chg.refl _ _)).symm.trans (resK_is (h w1 (Chg.refl _ _)))
    cases e; exact hk, fun hk => ⟨v, fun w hw => resK_is (h w hw), hk⟩⟩
theorem tk_B {P : Program} {op : BinOp} {t : TypeId} {x y v : Value} {K : Value → Prop} {T : Nat → Prop} {w1 : World} (h : ∀ w', BinK P op t x y (fun v' w'' => v' = v ∧ w'' = w') w') : BinT P (Chs T w1) op t x y (@hid _ ⟨K⟩) = K v :=
  propext ⟨fun ⟨u, hu, hk⟩ => by
    have e := (hu w1 (Chg.refl _ _)).2.symm.trans (resK_is (h w1).2)
    cases e; exact hk, fun hk => ⟨v, fun w _ => ⟨(h w).1, resK_is (h w).2⟩, hk⟩⟩
theorem tk_O {P : Program} {s : Sem Next} {v : Value} (hr : ∀ w, s.run P w = .ok (.value v) w) {K : Value → Prop} {T : Nat → Prop} {w1 : World} : TakeO P (Chs T w1) s (@hid _ ⟨K⟩) = K v :=
  propext ⟨fun ⟨u, hu, hk⟩ => by
    have e := (hu w1 (Chg.refl _ _)).symm.trans (hr w1)
    cases e; exact hk, fun hk => ⟨v, fun w _ => hr w, hk⟩⟩
theorem tk_nil {P : Program} {a : Addr} {K : Value → Prop} {T : Nat → Prop} {w1 : World} : TakeO P (Chs T w1) (nilSem (.pointer (some a))) (@hid _ ⟨K⟩) = K (.pointer (some a)) := tk_O (fun w => by unfold nilSem execOp; simp)
end Go.Cn
