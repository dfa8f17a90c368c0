import Derived.Test.YtpjeohellehgjaaDoorVF
set_option linter.unusedVariables false
set_option linter.unusedSimpArgs false
set_option maxRecDepth 100000
namespace Go.Proofs.YtpjeohellehgjaaDoor
open Go.RowKit Go.Cn
/-- canton/digest.beside[canton/row.Row,canton/digest.Mark], its body as a formula. -/
def F46 (x0 x1 x2 x3 x4 : Value) (R : Value → World → Prop) (w0 : World) : Prop :=
 BuiltinK Tryd.prog .len #[22] 3 #[false] #[x0] (@hid _ ⟨fun t16_1 w2 =>
 LoopK2 (.int .i64 0) (.int .i64 0) w2 (@hid _ ⟨fun _ x10_3 x17_4 w5 B6 =>
 BinK Tryd.prog .lss 3 x17_4 t16_1 (@hid _ ⟨fun t18_7 w8 =>
 BrK t18_7 (@hid _ ⟨
 IndexAtK Tryd.prog 22 x0 x17_4 (@hid _ ⟨fun t19_9 w10 =>
 LoadK Tryd.prog 55 t19_9 (@hid _ ⟨fun t20_11 w12 =>
 AllocK Tryd.prog 55 (@hid _ ⟨fun t12_13 w14 =>
 StoreK Tryd.prog 55 t12_13 t20_11 (@hid _ ⟨fun tu_15 w16 =>
 CutK1 (@hid _ ⟨fun R17 =>
 LoopK1 x10_3 w16 (@hid _ ⟨fun _ x10_20 w21 B22 =>
 DrawK (@hid _ ⟨fun S23 w24 =>
 TakeO Tryd.prog S23 (builtin .len #[23] 3 #[false] #[x1]) (@hid _ ⟨fun t23_25 =>
 BinT Tryd.prog S23 .lss 3 x10_20 t23_25 (@hid _ ⟨fun t24_26 =>
 TakeG t24_26 true (fun k => k x3) (@hid _ ⟨fun t26_27 =>
 TakeG t24_26 true (fun k => k x1) (@hid _ ⟨fun t27_28 =>
 TakeG t24_26 true (fun k => k x10_20) (@hid _ ⟨fun t28_29 =>
 TakeG t24_26 true (fun k => TakeS Tryd.prog S23 (Instr.indexAt 23 t27_28 t28_29) k) (@hid _ ⟨fun t29_30 =>
 TakeG t24_26 true (fun k => TakeS Tryd.prog S23 (Instr.loadAt 85 t29_30) k) (@hid _ ⟨fun t30_31 =>
 TakeG t24_26 true (fun k => k x2) (@hid _ ⟨fun t32_32 =>
 TakeG t24_26 true (fun k => TakeS Tryd.prog S23 (Instr.loadAt 55 t12_13) k) (@hid _ ⟨fun t33_33 =>
 (GuardK t24_26 true (fun k w => CallV Tryd.prog t26_27 #[t30_31] k w) (@hid _ ⟨fun t31_34 w35 =>
 S23 w35 ∧
 (GuardK t24_26 true (fun k w => CallV Tryd.prog t32_32 #[t33_33] k w) (@hid _ ⟨fun t34_36 w37 =>
 S23 w37 ∧
 TakeG t24_26 true (fun k => BinT Tryd.prog S23 .lss 9 t31_34 t34_36 k) (@hid _ ⟨fun t35_38 =>
 PickT t24_26 t35_38 (.bool false) (@hid _ ⟨fun t36_39 =>
 BrK t36_39 (@hid _ ⟨
 BinK Tryd.prog .add 3 x10_20 (.int .i64 1) (@hid _ ⟨fun t38_40 w41 =>
 B22 t38_40 w41⟩) w37⟩) (@hid _ ⟨
 R17 x10_20 w37⟩)⟩)⟩)⟩) w35) ∧
 True⟩) w24) ∧
 True⟩)⟩)⟩)⟩)⟩)⟩)⟩)⟩)⟩)⟩) w21⟩)⟩)
 (@hid _ ⟨fun _ x10_18 w19 =>
 AllocK Tryd.prog 85 (@hid _ ⟨fun t13_42 w43 =>
 DrawK (@hid _ ⟨fun S44 w45 =>
 TakeO Tryd.prog S44 (builtin .len #[23] 3 #[false] #[x1]) (@hid _ ⟨fun t41_46 =>
 BinT Tryd.prog S44 .lss 3 x10_18 t41_46 (@hid _ ⟨fun t42_47 =>
 TakeG t42_47 true (fun k => k x3) (@hid _ ⟨fun t44_48 =>
 TakeG t42_47 true (fun k => k x1) (@hid _ ⟨fun t45_49 =>
 TakeG t42_47 true (fun k => k x10_18) (@hid _ ⟨fun t46_50 =>
 TakeG t42_47 true (fun k => TakeS Tryd.prog S44 (Instr.indexAt 23 t45_49 t46_50) k) (@hid _ ⟨fun t47_51 =>
 TakeG t42_47 true (fun k => TakeS Tryd.prog S44 (Instr.loadAt 85 t47_51) k) (@hid _ ⟨fun t48_52 =>
 TakeG t42_47 true (fun k => k x2) (@hid _ ⟨fun t50_53 =>
 TakeG t42_47 true (fun k => TakeS Tryd.prog S44 (Instr.loadAt 55 t12_13) k) (@hid _ ⟨fun t51_54 =>
 (GuardK t42_47 true (fun k w => CallV Tryd.prog t44_48 #[t48_52] k w) (@hid _ ⟨fun t49_55 w56 =>
 S44 w56 ∧
 (GuardK t42_47 true (fun k w => CallV Tryd.prog t50_53 #[t51_54] k w) (@hid _ ⟨fun t52_57 w58 =>
 S44 w58 ∧
 TakeG t42_47 true (fun k => BinT Tryd.prog S44 .eql 9 t49_55 t52_57 k) (@hid _ ⟨fun t53_59 =>
 PickT t42_47 t53_59 (.bool false) (@hid _ ⟨fun t54_60 =>
 CutK0 (@hid _ ⟨fun R61 =>
 BrK t54_60 (@hid _ ⟨
 IndexAtK Tryd.prog 23 x1 x10_18 (@hid _ ⟨fun t58_63 w64 =>
 LoadK Tryd.prog 85 t58_63 (@hid _ ⟨fun t59_65 w66 =>
 StoreK Tryd.prog 85 t13_42 t59_65 (@hid _ ⟨fun tu_67 w68 =>
 R61 w68⟩) w66⟩) w64⟩) w58⟩) (@hid _ ⟨
 R61 w58⟩)⟩)
 (@hid _ ⟨fun _ w62 =>
 LoadK Tryd.prog 55 t12_13 (@hid _ ⟨fun t61_69 w70 =>
 LoadK Tryd.prog 85 t13_42 (@hid _ ⟨fun t62_71 w72 =>
 CallV Tryd.prog x4 #[t61_69, t62_71, t54_60] (@hid _ ⟨fun t64_73 w74 =>
 BinK Tryd.prog .add 3 x17_4 (.int .i64 1) (@hid _ ⟨fun t65_75 w76 =>
 B6 x10_18 t65_75 w76⟩) w74⟩) w72⟩) w70⟩) w62⟩)⟩)⟩)⟩) w56) ∧
 True⟩) w45) ∧
 True⟩)⟩)⟩)⟩)⟩)⟩)⟩)⟩)⟩)⟩) w43⟩) w19⟩)⟩) w14⟩) w12⟩) w10⟩) w8⟩) (@hid _ ⟨
 R (.tuple #[]) w8⟩)⟩) w5⟩)⟩) w0
def a46 : Ann := (.seq .no (.seq .no (.block (.loop [10, 17] [(12, 14), (18, 65)] (.seq .no (.seq (.cond .no .no) (.seq (.block (.seq .no (.cut [10] [(21, 38)] (.block (.loop [10] [(21, 38)] (.seq (.seq (.plan (.take 0 (.take 1 (.take 2 (.take 3 (.take 4 (.take 5 (.take 6 (.take 7 (.take 8 (.take 9 (.take 11 (.take 12 (.alt 10 (.alt 13 (.take 14 (.take 15 .done)) .nil) .nil)))))))))))))) (.cond .no .no)) (.block .no)))) (.seq .no (.seq (.plan (.take 0 (.take 1 (.take 2 (.take 3 (.take 4 (.take 5 (.take 6 (.take 7 (.take 8 (.take 9 (.take 11 (.take 12 (.alt 10 (.alt 13 (.take 14 (.take 15 (.take 16 .done))) .nil) .nil)))))))))))))) (.cut [] [(55, 59)] (.seq .no (.cond .no .no)) .no)))))) .no)))))))
theorem F46_eq (x0 x1 x2 x3 x4 : Value) (R : Value → World → Prop) (w0 : World) : F46 x0 x1 x2 x3 x4 R w0 = vc Tryd.prog (bodyOf Tryd.f46) a46 (retQ Tryd.prog Tryd.f46 R) (envOf 0 [x0, x1, x2, x3, x4]) w0 := by kernel_rfl
theorem F46_calls (x0 x1 x2 x3 x4 : Value) (R : Value → World → Prop) (w0 : World) (h : F46 x0 x1 x2 x3 x4 R w0) : CallK Tryd.prog 46 #[x0, x1, x2, x3, x4] R w0 :=
 calls_vc (c := bodyOf Tryd.f46) Tryd.func46 (by kernel_rfl) (by kernel_rfl) a46 (by kernel_rfl) (by kernel_rfl) [x0, x1, x2, x3, x4] (by rw [Tryd.ntmps46]; exact Nat.le_of_ble_eq_true rfl) w0 R ((F46_eq x0 x1 x2 x3 x4 R w0).mp h)

/-- canton/digest.keyOf, its body as a formula. -/
def F47 (x0 : Value) (R : Value → World → Prop) (w0 : World) : Prop :=
 BoxK Tryd.prog 55 x0 (@hid _ ⟨fun t1_1 w2 =>
 FieldAtK Tryd.prog 55 t1_1 0 (@hid _ ⟨fun t3_3 w4 =>
 LoadK Tryd.prog 9 t3_3 (@hid _ ⟨fun t4_5 w6 =>
 R t4_5 w6⟩) w4⟩) w2⟩) w0
def a47 : Ann := (.seq .no (.seq .no .no))
theorem F47_eq (x0 : Value) (R : Value → World → Prop) (w0 : World) : F47 x0 R w0 = vc Tryd.prog (bodyOf Tryd.f47) a47 (retQ Tryd.prog Tryd.f47 R) (envOf 0 [x0]) w0 := by kernel_rfl
theorem F47_calls (x0 : Value) (R : Value → World → Prop) (w0 : World) (h : F47 x0 R w0) : CallK Tryd.prog 47 #[x0] R w0 :=
 calls_vc (c := bodyOf Tryd.f47) Tryd.func47 (by kernel_rfl) (by kernel_rfl) a47 (by kernel_rfl) (by kernel_rfl) [x0] (by rw [Tryd.ntmps47]; exact Nat.le_of_ble_eq_true rfl) w0 R ((F47_eq x0 R w0).mp h)

/-- canton/digest.markOf, its body as a formula. -/
def F48 (x0 : Value) (R : Value → World → Prop) (w0 : World) : Prop :=
 BoxK Tryd.prog 85 x0 (@hid _ ⟨fun t1_1 w2 =>
 FieldAtK Tryd.prog 85 t1_1 0 (@hid _ ⟨fun t3_3 w4 =>
 LoadK Tryd.prog 9 t3_3 (@hid _ ⟨fun t4_5 w6 =>
 R t4_5 w6⟩) w4⟩) w2⟩) w0
def a48 : Ann := (.seq .no (.seq .no .no))
theorem F48_eq (x0 : Value) (R : Value → World → Prop) (w0 : World) : F48 x0 R w0 = vc Tryd.prog (bodyOf Tryd.f48) a48 (retQ Tryd.prog Tryd.f48 R) (envOf 0 [x0]) w0 := by kernel_rfl
theorem F48_calls (x0 : Value) (R : Value → World → Prop) (w0 : World) (h : F48 x0 R w0) : CallK Tryd.prog 48 #[x0] R w0 :=
 calls_vc (c := bodyOf Tryd.f48) Tryd.func48 (by kernel_rfl) (by kernel_rfl) a48 (by kernel_rfl) (by kernel_rfl) [x0] (by rw [Tryd.ntmps48]; exact Nat.le_of_ble_eq_true rfl) w0 R ((F48_eq x0 R w0).mp h)

/-- canton/digest.Send$1, its body as a formula. -/
def F49 (x0 x1 x2 x3 : Value) (R : Value → World → Prop) (w0 : World) : Prop :=
 BoxK Tryd.prog 55 x0 (@hid _ ⟨fun t4_1 w2 =>
 BoxK Tryd.prog 85 x1 (@hid _ ⟨fun t5_3 w4 =>
 UnK Tryd.prog .not x2 (@hid _ ⟨fun t8_5 w6 =>
 GuardK t8_5 false (fun k w => FieldAtK Tryd.prog 55 t4_1 1 k w) (@hid _ ⟨fun t10_7 w8 =>
 GuardK t8_5 false (fun k w => LoadK Tryd.prog 52 t10_7 k w) (@hid _ ⟨fun t11_9 w10 =>
 GuardK t8_5 false (fun k w => FieldAtK Tryd.prog 85 t5_3 1 k w) (@hid _ ⟨fun t12_11 w12 =>
 GuardK t8_5 false (fun k w => LoadK Tryd.prog 52 t12_11 k w) (@hid _ ⟨fun t13_13 w14 =>
 GuardK t8_5 false (fun k w => CallV Tryd.prog (.func (.func 50) #[] #[]) #[t11_9, t13_13] k w) (@hid _ ⟨fun t14_15 w16 =>
 PickK Tryd.prog t8_5 (.bool true) t14_15 (@hid _ ⟨fun t15_17 w18 =>
 BrK t15_17 (@hid _ ⟨
 DrawK (@hid _ ⟨fun S19 w20 =>
 TakeS Tryd.prog S19 (Instr.loadAt 55 t4_1) (@hid _ ⟨fun t17_21 =>
 (LoadK Tryd.prog 22 x3 (@hid _ ⟨fun t16_22 w23 =>
 S19 w23 ∧
 (CallV Tryd.prog (.func (.func 51) #[] #[]) #[t17_21] (@hid _ ⟨fun t18_24 w25 =>
 S19 w25 ∧
 (BuildSliceK Tryd.prog 22 1 #[(0, t18_24)] (@hid _ ⟨fun t19_26 w27 =>
 S19 w27 ∧
 (BuiltinK Tryd.prog .append #[22, 22] 22 #[false, false] #[t16_22, t19_26] (@hid _ ⟨fun t20_28 w29 =>
 S19 w29 ∧
 (StoreK Tryd.prog 22 x3 t20_28 (@hid _ ⟨fun tu_30 w31 =>
 S19 w31 ∧
 R (.tuple #[]) w31⟩) w29) ∧
 True⟩) w27) ∧
 True⟩) w25) ∧
 True⟩) w23) ∧
 True⟩) w20) ∧
 (CallV Tryd.prog (.func (.func 51) #[] #[]) #[t17_21] (@hid _ ⟨fun t18_32 w33 =>
 S19 w33 ∧
 (LoadK Tryd.prog 22 x3 (@hid _ ⟨fun t16_34 w35 =>
 S19 w35 ∧
 (BuildSliceK Tryd.prog 22 1 #[(0, t18_32)] (@hid _ ⟨fun t19_36 w37 =>
 S19 w37 ∧
 (BuiltinK Tryd.prog .append #[22, 22] 22 #[false, false] #[t16_34, t19_36] (@hid _ ⟨fun t20_38 w39 =>
 S19 w39 ∧
 (StoreK Tryd.prog 22 x3 t20_38 (@hid _ ⟨fun tu_40 w41 =>
 S19 w41 ∧
 R (.tuple #[]) w41⟩) w39) ∧
 True⟩) w37) ∧
 True⟩) w35) ∧
 True⟩) w33) ∧
 (BuildSliceK Tryd.prog 22 1 #[(0, t18_32)] (@hid _ ⟨fun t19_42 w43 =>
 S19 w43 ∧
 (LoadK Tryd.prog 22 x3 (@hid _ ⟨fun t16_44 w45 =>
 S19 w45 ∧
 (BuiltinK Tryd.prog .append #[22, 22] 22 #[false, false] #[t16_44, t19_42] (@hid _ ⟨fun t20_46 w47 =>
 S19 w47 ∧
 (StoreK Tryd.prog 22 x3 t20_46 (@hid _ ⟨fun tu_48 w49 =>
 S19 w49 ∧
 R (.tuple #[]) w49⟩) w47) ∧
 True⟩) w45) ∧
 True⟩) w43) ∧
 True⟩) w33) ∧
 True⟩) w20) ∧
 True⟩)⟩) w18⟩) (@hid _ ⟨
 R (.tuple #[]) w18⟩)⟩) w16⟩) w14⟩) w12⟩) w10⟩) w8⟩) w6⟩) w4⟩) w2⟩) w0
def a49 : Ann := (.seq .no (.seq .no (.cond (.plan (.take 1 (.alt 0 (.alt 2 (.alt 3 (.alt 4 (.alt 5 .done .nil) .nil) .nil) .nil) (.alt 2 (.alt 0 (.alt 3 (.alt 4 (.alt 5 .done .nil) .nil) .nil) (.alt 3 (.alt 0 (.alt 4 (.alt 5 .done .nil) .nil) .nil) .nil)) .nil)))) .no)))
theorem F49_eq (x0 x1 x2 x3 : Value) (R : Value → World → Prop) (w0 : World) : F49 x0 x1 x2 x3 R w0 = vc Tryd.prog (bodyOf Tryd.f49) a49 (retQ Tryd.prog Tryd.f49 R) (envOf 0 [x0, x1, x2, x3]) w0 := by kernel_rfl
theorem F49_calls (x0 x1 x2 x3 : Value) (R : Value → World → Prop) (w0 : World) (h : F49 x0 x1 x2 x3 R w0) : CallK Tryd.prog 49 #[x0, x1, x2, x3] R w0 :=
 calls_vc (c := bodyOf Tryd.f49) Tryd.func49 (by kernel_rfl) (by kernel_rfl) a49 (by kernel_rfl) (by kernel_rfl) [x0, x1, x2, x3] (by rw [Tryd.ntmps49]; exact Nat.le_of_ble_eq_true rfl) w0 R ((F49_eq x0 x1 x2 x3 R w0).mp h)

/-- canton/stamp.Newer, its body as a formula. -/
def F50 (x0 x1 : Value) (R : Value → World → Prop) (w0 : World) : Prop :=
 BoxK Tryd.prog 52 x0 (@hid _ ⟨fun t2_1 w2 =>
 BoxK Tryd.prog 52 x1 (@hid _ ⟨fun t3_3 w4 =>
 LoadK Tryd.prog 52 t2_1 (@hid _ ⟨fun t5_5 w6 =>
 LoadK Tryd.prog 52 t3_3 (@hid _ ⟨fun t6_7 w8 =>
 CallV Tryd.prog (.func (.func 26) #[] #[]) #[t5_5, t6_7] (@hid _ ⟨fun t7_9 w10 =>
 BinK Tryd.prog .gtr 3 t7_9 (.int .i64 0) (@hid _ ⟨fun t8_11 w12 =>
 R t8_11 w12⟩) w10⟩) w8⟩) w6⟩) w4⟩) w2⟩) w0
def a50 : Ann := (.seq .no (.seq .no .no))
theorem F50_eq (x0 x1 : Value) (R : Value → World → Prop) (w0 : World) : F50 x0 x1 R w0 = vc Tryd.prog (bodyOf Tryd.f50) a50 (retQ Tryd.prog Tryd.f50 R) (envOf 0 [x0, x1]) w0 := by kernel_rfl
theorem F50_calls (x0 x1 : Value) (R : Value → World → Prop) (w0 : World) (h : F50 x0 x1 R w0) : CallK Tryd.prog 50 #[x0, x1] R w0 :=
 calls_vc (c := bodyOf Tryd.f50) Tryd.func50 (by kernel_rfl) (by kernel_rfl) a50 (by kernel_rfl) (by kernel_rfl) [x0, x1] (by rw [Tryd.ntmps50]; exact Nat.le_of_ble_eq_true rfl) w0 R ((F50_eq x0 x1 R w0).mp h)

/-- (canton/row.Row).Apart, its body as a formula. -/
def F51 (x0 : Value) (R : Value → World → Prop) (w0 : World) : Prop :=
 BoxK Tryd.prog 55 x0 (@hid _ ⟨fun t1_1 w2 =>
 AllocK Tryd.prog 55 (@hid _ ⟨fun t2_3 w4 =>
 FieldAtK Tryd.prog 55 t1_1 2 (@hid _ ⟨fun t3_5 w6 =>
 LoadK Tryd.prog 53 t3_5 (@hid _ ⟨fun t4_7 w8 =>
 CallV Tryd.prog (.func (.func 81) #[] #[]) #[t4_7] (@hid _ ⟨fun t5_9 w10 =>
 FieldAtK Tryd.prog 55 t1_1 2 (@hid _ ⟨fun t6_11 w12 =>
 StoreK Tryd.prog 53 t6_11 t5_9 (@hid _ ⟨fun tu_13 w14 =>
 LoadK Tryd.prog 55 t1_1 (@hid _ ⟨fun t7_15 w16 =>
 StoreK Tryd.prog 55 t2_3 t7_15 (@hid _ ⟨fun tu_17 w18 =>
 LoadK Tryd.prog 55 t2_3 (@hid _ ⟨fun c19 w20 => w20 = w18 ∧ R c19 w18⟩) w18⟩) w16⟩) w14⟩) w12⟩) w10⟩) w8⟩) w6⟩) w4⟩) w2⟩) w0
def a51 : Ann := (.seq .no (.seq .no (.seq .no .no)))
theorem F51_eq (x0 : Value) (R : Value → World → Prop) (w0 : World) : F51 x0 R w0 = vc Tryd.prog (bodyOf Tryd.f51) a51 (retQ Tryd.prog Tryd.f51 R) (envOf 0 [x0]) w0 := by kernel_rfl
theorem F51_calls (x0 : Value) (R : Value → World → Prop) (w0 : World) (h : F51 x0 R w0) : CallK Tryd.prog 51 #[x0] R w0 :=
 calls_vc (c := bodyOf Tryd.f51) Tryd.func51 (by kernel_rfl) (by kernel_rfl) a51 (by kernel_rfl) (by kernel_rfl) [x0] (by rw [Tryd.ntmps51]; exact Nat.le_of_ble_eq_true rfl) w0 R ((F51_eq x0 R w0).mp h)

/-- slices.Clip[[]canton/row.Row,canton/row.Row], its body as a formula. -/
def F52 (x0 : Value) (R : Value → World → Prop) (w0 : World) : Prop :=
 BuiltinK Tryd.prog .len #[22] 3 #[false] #[x0] (@hid _ ⟨fun t5_1 w2 =>
 BuiltinK Tryd.prog .len #[22] 3 #[false] #[x0] (@hid _ ⟨fun t7_3 w4 =>
 SliceK Tryd.prog 22 x0 none (some t5_1) (some t7_3) (@hid _ ⟨fun t8_5 w6 =>
 R t8_5 w6⟩) w4⟩) w2⟩) w0
def a52 : Ann := (.seq .no (.seq .no .no))
theorem F52_eq (x0 : Value) (R : Value → World → Prop) (w0 : World) : F52 x0 R w0 = vc Tryd.prog (bodyOf Tryd.f52) a52 (retQ Tryd.prog Tryd.f52 R) (envOf 0 [x0]) w0 := by kernel_rfl
theorem F52_calls (x0 : Value) (R : Value → World → Prop) (w0 : World) (h : F52 x0 R w0) : CallK Tryd.prog 52 #[x0] R w0 :=
 calls_vc (c := bodyOf Tryd.f52) Tryd.func52 (by kernel_rfl) (by kernel_rfl) a52 (by kernel_rfl) (by kernel_rfl) [x0] (by rw [Tryd.ntmps52]; exact Nat.le_of_ble_eq_true rfl) w0 R ((F52_eq x0 R w0).mp h)

/-- canton/cantonref7.Compare, its body as a formula. -/
def F53 (x0 x1 : Value) (R : Value → World → Prop) (w0 : World) : Prop :=
 BoxK Tryd.prog 38 x0 (@hid _ ⟨fun t2_1 w2 =>
 BoxK Tryd.prog 38 x1 (@hid _ ⟨fun t3_3 w4 =>
 DrawK (@hid _ ⟨fun S5 w6 =>
 TakeS Tryd.prog S5 (Instr.fieldAt 38 t2_1 0) (@hid _ ⟨fun t7_7 =>
 TakeS Tryd.prog S5 (Instr.loadAt 2 t7_7) (@hid _ ⟨fun t8_8 =>
 TakeS Tryd.prog S5 (Instr.fieldAt 38 t3_3 0) (@hid _ ⟨fun t9_9 =>
 TakeS Tryd.prog S5 (Instr.loadAt 2 t9_9) (@hid _ ⟨fun t10_10 =>
 TakeS Tryd.prog S5 (Instr.fieldAt 38 t2_1 1) (@hid _ ⟨fun t12_11 =>
 TakeS Tryd.prog S5 (Instr.loadAt 2 t12_11) (@hid _ ⟨fun t13_12 =>
 TakeS Tryd.prog S5 (Instr.fieldAt 38 t3_3 1) (@hid _ ⟨fun t14_13 =>
 TakeS Tryd.prog S5 (Instr.loadAt 2 t14_13) (@hid _ ⟨fun t15_14 =>
 TakeS Tryd.prog S5 (Instr.fieldAt 38 t2_1 2) (@hid _ ⟨fun t17_15 =>
 TakeS Tryd.prog S5 (Instr.loadAt 2 t17_15) (@hid _ ⟨fun t18_16 =>
 TakeS Tryd.prog S5 (Instr.fieldAt 38 t3_3 2) (@hid _ ⟨fun t19_17 =>
 TakeS Tryd.prog S5 (Instr.loadAt 2 t19_17) (@hid _ ⟨fun t20_18 =>
 TakeS Tryd.prog S5 (Instr.fieldAt 38 t2_1 3) (@hid _ ⟨fun t22_19 =>
 TakeS Tryd.prog S5 (Instr.loadAt 9 t22_19) (@hid _ ⟨fun t23_20 =>
 TakeS Tryd.prog S5 (Instr.fieldAt 38 t3_3 3) (@hid _ ⟨fun t24_21 =>
 TakeS Tryd.prog S5 (Instr.loadAt 9 t24_21) (@hid _ ⟨fun t25_22 =>
 (CallV Tryd.prog (.func (.func 82) #[] #[]) #[t8_8, t10_10] (@hid _ ⟨fun t11_23 w24 =>
 S5 w24 ∧
 (CallV Tryd.prog (.func (.func 82) #[] #[]) #[t13_12, t15_14] (@hid _ ⟨fun t16_25 w26 =>
 S5 w26 ∧
 (CallV Tryd.prog (.func (.func 82) #[] #[]) #[t18_16, t20_18] (@hid _ ⟨fun t21_27 w28 =>
 S5 w28 ∧
 (CallV Tryd.prog (.func (.func 83) #[] #[]) #[t23_20, t25_22] (@hid _ ⟨fun t26_29 w30 =>
 S5 w30 ∧
 (BuildSliceK Tryd.prog 136 4 #[(0, t11_23), (1, t16_25), (2, t21_27), (3, t26_29)] (@hid _ ⟨fun t27_31 w32 =>
 S5 w32 ∧
 LoopK1 (.int .i64 0) w32 (@hid _ ⟨fun _ x6_33 w34 B35 =>
 BinK Tryd.prog .lss 3 x6_33 (.int .i64 4) (@hid _ ⟨fun t29_36 w37 =>
 BrK t29_36 (@hid _ ⟨
 IndexAtK Tryd.prog 136 t27_31 x6_33 (@hid _ ⟨fun t34_38 w39 =>
 LoadK Tryd.prog 3 t34_38 (@hid _ ⟨fun t35_40 w41 =>
 BinK Tryd.prog .neq 3 t35_40 (.int .i64 0) (@hid _ ⟨fun t36_42 w43 =>
 BrK t36_42 (@hid _ ⟨
 IndexAtK Tryd.prog 136 t27_31 x6_33 (@hid _ ⟨fun t39_44 w45 =>
 LoadK Tryd.prog 3 t39_44 (@hid _ ⟨fun t40_46 w47 =>
 R t40_46 w47⟩) w45⟩) w43⟩) (@hid _ ⟨
 BinK Tryd.prog .add 3 x6_33 (.int .i64 1) (@hid _ ⟨fun t31_48 w49 =>
 B35 t31_48 w49⟩) w43⟩)⟩) w41⟩) w39⟩) w37⟩) (@hid _ ⟨
 R (.int .i64 0) w37⟩)⟩) w34⟩)⟩) w30) ∧
 True⟩) w28) ∧
 True⟩) w26) ∧
 True⟩) w24) ∧
 True⟩) w6) ∧
 True⟩)⟩)⟩)⟩)⟩)⟩)⟩)⟩)⟩)⟩)⟩)⟩)⟩)⟩)⟩)⟩)⟩) w4⟩) w2⟩) w0
def a53 : Ann := (.seq .no (.seq (.plan (.take 0 (.take 1 (.take 2 (.take 3 (.take 5 (.take 6 (.take 7 (.take 8 (.take 10 (.take 11 (.take 12 (.take 13 (.take 15 (.take 16 (.take 17 (.take 18 (.alt 4 (.alt 9 (.alt 14 (.alt 19 (.alt 20 (.take 21 .done) .nil) .nil) .nil) .nil) .nil)))))))))))))))))) (.seq (.seq .no (.block (.loop [6] [(4, 4), (28, 40)] (.seq (.seq .no (.cond .no .no)) (.seq (.block (.seq .no (.cond (.seq .no .no) .no))) .no))))) (.seq .no .no))))
theorem F53_eq (x0 x1 : Value) (R : Value → World → Prop) (w0 : World) : F53 x0 x1 R w0 = vc Tryd.prog (bodyOf Tryd.f53) a53 (retQ Tryd.prog Tryd.f53 R) (envOf 0 [x0, x1]) w0 := by kernel_rfl
theorem F53_calls (x0 x1 : Value) (R : Value → World → Prop) (w0 : World) (h : F53 x0 x1 R w0) : CallK Tryd.prog 53 #[x0, x1] R w0 :=
 calls_vc (c := bodyOf Tryd.f53) Tryd.func53 (by kernel_rfl) (by kernel_rfl) a53 (by kernel_rfl) (by kernel_rfl) [x0, x1] (by rw [Tryd.ntmps53]; exact Nat.le_of_ble_eq_true rfl) w0 R ((F53_eq x0 x1 R w0).mp h)

/-- canton/digest.beside[canton/digest.Mark,canton/row.Row], its body as a formula. -/
def F54 (x0 x1 x2 x3 x4 : Value) (R : Value → World → Prop) (w0 : World) : Prop :=
 BuiltinK Tryd.prog .len #[23] 3 #[false] #[x0] (@hid _ ⟨fun t16_1 w2 =>
 LoopK2 (.int .i64 0) (.int .i64 0) w2 (@hid _ ⟨fun _ x10_3 x17_4 w5 B6 =>
 BinK Tryd.prog .lss 3 x17_4 t16_1 (@hid _ ⟨fun t18_7 w8 =>
 BrK t18_7 (@hid _ ⟨
 IndexAtK Tryd.prog 23 x0 x17_4 (@hid _ ⟨fun t19_9 w10 =>
 LoadK Tryd.prog 85 t19_9 (@hid _ ⟨fun t20_11 w12 =>
 AllocK Tryd.prog 85 (@hid _ ⟨fun t12_13 w14 =>
 StoreK Tryd.prog 85 t12_13 t20_11 (@hid _ ⟨fun tu_15 w16 =>
 CutK1 (@hid _ ⟨fun R17 =>
 LoopK1 x10_3 w16 (@hid _ ⟨fun _ x10_20 w21 B22 =>
 DrawK (@hid _ ⟨fun S23 w24 =>
 TakeO Tryd.prog S23 (builtin .len #[22] 3 #[false] #[x1]) (@hid _ ⟨fun t23_25 =>
 BinT Tryd.prog S23 .lss 3 x10_20 t23_25 (@hid _ ⟨fun t24_26 =>
 TakeG t24_26 true (fun k => k x3) (@hid _ ⟨fun t26_27 =>
 TakeG t24_26 true (fun k => k x1) (@hid _ ⟨fun t27_28 =>
 TakeG t24_26 true (fun k => k x10_20) (@hid _ ⟨fun t28_29 =>
 TakeG t24_26 true (fun k => TakeS Tryd.prog S23 (Instr.indexAt 22 t27_28 t28_29) k) (@hid _ ⟨fun t29_30 =>
 TakeG t24_26 true (fun k => TakeS Tryd.prog S23 (Instr.loadAt 55 t29_30) k) (@hid _ ⟨fun t30_31 =>
 TakeG t24_26 true (fun k => k x2) (@hid _ ⟨fun t32_32 =>
 TakeG t24_26 true (fun k => TakeS Tryd.prog S23 (Instr.loadAt 85 t12_13) k) (@hid _ ⟨fun t33_33 =>
 (GuardK t24_26 true (fun k w => CallV Tryd.prog t26_27 #[t30_31] k w) (@hid _ ⟨fun t31_34 w35 =>
 S23 w35 ∧
 (GuardK t24_26 true (fun k w => CallV Tryd.prog t32_32 #[t33_33] k w) (@hid _ ⟨fun t34_36 w37 =>
 S23 w37 ∧
 TakeG t24_26 true (fun k => BinT Tryd.prog S23 .lss 9 t31_34 t34_36 k) (@hid _ ⟨fun t35_38 =>
 PickT t24_26 t35_38 (.bool false) (@hid _ ⟨fun t36_39 =>
 BrK t36_39 (@hid _ ⟨
 BinK Tryd.prog .add 3 x10_20 (.int .i64 1) (@hid _ ⟨fun t38_40 w41 =>
 B22 t38_40 w41⟩) w37⟩) (@hid _ ⟨
 R17 x10_20 w37⟩)⟩)⟩)⟩) w35) ∧
 True⟩) w24) ∧
 True⟩)⟩)⟩)⟩)⟩)⟩)⟩)⟩)⟩)⟩) w21⟩)⟩)
 (@hid _ ⟨fun _ x10_18 w19 =>
 AllocK Tryd.prog 55 (@hid _ ⟨fun t13_42 w43 =>
 DrawK (@hid _ ⟨fun S44 w45 =>
 TakeO Tryd.prog S44 (builtin .len #[22] 3 #[false] #[x1]) (@hid _ ⟨fun t41_46 =>
 BinT Tryd.prog S44 .lss 3 x10_18 t41_46 (@hid _ ⟨fun t42_47 =>
 TakeG t42_47 true (fun k => k x3) (@hid _ ⟨fun t44_48 =>
 TakeG t42_47 true (fun k => k x1) (@hid _ ⟨fun t45_49 =>
 TakeG t42_47 true (fun k => k x10_18) (@hid _ ⟨fun t46_50 =>
 TakeG t42_47 true (fun k => TakeS Tryd.prog S44 (Instr.indexAt 22 t45_49 t46_50) k) (@hid _ ⟨fun t47_51 =>
 TakeG t42_47 true (fun k => TakeS Tryd.prog S44 (Instr.loadAt 55 t47_51) k) (@hid _ ⟨fun t48_52 =>
 TakeG t42_47 true (fun k => k x2) (@hid _ ⟨fun t50_53 =>
 TakeG t42_47 true (fun k => TakeS Tryd.prog S44 (Instr.loadAt 85 t12_13) k) (@hid _ ⟨fun t51_54 =>
 (GuardK t42_47 true (fun k w => CallV Tryd.prog t44_48 #[t48_52] k w) (@hid _ ⟨fun t49_55 w56 =>
 S44 w56 ∧
 (GuardK t42_47 true (fun k w => CallV Tryd.prog t50_53 #[t51_54] k w) (@hid _ ⟨fun t52_57 w58 =>
 S44 w58 ∧
 TakeG t42_47 true (fun k => BinT Tryd.prog S44 .eql 9 t49_55 t52_57 k) (@hid _ ⟨fun t53_59 =>
 PickT t42_47 t53_59 (.bool false) (@hid _ ⟨fun t54_60 =>
 CutK0 (@hid _ ⟨fun R61 =>
 BrK t54_60 (@hid _ ⟨
 IndexAtK Tryd.prog 22 x1 x10_18 (@hid _ ⟨fun t58_63 w64 =>
 LoadK Tryd.prog 55 t58_63 (@hid _ ⟨fun t59_65 w66 =>
 StoreK Tryd.prog 55 t13_42 t59_65 (@hid _ ⟨fun tu_67 w68 =>
 R61 w68⟩) w66⟩) w64⟩) w58⟩) (@hid _ ⟨
 R61 w58⟩)⟩)
 (@hid _ ⟨fun _ w62 =>
 LoadK Tryd.prog 85 t12_13 (@hid _ ⟨fun t61_69 w70 =>
 LoadK Tryd.prog 55 t13_42 (@hid _ ⟨fun t62_71 w72 =>
 CallV Tryd.prog x4 #[t61_69, t62_71, t54_60] (@hid _ ⟨fun t64_73 w74 =>
 BinK Tryd.prog .add 3 x17_4 (.int .i64 1) (@hid _ ⟨fun t65_75 w76 =>
 B6 x10_18 t65_75 w76⟩) w74⟩) w72⟩) w70⟩) w62⟩)⟩)⟩)⟩) w56) ∧
 True⟩) w45) ∧
 True⟩)⟩)⟩)⟩)⟩)⟩)⟩)⟩)⟩)⟩) w43⟩) w19⟩)⟩) w14⟩) w12⟩) w10⟩) w8⟩) (@hid _ ⟨
 R (.tuple #[]) w8⟩)⟩) w5⟩)⟩) w0
def a54 : Ann := (.seq .no (.seq .no (.block (.loop [10, 17] [(12, 14), (18, 65)] (.seq .no (.seq (.cond .no .no) (.seq (.block (.seq .no (.cut [10] [(21, 38)] (.block (.loop [10] [(21, 38)] (.seq (.seq (.plan (.take 0 (.take 1 (.take 2 (.take 3 (.take 4 (.take 5 (.take 6 (.take 7 (.take 8 (.take 9 (.take 11 (.take 12 (.alt 10 (.alt 13 (.take 14 (.take 15 .done)) .nil) .nil)))))))))))))) (.cond .no .no)) (.block .no)))) (.seq .no (.seq (.plan (.take 0 (.take 1 (.take 2 (.take 3 (.take 4 (.take 5 (.take 6 (.take 7 (.take 8 (.take 9 (.take 11 (.take 12 (.alt 10 (.alt 13 (.take 14 (.take 15 (.take 16 .done))) .nil) .nil)))))))))))))) (.cut [] [(55, 59)] (.seq .no (.cond .no .no)) .no)))))) .no)))))))
theorem F54_eq (x0 x1 x2 x3 x4 : Value) (R : Value → World → Prop) (w0 : World) : F54 x0 x1 x2 x3 x4 R w0 = vc Tryd.prog (bodyOf Tryd.f54) a54 (retQ Tryd.prog Tryd.f54 R) (envOf 0 [x0, x1, x2, x3, x4]) w0 := by kernel_rfl
theorem F54_calls (x0 x1 x2 x3 x4 : Value) (R : Value → World → Prop) (w0 : World) (h : F54 x0 x1 x2 x3 x4 R w0) : CallK Tryd.prog 54 #[x0, x1, x2, x3, x4] R w0 :=
 calls_vc (c := bodyOf Tryd.f54) Tryd.func54 (by kernel_rfl) (by kernel_rfl) a54 (by kernel_rfl) (by kernel_rfl) [x0, x1, x2, x3, x4] (by rw [Tryd.ntmps54]; exact Nat.le_of_ble_eq_true rfl) w0 R ((F54_eq x0 x1 x2 x3 x4 R w0).mp h)

/-- canton/digest.Want$1, its body as a formula. -/
def F55 (x0 x1 x2 x3 : Value) (R : Value → World → Prop) (w0 : World) : Prop :=
 BoxK Tryd.prog 85 x0 (@hid _ ⟨fun t4_1 w2 =>
 BoxK Tryd.prog 55 x1 (@hid _ ⟨fun t5_3 w4 =>
 UnK Tryd.prog .not x2 (@hid _ ⟨fun t8_5 w6 =>
 GuardK t8_5 false (fun k w => FieldAtK Tryd.prog 85 t4_1 1 k w) (@hid _ ⟨fun t10_7 w8 =>
 GuardK t8_5 false (fun k w => LoadK Tryd.prog 52 t10_7 k w) (@hid _ ⟨fun t11_9 w10 =>
 GuardK t8_5 false (fun k w => FieldAtK Tryd.prog 55 t5_3 1 k w) (@hid _ ⟨fun t12_11 w12 =>
 GuardK t8_5 false (fun k w => LoadK Tryd.prog 52 t12_11 k w) (@hid _ ⟨fun t13_13 w14 =>
 GuardK t8_5 false (fun k w => CallV Tryd.prog (.func (.func 50) #[] #[]) #[t11_9, t13_13] k w) (@hid _ ⟨fun t14_15 w16 =>
 PickK Tryd.prog t8_5 (.bool true) t14_15 (@hid _ ⟨fun t15_17 w18 =>
 BrK t15_17 (@hid _ ⟨
 LoadK Tryd.prog 24 x3 (@hid _ ⟨fun t16_19 w20 =>
 FieldAtK Tryd.prog 85 t4_1 0 (@hid _ ⟨fun t17_21 w22 =>
 LoadK Tryd.prog 9 t17_21 (@hid _ ⟨fun t18_23 w24 =>
 BuildSliceK Tryd.prog 24 1 #[(0, t18_23)] (@hid _ ⟨fun t19_25 w26 =>
 BuiltinK Tryd.prog .append #[24, 24] 24 #[false, false] #[t16_19, t19_25] (@hid _ ⟨fun t20_27 w28 =>
 StoreK Tryd.prog 24 x3 t20_27 (@hid _ ⟨fun tu_29 w30 =>
 R (.tuple #[]) w30⟩) w28⟩) w26⟩) w24⟩) w22⟩) w20⟩) w18⟩) (@hid _ ⟨
 R (.tuple #[]) w18⟩)⟩) w16⟩) w14⟩) w12⟩) w10⟩) w8⟩) w6⟩) w4⟩) w2⟩) w0
def a55 : Ann := (.seq .no (.seq .no (.cond .no .no)))
theorem F55_eq (x0 x1 x2 x3 : Value) (R : Value → World → Prop) (w0 : World) : F55 x0 x1 x2 x3 R w0 = vc Tryd.prog (bodyOf Tryd.f55) a55 (retQ Tryd.prog Tryd.f55 R) (envOf 0 [x0, x1, x2, x3]) w0 := by kernel_rfl
theorem F55_calls (x0 x1 x2 x3 : Value) (R : Value → World → Prop) (w0 : World) (h : F55 x0 x1 x2 x3 R w0) : CallK Tryd.prog 55 #[x0, x1, x2, x3] R w0 :=
 calls_vc (c := bodyOf Tryd.f55) Tryd.func55 (by kernel_rfl) (by kernel_rfl) a55 (by kernel_rfl) (by kernel_rfl) [x0, x1, x2, x3] (by rw [Tryd.ntmps55]; exact Nat.le_of_ble_eq_true rfl) w0 R ((F55_eq x0 x1 x2 x3 R w0).mp h)

/-- slices.Clip[[]string,string], its body as a formula. -/
def F56 (x0 : Value) (R : Value → World → Prop) (w0 : World) : Prop :=
 BuiltinK Tryd.prog .len #[24] 3 #[false] #[x0] (@hid _ ⟨fun t5_1 w2 =>
 BuiltinK Tryd.prog .len #[24] 3 #[false] #[x0] (@hid _ ⟨fun t7_3 w4 =>
 SliceK Tryd.prog 24 x0 none (some t5_1) (some t7_3) (@hid _ ⟨fun t8_5 w6 =>
 R t8_5 w6⟩) w4⟩) w2⟩) w0
def a56 : Ann := (.seq .no (.seq .no .no))
theorem F56_eq (x0 : Value) (R : Value → World → Prop) (w0 : World) : F56 x0 R w0 = vc Tryd.prog (bodyOf Tryd.f56) a56 (retQ Tryd.prog Tryd.f56 R) (envOf 0 [x0]) w0 := by kernel_rfl
theorem F56_calls (x0 : Value) (R : Value → World → Prop) (w0 : World) (h : F56 x0 R w0) : CallK Tryd.prog 56 #[x0] R w0 :=
 calls_vc (c := bodyOf Tryd.f56) Tryd.func56 (by kernel_rfl) (by kernel_rfl) a56 (by kernel_rfl) (by kernel_rfl) [x0] (by rw [Tryd.ntmps56]; exact Nat.le_of_ble_eq_true rfl) w0 R ((F56_eq x0 R w0).mp h)

/-- slices.Contains[[]string,string], its body as a formula. -/
def F57 (x0 x1 : Value) (R : Value → World → Prop) (w0 : World) : Prop :=
 CallV Tryd.prog (.func (.func 84) #[] #[]) #[x0, x1] (@hid _ ⟨fun t7_1 w2 =>
 BinK Tryd.prog .geq 3 t7_1 (.int .i64 0) (@hid _ ⟨fun t8_3 w4 =>
 R t8_3 w4⟩) w2⟩) w0
def a57 : Ann := (.seq .no (.seq .no .no))
theorem F57_eq (x0 x1 : Value) (R : Value → World → Prop) (w0 : World) : F57 x0 x1 R w0 = vc Tryd.prog (bodyOf Tryd.f57) a57 (retQ Tryd.prog Tryd.f57 R) (envOf 0 [x0, x1]) w0 := by kernel_rfl
theorem F57_calls (x0 x1 : Value) (R : Value → World → Prop) (w0 : World) (h : F57 x0 x1 R w0) : CallK Tryd.prog 57 #[x0, x1] R w0 :=
 calls_vc (c := bodyOf Tryd.f57) Tryd.func57 (by kernel_rfl) (by kernel_rfl) a57 (by kernel_rfl) (by kernel_rfl) [x0, x1] (by rw [Tryd.ntmps57]; exact Nat.le_of_ble_eq_true rfl) w0 R ((F57_eq x0 x1 R w0).mp h)

/-- cmp.Or[int], its body as a formula. -/
def F58 (x0 : Value) (R : Value → World → Prop) (w0 : World) : Prop :=
 BuiltinK Tryd.prog .len #[136] 3 #[false] #[x0] (@hid _ ⟨fun t7_1 w2 =>
 LoopK1 (.int .i64 0) w2 (@hid _ ⟨fun _ x8_3 w4 B5 =>
 BinK Tryd.prog .lss 3 x8_3 t7_1 (@hid _ ⟨fun t9_6 w7 =>
 BrK t9_6 (@hid _ ⟨
 IndexAtK Tryd.prog 136 x0 x8_3 (@hid _ ⟨fun t10_8 w9 =>
 LoadK Tryd.prog 3 t10_8 (@hid _ ⟨fun t11_10 w11 =>
 BinK Tryd.prog .neq 3 t11_10 (.int .i64 0) (@hid _ ⟨fun t14_12 w13 =>
 BrK t14_12 (@hid _ ⟨
 R t11_10 w13⟩) (@hid _ ⟨
 BinK Tryd.prog .add 3 x8_3 (.int .i64 1) (@hid _ ⟨fun t16_14 w15 =>
 B5 t16_14 w15⟩) w13⟩)⟩) w11⟩) w9⟩) w7⟩) (@hid _ ⟨
 R (.int .i64 0) w7⟩)⟩) w4⟩)⟩) w0
def a58 : Ann := (.seq .no (.seq .no (.seq (.seq .no (.block (.loop [8] [(2, 2), (5, 5), (9, 16)] (.seq .no (.seq (.cond .no .no) (.seq (.block (.seq .no (.seq .no (.cond (.seq .no .no) .no)))) .no)))))) (.seq .no .no))))
theorem F58_eq (x0 : Value) (R : Value → World → Prop) (w0 : World) : F58 x0 R w0 = vc Tryd.prog (bodyOf Tryd.f58) a58 (retQ Tryd.prog Tryd.f58 R) (envOf 0 [x0]) w0 := by kernel_rfl
theorem F58_calls (x0 : Value) (R : Value → World → Prop) (w0 : World) (h : F58 x0 R w0) : CallK Tryd.prog 58 #[x0] R w0 :=
 calls_vc (c := bodyOf Tryd.f58) Tryd.func58 (by kernel_rfl) (by kernel_rfl) a58 (by kernel_rfl) (by kernel_rfl) [x0] (by rw [Tryd.ntmps58]; exact Nat.le_of_ble_eq_true rfl) w0 R ((F58_eq x0 R w0).mp h)

/-- cmp.Compare[int64], its body as a formula. -/
def F59 (x0 x1 : Value) (R : Value → World → Prop) (w0 : World) : Prop :=
 CallV Tryd.prog (.func (.func 85) #[] #[]) #[x0] (@hid _ ⟨fun t8_1 w2 =>
 CallV Tryd.prog (.func (.func 85) #[] #[]) #[x1] (@hid _ ⟨fun t10_3 w4 =>
 BrK t8_1 (@hid _ ⟨
 BrK t10_3 (@hid _ ⟨
 R (.int .i64 0) w4⟩) (@hid _ ⟨
 R (.int .i64 (-1)) w4⟩)⟩) (@hid _ ⟨
 BrK t10_3 (@hid _ ⟨
 R (.int .i64 1) w4⟩) (@hid _ ⟨
 BinK Tryd.prog .lss 2 x0 x1 (@hid _ ⟨fun t16_5 w6 =>
 BrK t16_5 (@hid _ ⟨
 R (.int .i64 (-1)) w6⟩) (@hid _ ⟨
 BinK Tryd.prog .gtr 2 x0 x1 (@hid _ ⟨fun t19_7 w8 =>
 BrK t19_7 (@hid _ ⟨
 R (.int .i64 1) w8⟩) (@hid _ ⟨
 R (.int .i64 0) w8⟩)⟩) w6⟩)⟩) w4⟩)⟩)⟩) w2⟩) w0
def a59 : Ann := (.seq .no (.seq .no (.seq .no (.seq (.seq .no (.cond (.seq (.seq .no (.cond (.seq .no .no) .no)) (.seq .no .no)) .no)) (.seq (.seq .no (.cond (.seq .no .no) .no)) (.seq (.seq .no (.cond (.seq .no .no) .no)) (.seq (.seq .no (.cond (.seq .no .no) .no)) (.seq .no .no))))))))
theorem F59_eq (x0 x1 : Value) (R : Value → World → Prop) (w0 : World) : F59 x0 x1 R w0 = vc Tryd.prog (bodyOf Tryd.f59) a59 (retQ Tryd.prog Tryd.f59 R) (envOf 0 [x0, x1]) w0 := by kernel_rfl
theorem F59_calls (x0 x1 : Value) (R : Value → World → Prop) (w0 : World) (h : F59 x0 x1 R w0) : CallK Tryd.prog 59 #[x0, x1] R w0 :=
 calls_vc (c := bodyOf Tryd.f59) Tryd.func59 (by kernel_rfl) (by kernel_rfl) a59 (by kernel_rfl) (by kernel_rfl) [x0, x1] (by rw [Tryd.ntmps59]; exact Nat.le_of_ble_eq_true rfl) w0 R ((F59_eq x0 x1 R w0).mp h)

/-- canton/row.SameAttrs, its body as a formula. -/
def F60 (x0 x1 : Value) (R : Value → World → Prop) (w0 : World) : Prop :=
 CallV Tryd.prog (.func (.func 86) #[] #[]) #[x0, x1, (.func (.func 87) #[] #[])] (@hid _ ⟨fun t7_1 w2 =>
 R t7_1 w2⟩) w0
def a60 : Ann := (.seq .no (.seq .no .no))
theorem F60_eq (x0 x1 : Value) (R : Value → World → Prop) (w0 : World) : F60 x0 x1 R w0 = vc Tryd.prog (bodyOf Tryd.f60) a60 (retQ Tryd.prog Tryd.f60 R) (envOf 0 [x0, x1]) w0 := by kernel_rfl
theorem F60_calls (x0 x1 : Value) (R : Value → World → Prop) (w0 : World) (h : F60 x0 x1 R w0) : CallK Tryd.prog 60 #[x0, x1] R w0 :=
 calls_vc (c := bodyOf Tryd.f60) Tryd.func60 (by kernel_rfl) (by kernel_rfl) a60 (by kernel_rfl) (by kernel_rfl) [x0, x1] (by rw [Tryd.ntmps60]; exact Nat.le_of_ble_eq_true rfl) w0 R ((F60_eq x0 x1 R w0).mp h)

/-- (canton/cantonref21.Table).Get, its body as a formula. -/
def F61 (x0 x1 : Value) (R : Value → World → Prop) (w0 : World) : Prop :=
 BoxK Tryd.prog 60 x0 (@hid _ ⟨fun t2_1 w2 =>
 AllocK Tryd.prog 65 (@hid _ ⟨fun t4_3 w4 =>
 LoadK Tryd.prog 60 t2_1 (@hid _ ⟨fun t9_5 w6 =>
 CallV Tryd.prog (.func (.func 64) #[] #[]) #[t9_5, x1] (@hid _ ⟨fun t11_7 w8 =>
 ExtractK Tryd.prog t11_7 0 (@hid _ ⟨fun t12_9 w10 =>
 ExtractK Tryd.prog t11_7 1 (@hid _ ⟨fun t13_11 w12 =>
 UnK Tryd.prog .not t13_11 (@hid _ ⟨fun t15_13 w14 =>
 BrK t15_13 (@hid _ ⟨
 BuildK Tryd.prog 65 #[] (@hid _ ⟨fun t16_15 w16 =>
 StoreK Tryd.prog 65 t4_3 t16_15 (@hid _ ⟨fun tu_17 w18 =>
 LoadK Tryd.prog 65 t4_3 (@hid _ ⟨fun c19 w20 => w20 = w18 ∧ R (.tuple #[c19, (.bool false)]) w18⟩) w18⟩) w16⟩) w14⟩) (@hid _ ⟨
 FieldAtK Tryd.prog 60 t2_1 1 (@hid _ ⟨fun t17_21 w22 =>
 LoadK Tryd.prog 33 t17_21 (@hid _ ⟨fun t18_23 w24 =>
 IndexAtK Tryd.prog 33 t18_23 t12_9 (@hid _ ⟨fun t20_25 w26 =>
 LoadK Tryd.prog 65 t20_25 (@hid _ ⟨fun t21_27 w28 =>
 StoreK Tryd.prog 65 t4_3 t21_27 (@hid _ ⟨fun tu_29 w30 =>
 LoadK Tryd.prog 65 t4_3 (@hid _ ⟨fun c31 w32 => w32 = w30 ∧ R (.tuple #[c31, (.bool true)]) w30⟩) w30⟩) w28⟩) w26⟩) w24⟩) w22⟩) w14⟩)⟩) w12⟩) w10⟩) w8⟩) w6⟩) w4⟩) w2⟩) w0
def a61 : Ann := (.seq .no (.seq .no (.seq (.seq .no (.cond (.seq .no .no) .no)) (.seq .no .no))))
theorem F61_eq (x0 x1 : Value) (R : Value → World → Prop) (w0 : World) : F61 x0 x1 R w0 = vc Tryd.prog (bodyOf Tryd.f61) a61 (retQ Tryd.prog Tryd.f61 R) (envOf 0 [x0, x1]) w0 := by kernel_rfl
theorem F61_calls (x0 x1 : Value) (R : Value → World → Prop) (w0 : World) (h : F61 x0 x1 R w0) : CallK Tryd.prog 61 #[x0, x1] R w0 :=
 calls_vc (c := bodyOf Tryd.f61) Tryd.func61 (by kernel_rfl) (by kernel_rfl) a61 (by kernel_rfl) (by kernel_rfl) [x0, x1] (by rw [Tryd.ntmps61]; exact Nat.le_of_ble_eq_true rfl) w0 R ((F61_eq x0 x1 R w0).mp h)

/-- (canton/cantonref21.Table).Drop, its body as a formula. -/
def F62 (x0 x1 : Value) (R : Value → World → Prop) (w0 : World) : Prop :=
 BoxK Tryd.prog 60 x0 (@hid _ ⟨fun t2_1 w2 =>
 AllocK Tryd.prog 60 (@hid _ ⟨fun t4_3 w4 =>
 FieldAtK Tryd.prog 60 t2_1 0 (@hid _ ⟨fun t7_5 w6 =>
 LoadK Tryd.prog 3 t7_5 (@hid _ ⟨fun t8_7 w8 =>
 BuildK Tryd.prog 60 #[(0, t8_7)] (@hid _ ⟨fun t9_9 w10 =>
 AllocK Tryd.prog 60 (@hid _ ⟨fun t5_11 w12 =>
 StoreK Tryd.prog 60 t5_11 t9_9 (@hid _ ⟨fun tu_13 w14 =>
 LoopK1 (.int .i64 0) w14 (@hid _ ⟨fun _ x6_15 w16 B17 =>
 FieldAtK Tryd.prog 60 t2_1 1 (@hid _ ⟨fun t11_18 w19 =>
 LoadK Tryd.prog 33 t11_18 (@hid _ ⟨fun t12_20 w21 =>
 BuiltinK Tryd.prog .len #[33] 3 #[false] #[t12_20] (@hid _ ⟨fun t13_22 w23 =>
 BinK Tryd.prog .lss 3 x6_15 t13_22 (@hid _ ⟨fun t14_24 w25 =>
 BrK t14_24 (@hid _ ⟨
 FieldAtK Tryd.prog 60 t2_1 1 (@hid _ ⟨fun t17_26 w27 =>
 LoadK Tryd.prog 33 t17_26 (@hid _ ⟨fun t18_28 w29 =>
 IndexAtK Tryd.prog 33 t18_28 x6_15 (@hid _ ⟨fun t20_30 w31 =>
 FieldAtK Tryd.prog 65 t20_30 0 (@hid _ ⟨fun t21_32 w33 =>
 LoadK Tryd.prog 9 t21_32 (@hid _ ⟨fun t22_34 w35 =>
 BinK Tryd.prog .neq 9 t22_34 x1 (@hid _ ⟨fun t24_36 w37 =>
 BrK t24_36 (@hid _ ⟨
 DrawK (@hid _ ⟨fun S38 w39 =>
 TakeS Tryd.prog S38 (Instr.fieldAt 60 t5_11 1) (@hid _ ⟨fun t25_40 =>
 TakeS Tryd.prog S38 (Instr.fieldAt 60 t2_1 1) (@hid _ ⟨fun t27_41 =>
 TakeS Tryd.prog S38 (Instr.loadAt 33 t27_41) (@hid _ ⟨fun t28_42 =>
 TakeS Tryd.prog S38 (Instr.indexAt 33 t28_42 x6_15) (@hid _ ⟨fun t30_43 =>
 TakeS Tryd.prog S38 (Instr.loadAt 65 t30_43) (@hid _ ⟨fun t31_44 =>
 (LoadK Tryd.prog 33 t25_40 (@hid _ ⟨fun t26_45 w46 =>
 S38 w46 ∧
 (BuildSliceK Tryd.prog 33 1 #[(0, t31_44)] (@hid _ ⟨fun t32_47 w48 =>
 S38 w48 ∧
 (BuiltinK Tryd.prog .append #[33, 33] 33 #[false, false] #[t26_45, t32_47] (@hid _ ⟨fun t33_49 w50 =>
 S38 w50 ∧
 TakeS Tryd.prog S38 (Instr.fieldAt 60 t5_11 1) (@hid _ ⟨fun t34_51 =>
 (StoreK Tryd.prog 33 t34_51 t33_49 (@hid _ ⟨fun tu_52 w53 =>
 S38 w53 ∧
 BinK Tryd.prog .add 3 x6_15 (.int .i64 1) (@hid _ ⟨fun t16_54 w55 =>
 B17 t16_54 w55⟩) w53⟩) w50) ∧
 True⟩)⟩) w48) ∧
 True⟩) w46) ∧
 True⟩) w39) ∧
 (BuildSliceK Tryd.prog 33 1 #[(0, t31_44)] (@hid _ ⟨fun t32_56 w57 =>
 S38 w57 ∧
 (LoadK Tryd.prog 33 t25_40 (@hid _ ⟨fun t26_58 w59 =>
 S38 w59 ∧
 (BuiltinK Tryd.prog .append #[33, 33] 33 #[false, false] #[t26_58, t32_56] (@hid _ ⟨fun t33_60 w61 =>
 S38 w61 ∧
 TakeS Tryd.prog S38 (Instr.fieldAt 60 t5_11 1) (@hid _ ⟨fun t34_62 =>
 (StoreK Tryd.prog 33 t34_62 t33_60 (@hid _ ⟨fun tu_63 w64 =>
 S38 w64 ∧
 BinK Tryd.prog .add 3 x6_15 (.int .i64 1) (@hid _ ⟨fun t16_65 w66 =>
 B17 t16_65 w66⟩) w64⟩) w61) ∧
 True⟩)⟩) w59) ∧
 True⟩) w57) ∧
 True⟩) w39) ∧
 True⟩)⟩)⟩)⟩)⟩)⟩) w37⟩) (@hid _ ⟨
 BinK Tryd.prog .add 3 x6_15 (.int .i64 1) (@hid _ ⟨fun t16_67 w68 =>
 B17 t16_67 w68⟩) w37⟩)⟩) w35⟩) w33⟩) w31⟩) w29⟩) w27⟩) w25⟩) (@hid _ ⟨
 LoadK Tryd.prog 60 t5_11 (@hid _ ⟨fun t35_69 w70 =>
 StoreK Tryd.prog 60 t4_3 t35_69 (@hid _ ⟨fun tu_71 w72 =>
 LoadK Tryd.prog 60 t4_3 (@hid _ ⟨fun c73 w74 => w74 = w72 ∧ R c73 w72⟩) w72⟩) w70⟩) w25⟩)⟩) w23⟩) w21⟩) w19⟩) w16⟩)⟩) w12⟩) w10⟩) w8⟩) w6⟩) w4⟩) w2⟩) w0
def a62 : Ann := (.seq .no (.seq .no (.seq (.seq .no (.block (.loop [6] [(10, 34)] (.seq (.seq .no (.cond .no .no)) (.seq (.block (.seq .no (.cond (.plan (.take 0 (.take 2 (.take 3 (.take 4 (.take 5 (.take 6 (.alt 1 (.alt 7 (.alt 8 (.take 9 (.alt 10 .done .nil)) .nil) .nil) (.alt 7 (.alt 1 (.alt 8 (.take 9 (.alt 10 .done .nil)) .nil) .nil) .nil))))))))) .no))) .no))))) (.seq .no .no))))
theorem F62_eq (x0 x1 : Value) (R : Value → World → Prop) (w0 : World) : F62 x0 x1 R w0 = vc Tryd.prog (bodyOf Tryd.f62) a62 (retQ Tryd.prog Tryd.f62 R) (envOf 0 [x0, x1]) w0 := by kernel_rfl
theorem F62_calls (x0 x1 : Value) (R : Value → World → Prop) (w0 : World) (h : F62 x0 x1 R w0) : CallK Tryd.prog 62 #[x0, x1] R w0 :=
 calls_vc (c := bodyOf Tryd.f62) Tryd.func62 (by kernel_rfl) (by kernel_rfl) a62 (by kernel_rfl) (by kernel_rfl) [x0, x1] (by rw [Tryd.ntmps62]; exact Nat.le_of_ble_eq_true rfl) w0 R ((F62_eq x0 x1 R w0).mp h)

/-- (canton/cantonref21.Table).least, its body as a formula. -/
def F63 (x0 : Value) (R : Value → World → Prop) (w0 : World) : Prop :=
 BoxK Tryd.prog 60 x0 (@hid _ ⟨fun t1_1 w2 =>
 AllocK Tryd.prog 65 (@hid _ ⟨fun t2_3 w4 =>
 FieldAtK Tryd.prog 60 t1_1 1 (@hid _ ⟨fun t5_5 w6 =>
 LoadK Tryd.prog 33 t5_5 (@hid _ ⟨fun t6_7 w8 =>
 IndexAtK Tryd.prog 33 t6_7 (.int .i64 0) (@hid _ ⟨fun t7_9 w10 =>
 LoadK Tryd.prog 65 t7_9 (@hid _ ⟨fun t8_11 w12 =>
 AllocK Tryd.prog 65 (@hid _ ⟨fun t3_13 w14 =>
 StoreK Tryd.prog 65 t3_13 t8_11 (@hid _ ⟨fun tu_15 w16 =>
 LoopK1 (.int .i64 1) w16 (@hid _ ⟨fun _ x4_17 w18 B19 =>
 FieldAtK Tryd.prog 60 t1_1 1 (@hid _ ⟨fun t10_20 w21 =>
 LoadK Tryd.prog 33 t10_20 (@hid _ ⟨fun t11_22 w23 =>
 BuiltinK Tryd.prog .len #[33] 3 #[false] #[t11_22] (@hid _ ⟨fun t12_24 w25 =>
 BinK Tryd.prog .lss 3 x4_17 t12_24 (@hid _ ⟨fun t13_26 w27 =>
 BrK t13_26 (@hid _ ⟨
 DrawK (@hid _ ⟨fun S28 w29 =>
 TakeS Tryd.prog S28 (Instr.fieldAt 60 t1_1 1) (@hid _ ⟨fun t16_30 =>
 TakeS Tryd.prog S28 (Instr.loadAt 33 t16_30) (@hid _ ⟨fun t17_31 =>
 TakeS Tryd.prog S28 (Instr.indexAt 33 t17_31 x4_17) (@hid _ ⟨fun t19_32 =>
 TakeS Tryd.prog S28 (Instr.fieldAt 65 t19_32 1) (@hid _ ⟨fun t20_33 =>
 TakeS Tryd.prog S28 (Instr.loadAt 38 t20_33) (@hid _ ⟨fun t21_34 =>
 TakeS Tryd.prog S28 (Instr.fieldAt 65 t3_13 1) (@hid _ ⟨fun t22_35 =>
 TakeS Tryd.prog S28 (Instr.loadAt 38 t22_35) (@hid _ ⟨fun t23_36 =>
 (CallV Tryd.prog (.func (.func 53) #[] #[]) #[t21_34, t23_36] (@hid _ ⟨fun t24_37 w38 =>
 S28 w38 ∧
 BinT Tryd.prog S28 .lss 3 t24_37 (.int .i64 0) (@hid _ ⟨fun t25_39 =>
 BrK t25_39 (@hid _ ⟨
 FieldAtK Tryd.prog 60 t1_1 1 (@hid _ ⟨fun t26_40 w41 =>
 LoadK Tryd.prog 33 t26_40 (@hid _ ⟨fun t27_42 w43 =>
 IndexAtK Tryd.prog 33 t27_42 x4_17 (@hid _ ⟨fun t29_44 w45 =>
 LoadK Tryd.prog 65 t29_44 (@hid _ ⟨fun t30_46 w47 =>
 StoreK Tryd.prog 65 t3_13 t30_46 (@hid _ ⟨fun tu_48 w49 =>
 BinK Tryd.prog .add 3 x4_17 (.int .i64 1) (@hid _ ⟨fun t15_50 w51 =>
 B19 t15_50 w51⟩) w49⟩) w47⟩) w45⟩) w43⟩) w41⟩) w38⟩) (@hid _ ⟨
 BinK Tryd.prog .add 3 x4_17 (.int .i64 1) (@hid _ ⟨fun t15_52 w53 =>
 B19 t15_52 w53⟩) w38⟩)⟩)⟩) w29) ∧
 True⟩)⟩)⟩)⟩)⟩)⟩)⟩)⟩) w27⟩) (@hid _ ⟨
 LoadK Tryd.prog 65 t3_13 (@hid _ ⟨fun t31_54 w55 =>
 StoreK Tryd.prog 65 t2_3 t31_54 (@hid _ ⟨fun tu_56 w57 =>
 LoadK Tryd.prog 65 t2_3 (@hid _ ⟨fun c58 w59 => w59 = w57 ∧ R c58 w57⟩) w57⟩) w55⟩) w27⟩)⟩) w25⟩) w23⟩) w21⟩) w18⟩)⟩) w14⟩) w12⟩) w10⟩) w8⟩) w6⟩) w4⟩) w2⟩) w0
def a63 : Ann := (.seq .no (.seq .no (.seq (.seq .no (.block (.loop [4] [(9, 30)] (.seq (.seq .no (.cond .no .no)) (.seq (.block (.seq (.plan (.take 0 (.take 1 (.take 2 (.take 3 (.take 4 (.take 5 (.take 6 (.take 7 (.alt 8 (.take 9 .done) .nil)))))))))) (.cond .no .no))) .no))))) (.seq .no .no))))
theorem F63_eq (x0 : Value) (R : Value → World → Prop) (w0 : World) : F63 x0 R w0 = vc Tryd.prog (bodyOf Tryd.f63) a63 (retQ Tryd.prog Tryd.f63 R) (envOf 0 [x0]) w0 := by kernel_rfl
theorem F63_calls (x0 : Value) (R : Value → World → Prop) (w0 : World) (h : F63 x0 R w0) : CallK Tryd.prog 63 #[x0] R w0 :=
 calls_vc (c := bodyOf Tryd.f63) Tryd.func63 (by kernel_rfl) (by kernel_rfl) a63 (by kernel_rfl) (by kernel_rfl) [x0] (by rw [Tryd.ntmps63]; exact Nat.le_of_ble_eq_true rfl) w0 R ((F63_eq x0 R w0).mp h)

/-- (canton/cantonref21.Table).at, its body as a formula. -/
def F64 (x0 x1 : Value) (R : Value → World → Prop) (w0 : World) : Prop :=
 BoxK Tryd.prog 60 x0 (@hid _ ⟨fun t2_1 w2 =>
 LoopK1 (.int .i64 0) w2 (@hid _ ⟨fun _ x6_3 w4 B5 =>
 FieldAtK Tryd.prog 60 t2_1 1 (@hid _ ⟨fun t8_6 w7 =>
 LoadK Tryd.prog 33 t8_6 (@hid _ ⟨fun t9_8 w9 =>
 BuiltinK Tryd.prog .len #[33] 3 #[false] #[t9_8] (@hid _ ⟨fun t10_10 w11 =>
 BinK Tryd.prog .lss 3 x6_3 t10_10 (@hid _ ⟨fun t11_12 w13 =>
 GuardK t11_12 true (fun k w => FieldAtK Tryd.prog 60 t2_1 1 k w) (@hid _ ⟨fun t13_14 w15 =>
 GuardK t11_12 true (fun k w => LoadK Tryd.prog 33 t13_14 k w) (@hid _ ⟨fun t14_16 w17 =>
 GuardK t11_12 true (fun k w => k x6_3 w) (@hid _ ⟨fun t15_18 w19 =>
 GuardK t11_12 true (fun k w => IndexAtK Tryd.prog 33 t14_16 t15_18 k w) (@hid _ ⟨fun t16_20 w21 =>
 GuardK t11_12 true (fun k w => FieldAtK Tryd.prog 65 t16_20 0 k w) (@hid _ ⟨fun t17_22 w23 =>
 GuardK t11_12 true (fun k w => LoadK Tryd.prog 9 t17_22 k w) (@hid _ ⟨fun t18_24 w25 =>
 GuardK t11_12 true (fun k w => k x1 w) (@hid _ ⟨fun t19_26 w27 =>
 GuardK t11_12 true (fun k w => BinK Tryd.prog .lss 9 t18_24 t19_26 k w) (@hid _ ⟨fun t20_28 w29 =>
 PickK Tryd.prog t11_12 t20_28 (.bool false) (@hid _ ⟨fun t21_30 w31 =>
 BrK t21_30 (@hid _ ⟨
 BinK Tryd.prog .add 3 x6_3 (.int .i64 1) (@hid _ ⟨fun t23_32 w33 =>
 B5 t23_32 w33⟩) w31⟩) (@hid _ ⟨
 DrawK (@hid _ ⟨fun S34 w35 =>
 TakeS Tryd.prog S34 (Instr.fieldAt 60 t2_1 1) (@hid _ ⟨fun t26_36 =>
 TakeS Tryd.prog S34 (Instr.loadAt 33 t26_36) (@hid _ ⟨fun t27_37 =>
 TakeO Tryd.prog S34 (builtin .len #[33] 3 #[false] #[t27_37]) (@hid _ ⟨fun t28_38 =>
 BinT Tryd.prog S34 .lss 3 x6_3 t28_38 (@hid _ ⟨fun t29_39 =>
 TakeG t29_39 true (fun k => TakeS Tryd.prog S34 (Instr.fieldAt 60 t2_1 1) k) (@hid _ ⟨fun t31_40 =>
 TakeG t29_39 true (fun k => TakeS Tryd.prog S34 (Instr.loadAt 33 t31_40) k) (@hid _ ⟨fun t32_41 =>
 TakeG t29_39 true (fun k => k x6_3) (@hid _ ⟨fun t33_42 =>
 TakeG t29_39 true (fun k => TakeS Tryd.prog S34 (Instr.indexAt 33 t32_41 t33_42) k) (@hid _ ⟨fun t34_43 =>
 TakeG t29_39 true (fun k => TakeS Tryd.prog S34 (Instr.fieldAt 65 t34_43 0) k) (@hid _ ⟨fun t35_44 =>
 TakeG t29_39 true (fun k => TakeS Tryd.prog S34 (Instr.loadAt 9 t35_44) k) (@hid _ ⟨fun t36_45 =>
 TakeG t29_39 true (fun k => k x1) (@hid _ ⟨fun t37_46 =>
 TakeG t29_39 true (fun k => BinT Tryd.prog S34 .eql 9 t36_45 t37_46 k) (@hid _ ⟨fun t38_47 =>
 PickT t29_39 t38_47 (.bool false) (@hid _ ⟨fun t39_48 =>
 R (.tuple #[x6_3, t39_48]) w35⟩)⟩)⟩)⟩)⟩)⟩)⟩)⟩)⟩)⟩)⟩)⟩)⟩)⟩) w31⟩)⟩) w29⟩) w27⟩) w25⟩) w23⟩) w21⟩) w19⟩) w17⟩) w15⟩) w13⟩) w11⟩) w9⟩) w7⟩) w4⟩)⟩) w0
def a64 : Ann := (.seq .no (.seq .no (.seq (.block (.loop [6] [(7, 23)] (.seq (.seq .no (.cond .no .no)) (.block .no)))) (.seq (.plan (.take 0 (.take 1 (.take 2 (.take 3 (.take 4 (.take 5 (.take 6 (.take 7 (.take 8 (.take 9 (.take 10 (.take 11 (.take 12 (.take 13 (.take 14 (.take 15 (.take 16 (.take 17 .done))))))))))))))))))) .no))))
theorem F64_eq (x0 x1 : Value) (R : Value → World → Prop) (w0 : World) : F64 x0 x1 R w0 = vc Tryd.prog (bodyOf Tryd.f64) a64 (retQ Tryd.prog Tryd.f64 R) (envOf 0 [x0, x1]) w0 := by kernel_rfl
theorem F64_calls (x0 x1 : Value) (R : Value → World → Prop) (w0 : World) (h : F64 x0 x1 R w0) : CallK Tryd.prog 64 #[x0, x1] R w0 :=
 calls_vc (c := bodyOf Tryd.f64) Tryd.func64 (by kernel_rfl) (by kernel_rfl) a64 (by kernel_rfl) (by kernel_rfl) [x0, x1] (by rw [Tryd.ntmps64]; exact Nat.le_of_ble_eq_true rfl) w0 R ((F64_eq x0 x1 R w0).mp h)

/-- canton/cantonref7.Same, its body as a formula. -/
def F65 (x0 x1 : Value) (R : Value → World → Prop) (w0 : World) : Prop :=
 BoxK Tryd.prog 65 x0 (@hid _ ⟨fun t2_1 w2 =>
 BoxK Tryd.prog 65 x1 (@hid _ ⟨fun t3_3 w4 =>
 FieldAtK Tryd.prog 65 t2_1 0 (@hid _ ⟨fun t5_5 w6 =>
 LoadK Tryd.prog 9 t5_5 (@hid _ ⟨fun t6_7 w8 =>
 FieldAtK Tryd.prog 65 t3_3 0 (@hid _ ⟨fun t7_9 w10 =>
 LoadK Tryd.prog 9 t7_9 (@hid _ ⟨fun t8_11 w12 =>
 BinK Tryd.prog .eql 9 t6_7 t8_11 (@hid _ ⟨fun t9_13 w14 =>
 GuardK t9_13 true (fun k w => FieldAtK Tryd.prog 65 t2_1 1 k w) (@hid _ ⟨fun t11_15 w16 =>
 GuardK t9_13 true (fun k w => LoadK Tryd.prog 38 t11_15 k w) (@hid _ ⟨fun t12_17 w18 =>
 GuardK t9_13 true (fun k w => FieldAtK Tryd.prog 65 t3_3 1 k w) (@hid _ ⟨fun t13_19 w20 =>
 GuardK t9_13 true (fun k w => LoadK Tryd.prog 38 t13_19 k w) (@hid _ ⟨fun t14_21 w22 =>
 GuardK t9_13 true (fun k w => CallV Tryd.prog (.func (.func 53) #[] #[]) #[t12_17, t14_21] k w) (@hid _ ⟨fun t15_23 w24 =>
 GuardK t9_13 true (fun k w => BinK Tryd.prog .eql 3 t15_23 (.int .i64 0) k w) (@hid _ ⟨fun t16_25 w26 =>
 PickK Tryd.prog t9_13 t16_25 (.bool false) (@hid _ ⟨fun t17_27 w28 =>
 GuardK t17_27 true (fun k w => FieldAtK Tryd.prog 65 t2_1 2 k w) (@hid _ ⟨fun t19_29 w30 =>
 GuardK t17_27 true (fun k w => LoadK Tryd.prog 63 t19_29 k w) (@hid _ ⟨fun t20_31 w32 =>
 GuardK t17_27 true (fun k w => FieldAtK Tryd.prog 65 t3_3 2 k w) (@hid _ ⟨fun t21_33 w34 =>
 GuardK t17_27 true (fun k w => LoadK Tryd.prog 63 t21_33 k w) (@hid _ ⟨fun t22_35 w36 =>
 GuardK t17_27 true (fun k w => CallV Tryd.prog (.func (.func 89) #[] #[]) #[t20_31, t22_35] k w) (@hid _ ⟨fun t23_37 w38 =>
 PickK Tryd.prog t17_27 t23_37 (.bool false) (@hid _ ⟨fun t24_39 w40 =>
 R t24_39 w40⟩) w38⟩) w36⟩) w34⟩) w32⟩) w30⟩) w28⟩) w26⟩) w24⟩) w22⟩) w20⟩) w18⟩) w16⟩) w14⟩) w12⟩) w10⟩) w8⟩) w6⟩) w4⟩) w2⟩) w0
def a65 : Ann := (.seq .no (.seq .no .no))
theorem F65_eq (x0 x1 : Value) (R : Value → World → Prop) (w0 : World) : F65 x0 x1 R w0 = vc Tryd.prog (bodyOf Tryd.f65) a65 (retQ Tryd.prog Tryd.f65 R) (envOf 0 [x0, x1]) w0 := by kernel_rfl
theorem F65_calls (x0 x1 : Value) (R : Value → World → Prop) (w0 : World) (h : F65 x0 x1 R w0) : CallK Tryd.prog 65 #[x0, x1] R w0 :=
 calls_vc (c := bodyOf Tryd.f65) Tryd.func65 (by kernel_rfl) (by kernel_rfl) a65 (by kernel_rfl) (by kernel_rfl) [x0, x1] (by rw [Tryd.ntmps65]; exact Nat.le_of_ble_eq_true rfl) w0 R ((F65_eq x0 x1 R w0).mp h)

/-- canton/elect.stands, its body as a formula. -/
def F66 (x0 : Value) (R : Value → World → Prop) (w0 : World) : Prop :=
 BoxK Tryd.prog 55 x0 (@hid _ ⟨fun t1_1 w2 =>
 AllocK Tryd.prog 73 (@hid _ ⟨fun t2_3 w4 =>
 FieldAtK Tryd.prog 55 t1_1 2 (@hid _ ⟨fun t10_5 w6 =>
 LoadK Tryd.prog 53 t10_5 (@hid _ ⟨fun t11_7 w8 =>
 CallV Tryd.prog (.func (.func 90) #[] #[]) #[t11_7, (.string { data := #[114, 101, 112] })] (@hid _ ⟨fun t12_9 w10 =>
 ExtractK Tryd.prog t12_9 0 (@hid _ ⟨fun t13_11 w12 =>
 ExtractK Tryd.prog t12_9 1 (@hid _ ⟨fun t14_13 w14 =>
 AllocK Tryd.prog 126 (@hid _ ⟨fun t4_15 w16 =>
 StoreK Tryd.prog 126 t4_15 t13_11 (@hid _ ⟨fun tu_17 w18 =>
 UnK Tryd.prog .not t14_13 (@hid _ ⟨fun t16_19 w20 =>
 GuardK t16_19 false (fun k w => FieldAtK Tryd.prog 126 t4_15 0 k w) (@hid _ ⟨fun t18_21 w22 =>
 GuardK t16_19 false (fun k w => LoadK Tryd.prog 3 t18_21 k w) (@hid _ ⟨fun t19_23 w24 =>
 GuardK t16_19 false (fun k w => BinK Tryd.prog .neq 3 t19_23 (.int .i64 2) k w) (@hid _ ⟨fun t20_25 w26 =>
 PickK Tryd.prog t16_19 (.bool true) t20_25 (@hid _ ⟨fun t21_27 w28 =>
 GuardK t21_27 false (fun k w => FieldAtK Tryd.prog 126 t4_15 2 k w) (@hid _ ⟨fun t23_29 w30 =>
 GuardK t21_27 false (fun k w => LoadK Tryd.prog 9 t23_29 k w) (@hid _ ⟨fun t24_31 w32 =>
 GuardK t21_27 false (fun k w => CallV Tryd.prog (.func (.func 91) #[] #[]) #[t24_31] k w) (@hid _ ⟨fun t25_33 w34 =>
 GuardK t21_27 false (fun k w => BinK Tryd.prog .lss 3 t25_33 (.int .i64 1) k w) (@hid _ ⟨fun t26_35 w36 =>
 PickK Tryd.prog t21_27 (.bool true) t26_35 (@hid _ ⟨fun t27_37 w38 =>
 BrK t27_37 (@hid _ ⟨
 BuildK Tryd.prog 73 #[] (@hid _ ⟨fun t28_39 w40 =>
 StoreK Tryd.prog 73 t2_3 t28_39 (@hid _ ⟨fun tu_41 w42 =>
 LoadK Tryd.prog 73 t2_3 (@hid _ ⟨fun c43 w44 => w44 = w42 ∧ R (.tuple #[c43, (.bool false)]) w42⟩) w42⟩) w40⟩) w38⟩) (@hid _ ⟨
 FieldAtK Tryd.prog 55 t1_1 0 (@hid _ ⟨fun t29_45 w46 =>
 LoadK Tryd.prog 9 t29_45 (@hid _ ⟨fun t30_47 w48 =>
 FieldAtK Tryd.prog 126 t4_15 2 (@hid _ ⟨fun t31_49 w50 =>
 LoadK Tryd.prog 9 t31_49 (@hid _ ⟨fun t32_51 w52 =>
 BuildK Tryd.prog 73 #[(0, t30_47), (1, t32_51)] (@hid _ ⟨fun t33_53 w54 =>
 AllocK Tryd.prog 73 (@hid _ ⟨fun t6_55 w56 =>
 StoreK Tryd.prog 73 t6_55 t33_53 (@hid _ ⟨fun tu_57 w58 =>
 FieldAtK Tryd.prog 55 t1_1 2 (@hid _ ⟨fun t35_59 w60 =>
 LoadK Tryd.prog 53 t35_59 (@hid _ ⟨fun t36_61 w62 =>
 CallV Tryd.prog (.func (.func 90) #[] #[]) #[t36_61, (.string { data := #[108, 111, 97, 100] })] (@hid _ ⟨fun t37_63 w64 =>
 ExtractK Tryd.prog t37_63 0 (@hid _ ⟨fun t38_65 w66 =>
 ExtractK Tryd.prog t37_63 1 (@hid _ ⟨fun t39_67 w68 =>
 AllocK Tryd.prog 126 (@hid _ ⟨fun t7_69 w70 =>
 StoreK Tryd.prog 126 t7_69 t38_65 (@hid _ ⟨fun tu_71 w72 =>
 GuardK t39_67 true (fun k w => FieldAtK Tryd.prog 126 t7_69 0 k w) (@hid _ ⟨fun t42_73 w74 =>
 GuardK t39_67 true (fun k w => LoadK Tryd.prog 3 t42_73 k w) (@hid _ ⟨fun t43_75 w76 =>
 GuardK t39_67 true (fun k w => BinK Tryd.prog .eql 3 t43_75 (.int .i64 1) k w) (@hid _ ⟨fun t44_77 w78 =>
 PickK Tryd.prog t39_67 t44_77 (.bool false) (@hid _ ⟨fun t45_79 w80 =>
 BrK t45_79 (@hid _ ⟨
 FieldAtK Tryd.prog 126 t7_69 1 (@hid _ ⟨fun t46_81 w82 =>
 LoadK Tryd.prog 2 t46_81 (@hid _ ⟨fun t47_83 w84 =>
 FieldAtK Tryd.prog 73 t6_55 2 (@hid _ ⟨fun t48_85 w86 =>
 StoreK Tryd.prog 2 t48_85 t47_83 (@hid _ ⟨fun tu_87 w88 =>
 LoadK Tryd.prog 73 t6_55 (@hid _ ⟨fun t49_89 w90 =>
 StoreK Tryd.prog 73 t2_3 t49_89 (@hid _ ⟨fun tu_91 w92 =>
 LoadK Tryd.prog 73 t2_3 (@hid _ ⟨fun c93 w94 => w94 = w92 ∧ R (.tuple #[c93, (.bool true)]) w92⟩) w92⟩) w90⟩) w88⟩) w86⟩) w84⟩) w82⟩) w80⟩) (@hid _ ⟨
 LoadK Tryd.prog 73 t6_55 (@hid _ ⟨fun t49_95 w96 =>
 StoreK Tryd.prog 73 t2_3 t49_95 (@hid _ ⟨fun tu_97 w98 =>
 LoadK Tryd.prog 73 t2_3 (@hid _ ⟨fun c99 w100 => w100 = w98 ∧ R (.tuple #[c99, (.bool true)]) w98⟩) w98⟩) w96⟩) w80⟩)⟩) w78⟩) w76⟩) w74⟩) w72⟩) w70⟩) w68⟩) w66⟩) w64⟩) w62⟩) w60⟩) w58⟩) w56⟩) w54⟩) w52⟩) w50⟩) w48⟩) w46⟩) w38⟩)⟩) w36⟩) w34⟩) w32⟩) w30⟩) w28⟩) w26⟩) w24⟩) w22⟩) w20⟩) w18⟩) w16⟩) w14⟩) w12⟩) w10⟩) w8⟩) w6⟩) w4⟩) w2⟩) w0
def a66 : Ann := (.seq .no (.seq .no (.seq (.seq .no (.cond (.seq .no .no) .no)) (.seq .no (.seq (.seq .no (.seq .no (.cond .no .no))) (.seq .no .no))))))
theorem F66_eq (x0 : Value) (R : Value → World → Prop) (w0 : World) : F66 x0 R w0 = vc Tryd.prog (bodyOf Tryd.f66) a66 (retQ Tryd.prog Tryd.f66 R) (envOf 0 [x0]) w0 := by kernel_rfl
theorem F66_calls (x0 : Value) (R : Value → World → Prop) (w0 : World) (h : F66 x0 R w0) : CallK Tryd.prog 66 #[x0] R w0 :=
 calls_vc (c := bodyOf Tryd.f66) Tryd.func66 (by kernel_rfl) (by kernel_rfl) a66 (by kernel_rfl) (by kernel_rfl) [x0] (by rw [Tryd.ntmps66]; exact Nat.le_of_ble_eq_true rfl) w0 R ((F66_eq x0 R w0).mp h)

/-- slices.SortStableFunc[[]canton/elect.Choice,canton/elect.Choice], its body as a formula. -/
def F67 (x0 x1 : Value) (R : Value → World → Prop) (w0 : World) : Prop :=
 BuiltinK Tryd.prog .len #[68] 3 #[false] #[x0] (@hid _ ⟨fun t6_1 w2 =>
 CallV Tryd.prog (.func (.func 92) #[] #[]) #[x0, t6_1, x1] (@hid _ ⟨fun t8_3 w4 =>
 R (.tuple #[]) w4⟩) w2⟩) w0
def a67 : Ann := .no
theorem F67_eq (x0 x1 : Value) (R : Value → World → Prop) (w0 : World) : F67 x0 x1 R w0 = vc Tryd.prog (bodyOf Tryd.f67) a67 (retQ Tryd.prog Tryd.f67 R) (envOf 0 [x0, x1]) w0 := by kernel_rfl
theorem F67_calls (x0 x1 : Value) (R : Value → World → Prop) (w0 : World) (h : F67 x0 x1 R w0) : CallK Tryd.prog 67 #[x0, x1] R w0 :=
 calls_vc (c := bodyOf Tryd.f67) Tryd.func67 (by kernel_rfl) (by kernel_rfl) a67 (by kernel_rfl) (by kernel_rfl) [x0, x1] (by rw [Tryd.ntmps67]; exact Nat.le_of_ble_eq_true rfl) w0 R ((F67_eq x0 x1 R w0).mp h)

/-- canton/elect.Order$1, its body as a formula. -/
def F68 (x0 x1 : Value) (R : Value → World → Prop) (w0 : World) : Prop :=
 BoxK Tryd.prog 73 x0 (@hid _ ⟨fun t2_1 w2 =>
 BoxK Tryd.prog 73 x1 (@hid _ ⟨fun t3_3 w4 =>
 DrawK (@hid _ ⟨fun S5 w6 =>
 TakeS Tryd.prog S5 (Instr.fieldAt 73 t2_1 2) (@hid _ ⟨fun t5_7 =>
 TakeS Tryd.prog S5 (Instr.loadAt 2 t5_7) (@hid _ ⟨fun t6_8 =>
 TakeS Tryd.prog S5 (Instr.fieldAt 73 t3_3 2) (@hid _ ⟨fun t7_9 =>
 TakeS Tryd.prog S5 (Instr.loadAt 2 t7_9) (@hid _ ⟨fun t8_10 =>
 TakeS Tryd.prog S5 (Instr.fieldAt 73 t2_1 1) (@hid _ ⟨fun t10_11 =>
 TakeS Tryd.prog S5 (Instr.loadAt 9 t10_11) (@hid _ ⟨fun t11_12 =>
 TakeS Tryd.prog S5 (Instr.fieldAt 73 t3_3 1) (@hid _ ⟨fun t12_13 =>
 TakeS Tryd.prog S5 (Instr.loadAt 9 t12_13) (@hid _ ⟨fun t13_14 =>
 TakeS Tryd.prog S5 (Instr.fieldAt 73 t2_1 0) (@hid _ ⟨fun t15_15 =>
 TakeS Tryd.prog S5 (Instr.loadAt 9 t15_15) (@hid _ ⟨fun t16_16 =>
 TakeS Tryd.prog S5 (Instr.fieldAt 73 t3_3 0) (@hid _ ⟨fun t17_17 =>
 TakeS Tryd.prog S5 (Instr.loadAt 9 t17_17) (@hid _ ⟨fun t18_18 =>
 (CallV Tryd.prog (.func (.func 59) #[] #[]) #[t6_8, t8_10] (@hid _ ⟨fun t9_19 w20 =>
 S5 w20 ∧
 (CallV Tryd.prog (.func (.func 40) #[] #[]) #[t11_12, t13_14] (@hid _ ⟨fun t14_21 w22 =>
 S5 w22 ∧
 (CallV Tryd.prog (.func (.func 40) #[] #[]) #[t16_16, t18_18] (@hid _ ⟨fun t19_23 w24 =>
 S5 w24 ∧
 (BuildSliceK Tryd.prog 136 3 #[(0, t9_19), (1, t14_21), (2, t19_23)] (@hid _ ⟨fun t20_25 w26 =>
 S5 w26 ∧
 (CallV Tryd.prog (.func (.func 58) #[] #[]) #[t20_25] (@hid _ ⟨fun t21_27 w28 =>
 S5 w28 ∧
 R t21_27 w28⟩) w26) ∧
 True⟩) w24) ∧
 True⟩) w22) ∧
 True⟩) w20) ∧
 True⟩) w6) ∧
 True⟩)⟩)⟩)⟩)⟩)⟩)⟩)⟩)⟩)⟩)⟩)⟩)⟩) w4⟩) w2⟩) w0
def a68 : Ann := (.seq .no (.seq (.plan (.take 0 (.take 1 (.take 2 (.take 3 (.take 5 (.take 6 (.take 7 (.take 8 (.take 10 (.take 11 (.take 12 (.take 13 (.alt 4 (.alt 9 (.alt 14 (.alt 15 (.alt 16 (.take 17 .done) .nil) .nil) .nil) .nil) .nil)))))))))))))) .no))
theorem F68_eq (x0 x1 : Value) (R : Value → World → Prop) (w0 : World) : F68 x0 x1 R w0 = vc Tryd.prog (bodyOf Tryd.f68) a68 (retQ Tryd.prog Tryd.f68 R) (envOf 0 [x0, x1]) w0 := by kernel_rfl
theorem F68_calls (x0 x1 : Value) (R : Value → World → Prop) (w0 : World) (h : F68 x0 x1 R w0) : CallK Tryd.prog 68 #[x0, x1] R w0 :=
 calls_vc (c := bodyOf Tryd.f68) Tryd.func68 (by kernel_rfl) (by kernel_rfl) a68 (by kernel_rfl) (by kernel_rfl) [x0, x1] (by rw [Tryd.ntmps68]; exact Nat.le_of_ble_eq_true rfl) w0 R ((F68_eq x0 x1 R w0).mp h)

/-- slices.Clip[[]canton/elect.Choice,canton/elect.Choice], its body as a formula. -/
def F69 (x0 : Value) (R : Value → World → Prop) (w0 : World) : Prop :=
 BuiltinK Tryd.prog .len #[68] 3 #[false] #[x0] (@hid _ ⟨fun t5_1 w2 =>
 BuiltinK Tryd.prog .len #[68] 3 #[false] #[x0] (@hid _ ⟨fun t7_3 w4 =>
 SliceK Tryd.prog 68 x0 none (some t5_1) (some t7_3) (@hid _ ⟨fun t8_5 w6 =>
 R t8_5 w6⟩) w4⟩) w2⟩) w0
def a69 : Ann := (.seq .no (.seq .no .no))
theorem F69_eq (x0 : Value) (R : Value → World → Prop) (w0 : World) : F69 x0 R w0 = vc Tryd.prog (bodyOf Tryd.f69) a69 (retQ Tryd.prog Tryd.f69 R) (envOf 0 [x0]) w0 := by kernel_rfl
theorem F69_calls (x0 : Value) (R : Value → World → Prop) (w0 : World) (h : F69 x0 R w0) : CallK Tryd.prog 69 #[x0] R w0 :=
 calls_vc (c := bodyOf Tryd.f69) Tryd.func69 (by kernel_rfl) (by kernel_rfl) a69 (by kernel_rfl) (by kernel_rfl) [x0] (by rw [Tryd.ntmps69]; exact Nat.le_of_ble_eq_true rfl) w0 R ((F69_eq x0 R w0).mp h)

/-- canton/cantonref7.Get, its body as a formula. -/
def F70 (x0 x1 : Value) (R : Value → World → Prop) (w0 : World) : Prop :=
 AllocK Tryd.prog 121 (@hid _ ⟨fun t4_1 w2 =>
 LoopK1 (.int .i64 0) w2 (@hid _ ⟨fun _ x6_3 w4 B5 =>
 BuiltinK Tryd.prog .len #[63] 3 #[false] #[x0] (@hid _ ⟨fun t9_6 w7 =>
 BinK Tryd.prog .lss 3 x6_3 t9_6 (@hid _ ⟨fun t10_8 w9 =>
 BrK t10_8 (@hid _ ⟨
 IndexAtK Tryd.prog 63 x0 x6_3 (@hid _ ⟨fun t15_10 w11 =>
 FieldAtK Tryd.prog 133 t15_10 0 (@hid _ ⟨fun t16_12 w13 =>
 LoadK Tryd.prog 9 t16_12 (@hid _ ⟨fun t17_14 w15 =>
 BinK Tryd.prog .eql 9 t17_14 x1 (@hid _ ⟨fun t19_16 w17 =>
 BrK t19_16 (@hid _ ⟨
 IndexAtK Tryd.prog 63 x0 x6_3 (@hid _ ⟨fun t22_18 w19 =>
 FieldAtK Tryd.prog 133 t22_18 1 (@hid _ ⟨fun t23_20 w21 =>
 LoadK Tryd.prog 121 t23_20 (@hid _ ⟨fun t24_22 w23 =>
 StoreK Tryd.prog 121 t4_1 t24_22 (@hid _ ⟨fun tu_24 w25 =>
 LoadK Tryd.prog 121 t4_1 (@hid _ ⟨fun c26 w27 => w27 = w25 ∧ R (.tuple #[c26, (.bool true)]) w25⟩) w25⟩) w23⟩) w21⟩) w19⟩) w17⟩) (@hid _ ⟨
 BinK Tryd.prog .add 3 x6_3 (.int .i64 1) (@hid _ ⟨fun t12_28 w29 =>
 B5 t12_28 w29⟩) w17⟩)⟩) w15⟩) w13⟩) w11⟩) w9⟩) (@hid _ ⟨
 BuildK Tryd.prog 121 #[] (@hid _ ⟨fun t25_30 w31 =>
 StoreK Tryd.prog 121 t4_1 t25_30 (@hid _ ⟨fun tu_32 w33 =>
 LoadK Tryd.prog 121 t4_1 (@hid _ ⟨fun c34 w35 => w35 = w33 ∧ R (.tuple #[c34, (.bool false)]) w33⟩) w33⟩) w31⟩) w9⟩)⟩) w7⟩) w4⟩)⟩) w0
def a70 : Ann := (.seq .no (.seq (.seq .no (.block (.loop [6] [(5, 5), (7, 24)] (.seq (.seq .no (.cond .no .no)) (.seq (.block (.seq .no (.cond (.seq .no .no) .no))) .no))))) (.seq .no .no)))
theorem F70_eq (x0 x1 : Value) (R : Value → World → Prop) (w0 : World) : F70 x0 x1 R w0 = vc Tryd.prog (bodyOf Tryd.f70) a70 (retQ Tryd.prog Tryd.f70 R) (envOf 0 [x0, x1]) w0 := by kernel_rfl
theorem F70_calls (x0 x1 : Value) (R : Value → World → Prop) (w0 : World) (h : F70 x0 x1 R w0) : CallK Tryd.prog 70 #[x0, x1] R w0 :=
 calls_vc (c := bodyOf Tryd.f70) Tryd.func70 (by kernel_rfl) (by kernel_rfl) a70 (by kernel_rfl) (by kernel_rfl) [x0, x1] (by rw [Tryd.ntmps70]; exact Nat.le_of_ble_eq_true rfl) w0 R ((F70_eq x0 x1 R w0).mp h)

/-- canton/cantonref7.Node, its body as a formula. -/
def F71 (x0 : Value) (R : Value → World → Prop) (w0 : World) : Prop :=
 CallV Tryd.prog (.func (.func 93) #[] #[]) #[x0] (@hid _ ⟨fun t4_1 w2 =>
 GuardK t4_1 true (fun k w => k x0 w) (@hid _ ⟨fun t6_3 w4 =>
 GuardK t4_1 true (fun k w => BinK Tryd.prog .neq 9 t6_3 (.string { data := #[47] }) k w) (@hid _ ⟨fun t7_5 w6 =>
 PickK Tryd.prog t4_1 t7_5 (.bool false) (@hid _ ⟨fun t8_7 w8 =>
 R t8_7 w8⟩) w6⟩) w4⟩) w2⟩) w0
def a71 : Ann := (.seq .no (.seq .no .no))
theorem F71_eq (x0 : Value) (R : Value → World → Prop) (w0 : World) : F71 x0 R w0 = vc Tryd.prog (bodyOf Tryd.f71) a71 (retQ Tryd.prog Tryd.f71 R) (envOf 0 [x0]) w0 := by kernel_rfl
theorem F71_calls (x0 : Value) (R : Value → World → Prop) (w0 : World) (h : F71 x0 R w0) : CallK Tryd.prog 71 #[x0] R w0 :=
 calls_vc (c := bodyOf Tryd.f71) Tryd.func71 (by kernel_rfl) (by kernel_rfl) a71 (by kernel_rfl) (by kernel_rfl) [x0] (by rw [Tryd.ntmps71]; exact Nat.le_of_ble_eq_true rfl) w0 R ((F71_eq x0 R w0).mp h)

/-- canton/cantonref21.less, its body as a formula. -/
def F72 (x0 x1 : Value) (R : Value → World → Prop) (w0 : World) : Prop :=
 BoxK Tryd.prog 76 x0 (@hid _ ⟨fun t2_1 w2 =>
 BoxK Tryd.prog 76 x1 (@hid _ ⟨fun t3_3 w4 =>
 FieldAtK Tryd.prog 76 t2_1 2 (@hid _ ⟨fun t5_5 w6 =>
 LoadK Tryd.prog 2 t5_5 (@hid _ ⟨fun t6_7 w8 =>
 FieldAtK Tryd.prog 76 t3_3 2 (@hid _ ⟨fun t7_9 w10 =>
 LoadK Tryd.prog 2 t7_9 (@hid _ ⟨fun t8_11 w12 =>
 BinK Tryd.prog .neq 2 t6_7 t8_11 (@hid _ ⟨fun t9_13 w14 =>
 BrK t9_13 (@hid _ ⟨
 FieldAtK Tryd.prog 76 t2_1 2 (@hid _ ⟨fun t10_15 w16 =>
 LoadK Tryd.prog 2 t10_15 (@hid _ ⟨fun t11_17 w18 =>
 FieldAtK Tryd.prog 76 t3_3 2 (@hid _ ⟨fun t12_19 w20 =>
 LoadK Tryd.prog 2 t12_19 (@hid _ ⟨fun t13_21 w22 =>
 BinK Tryd.prog .lss 2 t11_17 t13_21 (@hid _ ⟨fun t14_23 w24 =>
 R t14_23 w24⟩) w22⟩) w20⟩) w18⟩) w16⟩) w14⟩) (@hid _ ⟨
 FieldAtK Tryd.prog 76 t2_1 1 (@hid _ ⟨fun t15_25 w26 =>
 LoadK Tryd.prog 9 t15_25 (@hid _ ⟨fun t16_27 w28 =>
 FieldAtK Tryd.prog 76 t3_3 1 (@hid _ ⟨fun t17_29 w30 =>
 LoadK Tryd.prog 9 t17_29 (@hid _ ⟨fun t18_31 w32 =>
 BinK Tryd.prog .neq 9 t16_27 t18_31 (@hid _ ⟨fun t19_33 w34 =>
 BrK t19_33 (@hid _ ⟨
 FieldAtK Tryd.prog 76 t2_1 1 (@hid _ ⟨fun t20_35 w36 =>
 LoadK Tryd.prog 9 t20_35 (@hid _ ⟨fun t21_37 w38 =>
 FieldAtK Tryd.prog 76 t3_3 1 (@hid _ ⟨fun t22_39 w40 =>
 LoadK Tryd.prog 9 t22_39 (@hid _ ⟨fun t23_41 w42 =>
 BinK Tryd.prog .lss 9 t21_37 t23_41 (@hid _ ⟨fun t24_43 w44 =>
 R t24_43 w44⟩) w42⟩) w40⟩) w38⟩) w36⟩) w34⟩) (@hid _ ⟨
 FieldAtK Tryd.prog 76 t2_1 0 (@hid _ ⟨fun t25_45 w46 =>
 LoadK Tryd.prog 9 t25_45 (@hid _ ⟨fun t26_47 w48 =>
 FieldAtK Tryd.prog 76 t3_3 0 (@hid _ ⟨fun t27_49 w50 =>
 LoadK Tryd.prog 9 t27_49 (@hid _ ⟨fun t28_51 w52 =>
 BinK Tryd.prog .lss 9 t26_47 t28_51 (@hid _ ⟨fun t29_53 w54 =>
 R t29_53 w54⟩) w52⟩) w50⟩) w48⟩) w46⟩) w34⟩)⟩) w32⟩) w30⟩) w28⟩) w26⟩) w14⟩)⟩) w12⟩) w10⟩) w8⟩) w6⟩) w4⟩) w2⟩) w0
def a72 : Ann := (.seq .no (.seq (.seq .no (.cond (.seq .no .no) .no)) (.seq (.seq .no (.cond (.seq .no .no) .no)) (.seq .no .no))))
theorem F72_eq (x0 x1 : Value) (R : Value → World → Prop) (w0 : World) : F72 x0 x1 R w0 = vc Tryd.prog (bodyOf Tryd.f72) a72 (retQ Tryd.prog Tryd.f72 R) (envOf 0 [x0, x1]) w0 := by kernel_rfl
theorem F72_calls (x0 x1 : Value) (R : Value → World → Prop) (w0 : World) (h : F72 x0 x1 R w0) : CallK Tryd.prog 72 #[x0, x1] R w0 :=
 calls_vc (c := bodyOf Tryd.f72) Tryd.func72 (by kernel_rfl) (by kernel_rfl) a72 (by kernel_rfl) (by kernel_rfl) [x0, x1] (by rw [Tryd.ntmps72]; exact Nat.le_of_ble_eq_true rfl) w0 R ((F72_eq x0 x1 R w0).mp h)

/-- canton/elect.first[canton/elect.Choice], its body as a formula. -/
def F73 (x0 : Value) (R : Value → World → Prop) (w0 : World) : Prop :=
 AllocK Tryd.prog 73 (@hid _ ⟨fun t2_1 w2 =>
 BuiltinK Tryd.prog .len #[68] 3 #[false] #[x0] (@hid _ ⟨fun t6_3 w4 =>
 BinK Tryd.prog .eql 3 t6_3 (.int .i64 0) (@hid _ ⟨fun t7_5 w6 =>
 BrK t7_5 (@hid _ ⟨
 AllocK Tryd.prog 73 (@hid _ ⟨fun t4_7 w8 =>
 LoadK Tryd.prog 73 t4_7 (@hid _ ⟨fun t8_9 w10 =>
 StoreK Tryd.prog 73 t2_1 t8_9 (@hid _ ⟨fun tu_11 w12 =>
 LoadK Tryd.prog 73 t2_1 (@hid _ ⟨fun c13 w14 => w14 = w12 ∧ R (.tuple #[c13, (.bool false)]) w12⟩) w12⟩) w10⟩) w8⟩) w6⟩) (@hid _ ⟨
 IndexAtK Tryd.prog 68 x0 (.int .i64 0) (@hid _ ⟨fun t10_15 w16 =>
 LoadK Tryd.prog 73 t10_15 (@hid _ ⟨fun t11_17 w18 =>
 StoreK Tryd.prog 73 t2_1 t11_17 (@hid _ ⟨fun tu_19 w20 =>
 LoadK Tryd.prog 73 t2_1 (@hid _ ⟨fun c21 w22 => w22 = w20 ∧ R (.tuple #[c21, (.bool true)]) w20⟩) w20⟩) w18⟩) w16⟩) w6⟩)⟩) w4⟩) w2⟩) w0
def a73 : Ann := (.seq .no (.seq (.seq .no (.cond (.seq .no (.seq .no .no)) .no)) (.seq .no .no)))
theorem F73_eq (x0 : Value) (R : Value → World → Prop) (w0 : World) : F73 x0 R w0 = vc Tryd.prog (bodyOf Tryd.f73) a73 (retQ Tryd.prog Tryd.f73 R) (envOf 0 [x0]) w0 := by kernel_rfl
theorem F73_calls (x0 : Value) (R : Value → World → Prop) (w0 : World) (h : F73 x0 R w0) : CallK Tryd.prog 73 #[x0] R w0 :=
 calls_vc (c := bodyOf Tryd.f73) Tryd.func73 (by kernel_rfl) (by kernel_rfl) a73 (by kernel_rfl) (by kernel_rfl) [x0] (by rw [Tryd.ntmps73]; exact Nat.le_of_ble_eq_true rfl) w0 R ((F73_eq x0 R w0).mp h)

/-- canton/cantonref7.In, its body as a formula. -/
def F74 (x0 : Value) (R : Value → World → Prop) (w0 : World) : Prop :=
 BinK Tryd.prog .geq 2 x0 (.int .i64 0) (@hid _ ⟨fun t4_1 w2 =>
 GuardK t4_1 true (fun k w => k x0 w) (@hid _ ⟨fun t6_3 w4 =>
 GuardK t4_1 true (fun k w => BinK Tryd.prog .leq 2 t6_3 (.int .i64 1000000000) k w) (@hid _ ⟨fun t7_5 w6 =>
 PickK Tryd.prog t4_1 t7_5 (.bool false) (@hid _ ⟨fun t8_7 w8 =>
 R t8_7 w8⟩) w6⟩) w4⟩) w2⟩) w0
def a74 : Ann := (.seq .no (.seq .no .no))
theorem F74_eq (x0 : Value) (R : Value → World → Prop) (w0 : World) : F74 x0 R w0 = vc Tryd.prog (bodyOf Tryd.f74) a74 (retQ Tryd.prog Tryd.f74 R) (envOf 0 [x0]) w0 := by kernel_rfl
theorem F74_calls (x0 : Value) (R : Value → World → Prop) (w0 : World) (h : F74 x0 R w0) : CallK Tryd.prog 74 #[x0] R w0 :=
 calls_vc (c := bodyOf Tryd.f74) Tryd.func74 (by kernel_rfl) (by kernel_rfl) a74 (by kernel_rfl) (by kernel_rfl) [x0] (by rw [Tryd.ntmps74]; exact Nat.le_of_ble_eq_true rfl) w0 R ((F74_eq x0 R w0).mp h)

/-- cmp.isNaN[string], its body as a formula. -/
def F75 (x0 : Value) (R : Value → World → Prop) (w0 : World) : Prop :=
 BinK Tryd.prog .neq 9 x0 x0 (@hid _ ⟨fun t5_1 w2 =>
 R t5_1 w2⟩) w0
def a75 : Ann := (.seq .no (.seq .no .no))
theorem F75_eq (x0 : Value) (R : Value → World → Prop) (w0 : World) : F75 x0 R w0 = vc Tryd.prog (bodyOf Tryd.f75) a75 (retQ Tryd.prog Tryd.f75 R) (envOf 0 [x0]) w0 := by kernel_rfl
theorem F75_calls (x0 : Value) (R : Value → World → Prop) (w0 : World) (h : F75 x0 R w0) : CallK Tryd.prog 75 #[x0] R w0 :=
 calls_vc (c := bodyOf Tryd.f75) Tryd.func75 (by kernel_rfl) (by kernel_rfl) a75 (by kernel_rfl) (by kernel_rfl) [x0] (by rw [Tryd.ntmps75]; exact Nat.le_of_ble_eq_true rfl) w0 R ((F75_eq x0 R w0).mp h)

/-- canton/stamp.in, its body as a formula. -/
def F76 (x0 : Value) (R : Value → World → Prop) (w0 : World) : Prop :=
 BinK Tryd.prog .geq 2 x0 (.int .i64 0) (@hid _ ⟨fun t4_1 w2 =>
 GuardK t4_1 true (fun k w => k x0 w) (@hid _ ⟨fun t6_3 w4 =>
 GuardK t4_1 true (fun k w => BinK Tryd.prog .leq 2 t6_3 (.int .i64 1000000000) k w) (@hid _ ⟨fun t7_5 w6 =>
 PickK Tryd.prog t4_1 t7_5 (.bool false) (@hid _ ⟨fun t8_7 w8 =>
 R t8_7 w8⟩) w6⟩) w4⟩) w2⟩) w0
def a76 : Ann := (.seq .no (.seq .no .no))
theorem F76_eq (x0 : Value) (R : Value → World → Prop) (w0 : World) : F76 x0 R w0 = vc Tryd.prog (bodyOf Tryd.f76) a76 (retQ Tryd.prog Tryd.f76 R) (envOf 0 [x0]) w0 := by kernel_rfl
theorem F76_calls (x0 : Value) (R : Value → World → Prop) (w0 : World) (h : F76 x0 R w0) : CallK Tryd.prog 76 #[x0] R w0 :=
 calls_vc (c := bodyOf Tryd.f76) Tryd.func76 (by kernel_rfl) (by kernel_rfl) a76 (by kernel_rfl) (by kernel_rfl) [x0] (by rw [Tryd.ntmps76]; exact Nat.le_of_ble_eq_true rfl) w0 R ((F76_eq x0 R w0).mp h)

/-- canton/stamp.Path, its body as a formula. -/
def F77 (x0 : Value) (R : Value → World → Prop) (w0 : World) : Prop :=
 CallV Tryd.prog (.func (.func 94) #[] #[]) #[x0, (.string { data := #[47] })] (@hid _ ⟨fun t10_1 w2 =>
 ExtractK Tryd.prog t10_1 0 (@hid _ ⟨fun t11_3 w4 =>
 ExtractK Tryd.prog t10_1 1 (@hid _ ⟨fun t12_5 w6 =>
 UnK Tryd.prog .not t12_5 (@hid _ ⟨fun t14_7 w8 =>
 BrK t14_7 (@hid _ ⟨
 R (.bool false) w8⟩) (@hid _ ⟨
 CallV Tryd.prog (.func (.func 95) #[] #[]) #[t11_3, (.string { data := #[47] })] (@hid _ ⟨fun t16_9 w10 =>
 BuiltinK Tryd.prog .len #[24] 3 #[false] #[t16_9] (@hid _ ⟨fun t18_11 w12 =>
 LoopK1 (.int .i64 0) w12 (@hid _ ⟨fun _ x19_13 w14 B15 =>
 BinK Tryd.prog .lss 3 x19_13 t18_11 (@hid _ ⟨fun t20_16 w17 =>
 BrK t20_16 (@hid _ ⟨
 IndexAtK Tryd.prog 24 t16_9 x19_13 (@hid _ ⟨fun t21_18 w19 =>
 LoadK Tryd.prog 9 t21_18 (@hid _ ⟨fun t22_20 w21 =>
 CallV Tryd.prog (.func (.func 96) #[] #[]) #[t22_20] (@hid _ ⟨fun t24_22 w23 =>
 UnK Tryd.prog .not t24_22 (@hid _ ⟨fun t25_24 w25 =>
 BrK t25_24 (@hid _ ⟨
 R (.bool false) w25⟩) (@hid _ ⟨
 BinK Tryd.prog .add 3 x19_13 (.int .i64 1) (@hid _ ⟨fun t26_26 w27 =>
 B15 t26_26 w27⟩) w25⟩)⟩) w23⟩) w21⟩) w19⟩) w17⟩) (@hid _ ⟨
 BuiltinK Tryd.prog .len #[24] 3 #[false] #[t16_9] (@hid _ ⟨fun t28_28 w29 =>
 BinK Tryd.prog .leq 3 t28_28 (.int .i64 4) (@hid _ ⟨fun t29_30 w31 =>
 R t29_30 w31⟩) w29⟩) w17⟩)⟩) w14⟩)⟩) w10⟩) w8⟩)⟩) w6⟩) w4⟩) w2⟩) w0
def a77 : Ann := (.seq .no (.seq .no (.seq (.seq .no (.cond (.seq .no .no) .no)) (.seq .no (.seq (.seq .no (.block (.loop [19] [(2, 2), (7, 7), (20, 26)] (.seq .no (.seq (.cond .no .no) (.seq (.block (.seq .no (.seq .no (.cond (.seq .no .no) .no)))) .no)))))) (.seq .no .no))))))
theorem F77_eq (x0 : Value) (R : Value → World → Prop) (w0 : World) : F77 x0 R w0 = vc Tryd.prog (bodyOf Tryd.f77) a77 (retQ Tryd.prog Tryd.f77 R) (envOf 0 [x0]) w0 := by kernel_rfl
theorem F77_calls (x0 : Value) (R : Value → World → Prop) (w0 : World) (h : F77 x0 R w0) : CallK Tryd.prog 77 #[x0] R w0 :=
 calls_vc (c := bodyOf Tryd.f77) Tryd.func77 (by kernel_rfl) (by kernel_rfl) a77 (by kernel_rfl) (by kernel_rfl) [x0] (by rw [Tryd.ntmps77]; exact Nat.le_of_ble_eq_true rfl) w0 R ((F77_eq x0 R w0).mp h)

/-- canton/cantonlaw4.Few, its body as a formula. -/
def F78 (x0 : Value) (R : Value → World → Prop) (w0 : World) : Prop :=
 BoxK Tryd.prog 55 x0 (@hid _ ⟨fun t1_1 w2 =>
 FieldAtK Tryd.prog 55 t1_1 0 (@hid _ ⟨fun t3_3 w4 =>
 LoadK Tryd.prog 9 t3_3 (@hid _ ⟨fun t4_5 w6 =>
 BuiltinK Tryd.prog .len #[9] 3 #[false] #[t4_5] (@hid _ ⟨fun t5_7 w8 =>
 BinK Tryd.prog .leq 3 t5_7 (.int .i64 100) (@hid _ ⟨fun t6_9 w10 =>
 GuardK t6_9 true (fun k w => FieldAtK Tryd.prog 55 t1_1 1 k w) (@hid _ ⟨fun t8_11 w12 =>
 GuardK t6_9 true (fun k w => FieldAtK Tryd.prog 52 t8_11 3 k w) (@hid _ ⟨fun t9_13 w14 =>
 GuardK t6_9 true (fun k w => LoadK Tryd.prog 9 t9_13 k w) (@hid _ ⟨fun t10_15 w16 =>
 GuardK t6_9 true (fun k w => BuiltinK Tryd.prog .len #[9] 3 #[false] #[t10_15] k w) (@hid _ ⟨fun t11_17 w18 =>
 GuardK t6_9 true (fun k w => BinK Tryd.prog .leq 3 t11_17 (.int .i64 100) k w) (@hid _ ⟨fun t12_19 w20 =>
 PickK Tryd.prog t6_9 t12_19 (.bool false) (@hid _ ⟨fun t13_21 w22 =>
 GuardK t13_21 true (fun k w => FieldAtK Tryd.prog 55 t1_1 2 k w) (@hid _ ⟨fun t15_23 w24 =>
 GuardK t13_21 true (fun k w => LoadK Tryd.prog 53 t15_23 k w) (@hid _ ⟨fun t16_25 w26 =>
 GuardK t13_21 true (fun k w => CallV Tryd.prog (.func (.func 97) #[] #[]) #[t16_25] k w) (@hid _ ⟨fun t17_27 w28 =>
 PickK Tryd.prog t13_21 t17_27 (.bool false) (@hid _ ⟨fun t18_29 w30 =>
 R t18_29 w30⟩) w28⟩) w26⟩) w24⟩) w22⟩) w20⟩) w18⟩) w16⟩) w14⟩) w12⟩) w10⟩) w8⟩) w6⟩) w4⟩) w2⟩) w0
def a78 : Ann := (.seq .no (.seq .no .no))
theorem F78_eq (x0 : Value) (R : Value → World → Prop) (w0 : World) : F78 x0 R w0 = vc Tryd.prog (bodyOf Tryd.f78) a78 (retQ Tryd.prog Tryd.f78 R) (envOf 0 [x0]) w0 := by kernel_rfl
theorem F78_calls (x0 : Value) (R : Value → World → Prop) (w0 : World) (h : F78 x0 R w0) : CallK Tryd.prog 78 #[x0] R w0 :=
 calls_vc (c := bodyOf Tryd.f78) Tryd.func78 (by kernel_rfl) (by kernel_rfl) a78 (by kernel_rfl) (by kernel_rfl) [x0] (by rw [Tryd.ntmps78]; exact Nat.le_of_ble_eq_true rfl) w0 R ((F78_eq x0 R w0).mp h)

/-- canton/cantonref7.CheckValue, its body as a formula. -/
def F79 (x0 : Value) (R : Value → World → Prop) (w0 : World) : Prop :=
 BoxK Tryd.prog 121 x0 (@hid _ ⟨fun t1_1 w2 =>
 FieldAtK Tryd.prog 121 t1_1 0 (@hid _ ⟨fun t5_3 w4 =>
 LoadK Tryd.prog 3 t5_3 (@hid _ ⟨fun t6_5 w6 =>
 BinK Tryd.prog .eql 3 t6_5 (.int .i64 1) (@hid _ ⟨fun t8_7 w8 =>
 BrK t8_7 (@hid _ ⟨
 R (.int .i64 0) w8⟩) (@hid _ ⟨
 BinK Tryd.prog .eql 3 t6_5 (.int .i64 2) (@hid _ ⟨fun t10_9 w10 =>
 BrK t10_9 (@hid _ ⟨
 FieldAtK Tryd.prog 121 t1_1 2 (@hid _ ⟨fun t11_11 w12 =>
 LoadK Tryd.prog 9 t11_11 (@hid _ ⟨fun t12_13 w14 =>
 BuiltinK Tryd.prog .len #[9] 3 #[false] #[t12_13] (@hid _ ⟨fun t13_15 w16 =>
 BinK Tryd.prog .gtr 3 t13_15 (.int .i64 64) (@hid _ ⟨fun t14_17 w18 =>
 BrK t14_17 (@hid _ ⟨
 R (.int .i64 4) w18⟩) (@hid _ ⟨
 LoopK1 (.int .i64 0) w18 (@hid _ ⟨fun _ x3_19 w20 B21 =>
 FieldAtK Tryd.prog 121 t1_1 2 (@hid _ ⟨fun t16_22 w23 =>
 LoadK Tryd.prog 9 t16_22 (@hid _ ⟨fun t17_24 w25 =>
 BuiltinK Tryd.prog .len #[9] 3 #[false] #[t17_24] (@hid _ ⟨fun t18_26 w27 =>
 BinK Tryd.prog .lss 3 x3_19 t18_26 (@hid _ ⟨fun t19_28 w29 =>
 BrK t19_28 (@hid _ ⟨
 FieldAtK Tryd.prog 121 t1_1 2 (@hid _ ⟨fun t22_30 w31 =>
 LoadK Tryd.prog 9 t22_30 (@hid _ ⟨fun t23_32 w33 =>
 ValK Tryd.prog (Instr.index 9 t23_32 x3_19) (@hid _ ⟨fun t25_34 w35 =>
 BinK Tryd.prog .lss 5 t25_34 (.int .u8 32) (@hid _ ⟨fun t26_36 w37 =>
 GuardK t26_36 false (fun k w => FieldAtK Tryd.prog 121 t1_1 2 k w) (@hid _ ⟨fun t28_38 w39 =>
 GuardK t26_36 false (fun k w => LoadK Tryd.prog 9 t28_38 k w) (@hid _ ⟨fun t29_40 w41 =>
 GuardK t26_36 false (fun k w => k x3_19 w) (@hid _ ⟨fun t30_42 w43 =>
 GuardK t26_36 false (fun k w => ValK Tryd.prog (Instr.index 9 t29_40 t30_42) k w) (@hid _ ⟨fun t31_44 w45 =>
 GuardK t26_36 false (fun k w => BinK Tryd.prog .gtr 5 t31_44 (.int .u8 126) k w) (@hid _ ⟨fun t32_46 w47 =>
 PickK Tryd.prog t26_36 (.bool true) t32_46 (@hid _ ⟨fun t33_48 w49 =>
 GuardK t33_48 false (fun k w => FieldAtK Tryd.prog 121 t1_1 2 k w) (@hid _ ⟨fun t35_50 w51 =>
 GuardK t33_48 false (fun k w => LoadK Tryd.prog 9 t35_50 k w) (@hid _ ⟨fun t36_52 w53 =>
 GuardK t33_48 false (fun k w => k x3_19 w) (@hid _ ⟨fun t37_54 w55 =>
 GuardK t33_48 false (fun k w => ValK Tryd.prog (Instr.index 9 t36_52 t37_54) k w) (@hid _ ⟨fun t38_56 w57 =>
 GuardK t33_48 false (fun k w => BinK Tryd.prog .eql 5 t38_56 (.int .u8 34) k w) (@hid _ ⟨fun t39_58 w59 =>
 PickK Tryd.prog t33_48 (.bool true) t39_58 (@hid _ ⟨fun t40_60 w61 =>
 BrK t40_60 (@hid _ ⟨
 R (.int .i64 2) w61⟩) (@hid _ ⟨
 BinK Tryd.prog .add 3 x3_19 (.int .i64 1) (@hid _ ⟨fun t21_62 w63 =>
 B21 t21_62 w63⟩) w61⟩)⟩) w59⟩) w57⟩) w55⟩) w53⟩) w51⟩) w49⟩) w47⟩) w45⟩) w43⟩) w41⟩) w39⟩) w37⟩) w35⟩) w33⟩) w31⟩) w29⟩) (@hid _ ⟨
 R (.int .i64 0) w29⟩)⟩) w27⟩) w25⟩) w23⟩) w20⟩)⟩)⟩) w16⟩) w14⟩) w12⟩) w10⟩) (@hid _ ⟨
 BinK Tryd.prog .eql 3 t6_5 (.int .i64 3) (@hid _ ⟨fun t42_64 w65 =>
 BrK t42_64 (@hid _ ⟨
 FieldAtK Tryd.prog 121 t1_1 3 (@hid _ ⟨fun t43_66 w67 =>
 LoadK Tryd.prog 80 t43_66 (@hid _ ⟨fun t44_68 w69 =>
 BuiltinK Tryd.prog .len #[80] 3 #[false] #[t44_68] (@hid _ ⟨fun t45_70 w71 =>
 BinK Tryd.prog .gtr 3 t45_70 (.int .i64 16) (@hid _ ⟨fun t46_72 w73 =>
 BrK t46_72 (@hid _ ⟨
 R (.int .i64 4) w73⟩) (@hid _ ⟨
 LoopK1 (.int .i64 1) w73 (@hid _ ⟨fun _ x4_74 w75 B76 =>
 FieldAtK Tryd.prog 121 t1_1 3 (@hid _ ⟨fun t48_77 w78 =>
 LoadK Tryd.prog 80 t48_77 (@hid _ ⟨fun t49_79 w80 =>
 BuiltinK Tryd.prog .len #[80] 3 #[false] #[t49_79] (@hid _ ⟨fun t50_81 w82 =>
 BinK Tryd.prog .lss 3 x4_74 t50_81 (@hid _ ⟨fun t51_83 w84 =>
 BrK t51_83 (@hid _ ⟨
 DrawK (@hid _ ⟨fun S85 w86 =>
 TakeS Tryd.prog S85 (Instr.fieldAt 121 t1_1 3) (@hid _ ⟨fun t54_87 =>
 TakeS Tryd.prog S85 (Instr.loadAt 80 t54_87) (@hid _ ⟨fun t55_88 =>
 BinT Tryd.prog S85 .sub 3 x4_74 (.int .i64 1) (@hid _ ⟨fun t57_89 =>
 TakeS Tryd.prog S85 (Instr.indexAt 80 t55_88 t57_89) (@hid _ ⟨fun t58_90 =>
 TakeS Tryd.prog S85 (Instr.loadAt 2 t58_90) (@hid _ ⟨fun t59_91 =>
 TakeS Tryd.prog S85 (Instr.fieldAt 121 t1_1 3) (@hid _ ⟨fun t60_92 =>
 TakeS Tryd.prog S85 (Instr.loadAt 80 t60_92) (@hid _ ⟨fun t61_93 =>
 TakeS Tryd.prog S85 (Instr.indexAt 80 t61_93 x4_74) (@hid _ ⟨fun t63_94 =>
 TakeS Tryd.prog S85 (Instr.loadAt 2 t63_94) (@hid _ ⟨fun t64_95 =>
 BinT Tryd.prog S85 .geq 2 t59_91 t64_95 (@hid _ ⟨fun t65_96 =>
 BrK t65_96 (@hid _ ⟨
 R (.int .i64 2) w86⟩) (@hid _ ⟨
 BinK Tryd.prog .add 3 x4_74 (.int .i64 1) (@hid _ ⟨fun t53_97 w98 =>
 B76 t53_97 w98⟩) w86⟩)⟩)⟩)⟩)⟩)⟩)⟩)⟩)⟩)⟩)⟩)⟩) w84⟩) (@hid _ ⟨
 R (.int .i64 0) w84⟩)⟩) w82⟩) w80⟩) w78⟩) w75⟩)⟩)⟩) w71⟩) w69⟩) w67⟩) w65⟩) (@hid _ ⟨
 R (.int .i64 7) w65⟩)⟩) w10⟩)⟩) w8⟩)⟩) w6⟩) w4⟩) w2⟩) w0
def a79 : Ann := (.seq .no (.seq (.seq .no (.block (.seq .no (.cond (.seq .no .no) (.seq .no (.cond (.seq (.seq .no (.cond (.seq .no .no) .no)) (.seq (.seq .no (.block (.loop [3] [(2, 2), (15, 40)] (.seq (.seq .no (.cond .no .no)) (.seq (.block (.seq .no (.cond (.seq .no .no) .no))) .no))))) (.seq .no .no))) (.seq .no (.cond (.seq (.seq .no (.cond (.seq .no .no) .no)) (.seq (.seq .no (.block (.loop [4] [(2, 2), (47, 65)] (.seq (.seq .no (.cond .no .no)) (.seq (.block (.seq (.plan (.take 0 (.take 1 (.take 2 (.take 3 (.take 4 (.take 5 (.take 6 (.take 7 (.take 8 (.take 9 (.take 10 (.take 11 .done))))))))))))) (.cond (.seq .no .no) .no))) .no))))) (.seq .no .no))) .no)))))))) (.seq .no .no)))
theorem F79_eq (x0 : Value) (R : Value → World → Prop) (w0 : World) : F79 x0 R w0 = vc Tryd.prog (bodyOf Tryd.f79) a79 (retQ Tryd.prog Tryd.f79 R) (envOf 0 [x0]) w0 := by kernel_rfl
theorem F79_calls (x0 : Value) (R : Value → World → Prop) (w0 : World) (h : F79 x0 R w0) : CallK Tryd.prog 79 #[x0] R w0 :=
 calls_vc (c := bodyOf Tryd.f79) Tryd.func79 (by kernel_rfl) (by kernel_rfl) a79 (by kernel_rfl) (by kernel_rfl) [x0] (by rw [Tryd.ntmps79]; exact Nat.le_of_ble_eq_true rfl) w0 R ((F79_eq x0 R w0).mp h)

/-- canton/cantonlaw4.OfAttrs, its body as a formula. -/
def F80 (x0 : Value) (R : Value → World → Prop) (w0 : World) : Prop :=
 LoopK2 (.slice none 0 0) (.int .i64 0) w0 (@hid _ ⟨fun _ x3_1 x4_2 w3 B4 =>
 BuiltinK Tryd.prog .len #[53] 3 #[false] #[x0] (@hid _ ⟨fun t7_5 w6 =>
 BinK Tryd.prog .lss 3 x4_2 t7_5 (@hid _ ⟨fun t8_7 w8 =>
 BrK t8_7 (@hid _ ⟨
 DrawK (@hid _ ⟨fun S9 w10 =>
 TakeS Tryd.prog S9 (Instr.indexAt 53 x0 x4_2) (@hid _ ⟨fun t14_11 =>
 TakeS Tryd.prog S9 (Instr.fieldAt 128 t14_11 0) (@hid _ ⟨fun t15_12 =>
 TakeS Tryd.prog S9 (Instr.loadAt 9 t15_12) (@hid _ ⟨fun t16_13 =>
 TakeS Tryd.prog S9 (Instr.indexAt 53 x0 x4_2) (@hid _ ⟨fun t19_14 =>
 TakeS Tryd.prog S9 (Instr.fieldAt 128 t19_14 1) (@hid _ ⟨fun t20_15 =>
 TakeS Tryd.prog S9 (Instr.loadAt 126 t20_15) (@hid _ ⟨fun t21_16 =>
 (CallV Tryd.prog (.func (.func 98) #[] #[]) #[t21_16] (@hid _ ⟨fun t22_17 w18 =>
 S9 w18 ∧
 (BuildK Tryd.prog 133 #[(0, t16_13), (1, t22_17)] (@hid _ ⟨fun t23_19 w20 =>
 S9 w20 ∧
 (BuildSliceK Tryd.prog 63 1 #[(0, t23_19)] (@hid _ ⟨fun t24_21 w22 =>
 S9 w22 ∧
 (BuiltinK Tryd.prog .append #[63, 63] 63 #[false, false] #[x3_1, t24_21] (@hid _ ⟨fun t25_23 w24 =>
 S9 w24 ∧
 BinK Tryd.prog .add 3 x4_2 (.int .i64 1) (@hid _ ⟨fun t10_25 w26 =>
 B4 t25_23 t10_25 w26⟩) w24⟩) w22) ∧
 True⟩) w20) ∧
 True⟩) w18) ∧
 True⟩) w10) ∧
 True⟩)⟩)⟩)⟩)⟩)⟩)⟩) w8⟩) (@hid _ ⟨
 R x3_1 w8⟩)⟩) w6⟩) w3⟩)
def a80 : Ann := (.seq .no (.seq .no (.seq (.seq .no (.block (.loop [3, 4] [(5, 25)] (.seq (.seq .no (.cond .no .no)) (.seq (.block (.plan (.take 0 (.take 1 (.take 2 (.take 3 (.take 4 (.take 5 (.take 6 (.take 7 (.take 8 (.take 9 (.take 10 (.alt 11 (.alt 12 (.alt 13 (.alt 14 (.take 15 .done) .nil) .nil) .nil) .nil)))))))))))))) .no))))) (.seq .no .no))))
theorem F80_eq (x0 : Value) (R : Value → World → Prop) (w0 : World) : F80 x0 R w0 = vc Tryd.prog (bodyOf Tryd.f80) a80 (retQ Tryd.prog Tryd.f80 R) (envOf 0 [x0]) w0 := by kernel_rfl
theorem F80_calls (x0 : Value) (R : Value → World → Prop) (w0 : World) (h : F80 x0 R w0) : CallK Tryd.prog 80 #[x0] R w0 :=
 calls_vc (c := bodyOf Tryd.f80) Tryd.func80 (by kernel_rfl) (by kernel_rfl) a80 (by kernel_rfl) (by kernel_rfl) [x0] (by rw [Tryd.ntmps80]; exact Nat.le_of_ble_eq_true rfl) w0 R ((F80_eq x0 R w0).mp h)

/-- canton/row.Clone, its body as a formula. -/
def F81 (x0 : Value) (R : Value → World → Prop) (w0 : World) : Prop :=
 BuiltinK Tryd.prog .len #[53] 3 #[false] #[x0] (@hid _ ⟨fun t7_1 w2 =>
 LoopK2 (.slice none 0 0) (.int .i64 0) w2 (@hid _ ⟨fun _ x3_3 x8_4 w5 B6 =>
 BinK Tryd.prog .lss 3 x8_4 t7_1 (@hid _ ⟨fun t9_7 w8 =>
 BrK t9_7 (@hid _ ⟨
 IndexAtK Tryd.prog 53 x0 x8_4 (@hid _ ⟨fun t10_9 w10 =>
 LoadK Tryd.prog 128 t10_9 (@hid _ ⟨fun t11_11 w12 =>
 AllocK Tryd.prog 128 (@hid _ ⟨fun t5_13 w14 =>
 StoreK Tryd.prog 128 t5_13 t11_11 (@hid _ ⟨fun tu_15 w16 =>
 DrawK (@hid _ ⟨fun S17 w18 =>
 TakeS Tryd.prog S17 (Instr.fieldAt 128 t5_13 0) (@hid _ ⟨fun t13_19 =>
 TakeS Tryd.prog S17 (Instr.loadAt 9 t13_19) (@hid _ ⟨fun t14_20 =>
 TakeS Tryd.prog S17 (Instr.fieldAt 128 t5_13 1) (@hid _ ⟨fun t15_21 =>
 TakeS Tryd.prog S17 (Instr.loadAt 126 t15_21) (@hid _ ⟨fun t16_22 =>
 (CallV Tryd.prog (.func (.func 99) #[] #[]) #[t16_22] (@hid _ ⟨fun t17_23 w24 =>
 S17 w24 ∧
 (BuildK Tryd.prog 128 #[(0, t14_20), (1, t17_23)] (@hid _ ⟨fun t18_25 w26 =>
 S17 w26 ∧
 (BuildSliceK Tryd.prog 53 1 #[(0, t18_25)] (@hid _ ⟨fun t19_27 w28 =>
 S17 w28 ∧
 (BuiltinK Tryd.prog .append #[53, 53] 53 #[false, false] #[x3_3, t19_27] (@hid _ ⟨fun t20_29 w30 =>
 S17 w30 ∧
 BinK Tryd.prog .add 3 x8_4 (.int .i64 1) (@hid _ ⟨fun t21_31 w32 =>
 B6 t20_29 t21_31 w32⟩) w30⟩) w28) ∧
 True⟩) w26) ∧
 True⟩) w24) ∧
 True⟩) w18) ∧
 True⟩)⟩)⟩)⟩)⟩) w16⟩) w14⟩) w12⟩) w10⟩) w8⟩) (@hid _ ⟨
 CallV Tryd.prog (.func (.func 100) #[] #[]) #[x3_3] (@hid _ ⟨fun t23_33 w34 =>
 R t23_33 w34⟩) w8⟩)⟩) w5⟩)⟩) w0
def a81 : Ann := (.seq .no (.seq .no (.seq (.seq .no (.block (.loop [3, 8] [(5, 5), (9, 21)] (.seq .no (.seq (.cond .no .no) (.seq (.block (.seq .no (.plan (.take 0 (.take 1 (.take 2 (.take 3 (.take 4 (.alt 5 (.alt 6 (.alt 7 (.alt 8 (.take 9 .done) .nil) .nil) .nil) .nil))))))))) .no)))))) (.seq .no .no))))
theorem F81_eq (x0 : Value) (R : Value → World → Prop) (w0 : World) : F81 x0 R w0 = vc Tryd.prog (bodyOf Tryd.f81) a81 (retQ Tryd.prog Tryd.f81 R) (envOf 0 [x0]) w0 := by kernel_rfl
theorem F81_calls (x0 : Value) (R : Value → World → Prop) (w0 : World) (h : F81 x0 R w0) : CallK Tryd.prog 81 #[x0] R w0 :=
 calls_vc (c := bodyOf Tryd.f81) Tryd.func81 (by kernel_rfl) (by kernel_rfl) a81 (by kernel_rfl) (by kernel_rfl) [x0] (by rw [Tryd.ntmps81]; exact Nat.le_of_ble_eq_true rfl) w0 R ((F81_eq x0 R w0).mp h)

/-- canton/cantonref7.Order, its body as a formula. -/
def F82 (x0 x1 : Value) (R : Value → World → Prop) (w0 : World) : Prop :=
 BinK Tryd.prog .lss 2 x0 x1 (@hid _ ⟨fun t8_1 w2 =>
 BrK t8_1 (@hid _ ⟨
 R (.int .i64 (-1)) w2⟩) (@hid _ ⟨
 BinK Tryd.prog .gtr 2 x0 x1 (@hid _ ⟨fun t12_3 w4 =>
 BrK t12_3 (@hid _ ⟨
 R (.int .i64 1) w4⟩) (@hid _ ⟨
 R (.int .i64 0) w4⟩)⟩) w2⟩)⟩) w0
def a82 : Ann := (.seq .no (.seq (.block (.seq .no (.cond (.seq .no .no) (.seq .no (.cond (.seq .no .no) .no))))) (.seq .no .no)))
theorem F82_eq (x0 x1 : Value) (R : Value → World → Prop) (w0 : World) : F82 x0 x1 R w0 = vc Tryd.prog (bodyOf Tryd.f82) a82 (retQ Tryd.prog Tryd.f82 R) (envOf 0 [x0, x1]) w0 := by kernel_rfl
theorem F82_calls (x0 x1 : Value) (R : Value → World → Prop) (w0 : World) (h : F82 x0 x1 R w0) : CallK Tryd.prog 82 #[x0, x1] R w0 :=
 calls_vc (c := bodyOf Tryd.f82) Tryd.func82 (by kernel_rfl) (by kernel_rfl) a82 (by kernel_rfl) (by kernel_rfl) [x0, x1] (by rw [Tryd.ntmps82]; exact Nat.le_of_ble_eq_true rfl) w0 R ((F82_eq x0 x1 R w0).mp h)

/-- canton/cantonref7.OrderText, its body as a formula. -/
def F83 (x0 x1 : Value) (R : Value → World → Prop) (w0 : World) : Prop :=
 BinK Tryd.prog .lss 9 x0 x1 (@hid _ ⟨fun t8_1 w2 =>
 BrK t8_1 (@hid _ ⟨
 R (.int .i64 (-1)) w2⟩) (@hid _ ⟨
 BinK Tryd.prog .gtr 9 x0 x1 (@hid _ ⟨fun t12_3 w4 =>
 BrK t12_3 (@hid _ ⟨
 R (.int .i64 1) w4⟩) (@hid _ ⟨
 R (.int .i64 0) w4⟩)⟩) w2⟩)⟩) w0
def a83 : Ann := (.seq .no (.seq (.block (.seq .no (.cond (.seq .no .no) (.seq .no (.cond (.seq .no .no) .no))))) (.seq .no .no)))
theorem F83_eq (x0 x1 : Value) (R : Value → World → Prop) (w0 : World) : F83 x0 x1 R w0 = vc Tryd.prog (bodyOf Tryd.f83) a83 (retQ Tryd.prog Tryd.f83 R) (envOf 0 [x0, x1]) w0 := by kernel_rfl
theorem F83_calls (x0 x1 : Value) (R : Value → World → Prop) (w0 : World) (h : F83 x0 x1 R w0) : CallK Tryd.prog 83 #[x0, x1] R w0 :=
 calls_vc (c := bodyOf Tryd.f83) Tryd.func83 (by kernel_rfl) (by kernel_rfl) a83 (by kernel_rfl) (by kernel_rfl) [x0, x1] (by rw [Tryd.ntmps83]; exact Nat.le_of_ble_eq_true rfl) w0 R ((F83_eq x0 x1 R w0).mp h)

/-- slices.Index[[]string,string], its body as a formula. -/
def F84 (x0 x1 : Value) (R : Value → World → Prop) (w0 : World) : Prop :=
 BuiltinK Tryd.prog .len #[24] 3 #[false] #[x0] (@hid _ ⟨fun t7_1 w2 =>
 LoopK1 (.int .i64 0) w2 (@hid _ ⟨fun _ x8_3 w4 B5 =>
 BinK Tryd.prog .lss 3 x8_3 t7_1 (@hid _ ⟨fun t9_6 w7 =>
 BrK t9_6 (@hid _ ⟨
 IndexAtK Tryd.prog 24 x0 x8_3 (@hid _ ⟨fun t14_8 w9 =>
 LoadK Tryd.prog 9 t14_8 (@hid _ ⟨fun t15_10 w11 =>
 BinK Tryd.prog .eql 9 x1 t15_10 (@hid _ ⟨fun t16_12 w13 =>
 BrK t16_12 (@hid _ ⟨
 R x8_3 w13⟩) (@hid _ ⟨
 BinK Tryd.prog .add 3 x8_3 (.int .i64 1) (@hid _ ⟨fun t18_14 w15 =>
 B5 t18_14 w15⟩) w13⟩)⟩) w11⟩) w9⟩) w7⟩) (@hid _ ⟨
 R (.int .i64 (-1)) w7⟩)⟩) w4⟩)⟩) w0
def a84 : Ann := (.seq .no (.seq (.seq .no (.block (.loop [8] [(4, 5), (9, 18)] (.seq .no (.seq (.cond .no .no) (.seq (.block (.seq .no (.seq .no (.cond (.seq .no .no) .no)))) .no)))))) (.seq .no .no)))
theorem F84_eq (x0 x1 : Value) (R : Value → World → Prop) (w0 : World) : F84 x0 x1 R w0 = vc Tryd.prog (bodyOf Tryd.f84) a84 (retQ Tryd.prog Tryd.f84 R) (envOf 0 [x0, x1]) w0 := by kernel_rfl
theorem F84_calls (x0 x1 : Value) (R : Value → World → Prop) (w0 : World) (h : F84 x0 x1 R w0) : CallK Tryd.prog 84 #[x0, x1] R w0 :=
 calls_vc (c := bodyOf Tryd.f84) Tryd.func84 (by kernel_rfl) (by kernel_rfl) a84 (by kernel_rfl) (by kernel_rfl) [x0, x1] (by rw [Tryd.ntmps84]; exact Nat.le_of_ble_eq_true rfl) w0 R ((F84_eq x0 x1 R w0).mp h)

/-- cmp.isNaN[int64], its body as a formula. -/
def F85 (x0 : Value) (R : Value → World → Prop) (w0 : World) : Prop :=
 BinK Tryd.prog .neq 2 x0 x0 (@hid _ ⟨fun t5_1 w2 =>
 R t5_1 w2⟩) w0
def a85 : Ann := (.seq .no (.seq .no .no))
theorem F85_eq (x0 : Value) (R : Value → World → Prop) (w0 : World) : F85 x0 R w0 = vc Tryd.prog (bodyOf Tryd.f85) a85 (retQ Tryd.prog Tryd.f85 R) (envOf 0 [x0]) w0 := by kernel_rfl
theorem F85_calls (x0 : Value) (R : Value → World → Prop) (w0 : World) (h : F85 x0 R w0) : CallK Tryd.prog 85 #[x0] R w0 :=
 calls_vc (c := bodyOf Tryd.f85) Tryd.func85 (by kernel_rfl) (by kernel_rfl) a85 (by kernel_rfl) (by kernel_rfl) [x0] (by rw [Tryd.ntmps85]; exact Nat.le_of_ble_eq_true rfl) w0 R ((F85_eq x0 R w0).mp h)

/-- slices.EqualFunc[[]canton/row.Attr,[]canton/row.Attr,canton/row.Attr,canton/row.Attr], its body as a formula. -/
def F86 (x0 x1 x2 : Value) (R : Value → World → Prop) (w0 : World) : Prop :=
 BuiltinK Tryd.prog .len #[53] 3 #[false] #[x0] (@hid _ ⟨fun t11_1 w2 =>
 BuiltinK Tryd.prog .len #[53] 3 #[false] #[x1] (@hid _ ⟨fun t13_3 w4 =>
 BinK Tryd.prog .neq 3 t11_1 t13_3 (@hid _ ⟨fun t14_5 w6 =>
 BrK t14_5 (@hid _ ⟨
 R (.bool false) w6⟩) (@hid _ ⟨
 BuiltinK Tryd.prog .len #[53] 3 #[false] #[x0] (@hid _ ⟨fun t16_7 w8 =>
 LoopK1 (.int .i64 0) w8 (@hid _ ⟨fun _ x17_9 w10 B11 =>
 BinK Tryd.prog .lss 3 x17_9 t16_7 (@hid _ ⟨fun t18_12 w13 =>
 BrK t18_12 (@hid _ ⟨
 IndexAtK Tryd.prog 53 x0 x17_9 (@hid _ ⟨fun t20_14 w15 =>
 LoadK Tryd.prog 128 t20_14 (@hid _ ⟨fun t21_16 w17 =>
 AllocK Tryd.prog 128 (@hid _ ⟨fun t8_18 w19 =>
 StoreK Tryd.prog 128 t8_18 t21_16 (@hid _ ⟨fun tu_20 w21 =>
 IndexAtK Tryd.prog 53 x1 x17_9 (@hid _ ⟨fun t24_22 w23 =>
 LoadK Tryd.prog 128 t24_22 (@hid _ ⟨fun t25_24 w25 =>
 AllocK Tryd.prog 128 (@hid _ ⟨fun t9_26 w27 =>
 StoreK Tryd.prog 128 t9_26 t25_24 (@hid _ ⟨fun tu_28 w29 =>
 LoadK Tryd.prog 128 t8_18 (@hid _ ⟨fun t27_30 w31 =>
 LoadK Tryd.prog 128 t9_26 (@hid _ ⟨fun t28_32 w33 =>
 CallV Tryd.prog x2 #[t27_30, t28_32] (@hid _ ⟨fun t29_34 w35 =>
 UnK Tryd.prog .not t29_34 (@hid _ ⟨fun t30_36 w37 =>
 BrK t30_36 (@hid _ ⟨
 R (.bool false) w37⟩) (@hid _ ⟨
 BinK Tryd.prog .add 3 x17_9 (.int .i64 1) (@hid _ ⟨fun t31_38 w39 =>
 B11 t31_38 w39⟩) w37⟩)⟩) w35⟩) w33⟩) w31⟩) w29⟩) w27⟩) w25⟩) w23⟩) w21⟩) w19⟩) w17⟩) w15⟩) w13⟩) (@hid _ ⟨
 R (.bool true) w13⟩)⟩) w10⟩)⟩) w6⟩)⟩) w4⟩) w2⟩) w0
def a86 : Ann := (.seq .no (.seq (.seq .no (.cond (.seq .no .no) .no)) (.seq (.seq .no (.block (.loop [17] [(6, 9), (18, 31)] (.seq .no (.seq (.cond .no .no) (.seq (.block (.seq .no (.seq .no (.seq .no (.cond (.seq .no .no) .no))))) .no)))))) (.seq .no .no))))
theorem F86_eq (x0 x1 x2 : Value) (R : Value → World → Prop) (w0 : World) : F86 x0 x1 x2 R w0 = vc Tryd.prog (bodyOf Tryd.f86) a86 (retQ Tryd.prog Tryd.f86 R) (envOf 0 [x0, x1, x2]) w0 := by kernel_rfl
theorem F86_calls (x0 x1 x2 : Value) (R : Value → World → Prop) (w0 : World) (h : F86 x0 x1 x2 R w0) : CallK Tryd.prog 86 #[x0, x1, x2] R w0 :=
 calls_vc (c := bodyOf Tryd.f86) Tryd.func86 (by kernel_rfl) (by kernel_rfl) a86 (by kernel_rfl) (by kernel_rfl) [x0, x1, x2] (by rw [Tryd.ntmps86]; exact Nat.le_of_ble_eq_true rfl) w0 R ((F86_eq x0 x1 x2 R w0).mp h)

/-- canton/row.SameAttrs$1, its body as a formula. -/
def F87 (x0 x1 : Value) (R : Value → World → Prop) (w0 : World) : Prop :=
 BoxK Tryd.prog 128 x0 (@hid _ ⟨fun t2_1 w2 =>
 BoxK Tryd.prog 128 x1 (@hid _ ⟨fun t3_3 w4 =>
 FieldAtK Tryd.prog 128 t2_1 0 (@hid _ ⟨fun t5_5 w6 =>
 LoadK Tryd.prog 9 t5_5 (@hid _ ⟨fun t6_7 w8 =>
 FieldAtK Tryd.prog 128 t3_3 0 (@hid _ ⟨fun t7_9 w10 =>
 LoadK Tryd.prog 9 t7_9 (@hid _ ⟨fun t8_11 w12 =>
 BinK Tryd.prog .eql 9 t6_7 t8_11 (@hid _ ⟨fun t9_13 w14 =>
 GuardK t9_13 true (fun k w => FieldAtK Tryd.prog 128 t2_1 1 k w) (@hid _ ⟨fun t11_15 w16 =>
 GuardK t9_13 true (fun k w => LoadK Tryd.prog 126 t11_15 k w) (@hid _ ⟨fun t12_17 w18 =>
 GuardK t9_13 true (fun k w => FieldAtK Tryd.prog 128 t3_3 1 k w) (@hid _ ⟨fun t13_19 w20 =>
 GuardK t9_13 true (fun k w => LoadK Tryd.prog 126 t13_19 k w) (@hid _ ⟨fun t14_21 w22 =>
 GuardK t9_13 true (fun k w => CallV Tryd.prog (.func (.func 88) #[] #[]) #[t12_17, t14_21] k w) (@hid _ ⟨fun t15_23 w24 =>
 PickK Tryd.prog t9_13 t15_23 (.bool false) (@hid _ ⟨fun t16_25 w26 =>
 R t16_25 w26⟩) w24⟩) w22⟩) w20⟩) w18⟩) w16⟩) w14⟩) w12⟩) w10⟩) w8⟩) w6⟩) w4⟩) w2⟩) w0
def a87 : Ann := (.seq .no (.seq .no .no))
theorem F87_eq (x0 x1 : Value) (R : Value → World → Prop) (w0 : World) : F87 x0 x1 R w0 = vc Tryd.prog (bodyOf Tryd.f87) a87 (retQ Tryd.prog Tryd.f87 R) (envOf 0 [x0, x1]) w0 := by kernel_rfl
theorem F87_calls (x0 x1 : Value) (R : Value → World → Prop) (w0 : World) (h : F87 x0 x1 R w0) : CallK Tryd.prog 87 #[x0, x1] R w0 :=
 calls_vc (c := bodyOf Tryd.f87) Tryd.func87 (by kernel_rfl) (by kernel_rfl) a87 (by kernel_rfl) (by kernel_rfl) [x0, x1] (by rw [Tryd.ntmps87]; exact Nat.le_of_ble_eq_true rfl) w0 R ((F87_eq x0 x1 R w0).mp h)

/-- canton/value.Same, its body as a formula. -/
def F88 (x0 x1 : Value) (R : Value → World → Prop) (w0 : World) : Prop :=
 BoxK Tryd.prog 126 x0 (@hid _ ⟨fun t2_1 w2 =>
 BoxK Tryd.prog 126 x1 (@hid _ ⟨fun t3_3 w4 =>
 LoadK Tryd.prog 126 t2_1 (@hid _ ⟨fun t5_5 w6 =>
 LoadK Tryd.prog 126 t3_3 (@hid _ ⟨fun t6_7 w8 =>
 CallV Tryd.prog (.func (.func 101) #[] #[]) #[t5_5, t6_7] (@hid _ ⟨fun t7_9 w10 =>
 BinK Tryd.prog .eql 3 t7_9 (.int .i64 0) (@hid _ ⟨fun t8_11 w12 =>
 R t8_11 w12⟩) w10⟩) w8⟩) w6⟩) w4⟩) w2⟩) w0
def a88 : Ann := (.seq .no (.seq .no .no))
theorem F88_eq (x0 x1 : Value) (R : Value → World → Prop) (w0 : World) : F88 x0 x1 R w0 = vc Tryd.prog (bodyOf Tryd.f88) a88 (retQ Tryd.prog Tryd.f88 R) (envOf 0 [x0, x1]) w0 := by kernel_rfl
theorem F88_calls (x0 x1 : Value) (R : Value → World → Prop) (w0 : World) (h : F88 x0 x1 R w0) : CallK Tryd.prog 88 #[x0, x1] R w0 :=
 calls_vc (c := bodyOf Tryd.f88) Tryd.func88 (by kernel_rfl) (by kernel_rfl) a88 (by kernel_rfl) (by kernel_rfl) [x0, x1] (by rw [Tryd.ntmps88]; exact Nat.le_of_ble_eq_true rfl) w0 R ((F88_eq x0 x1 R w0).mp h)

/-- canton/cantonref7.SameAttrs, its body as a formula. -/
def F89 (x0 x1 : Value) (R : Value → World → Prop) (w0 : World) : Prop :=
 BuiltinK Tryd.prog .len #[63] 3 #[false] #[x0] (@hid _ ⟨fun t7_1 w2 =>
 BuiltinK Tryd.prog .len #[63] 3 #[false] #[x1] (@hid _ ⟨fun t9_3 w4 =>
 BinK Tryd.prog .neq 3 t7_1 t9_3 (@hid _ ⟨fun t10_5 w6 =>
 BrK t10_5 (@hid _ ⟨
 R (.bool false) w6⟩) (@hid _ ⟨
 LoopK1 (.int .i64 0) w6 (@hid _ ⟨fun _ x5_7 w8 B9 =>
 BuiltinK Tryd.prog .len #[63] 3 #[false] #[x0] (@hid _ ⟨fun t13_10 w11 =>
 BinK Tryd.prog .lss 3 x5_7 t13_10 (@hid _ ⟨fun t14_12 w13 =>
 BrK t14_12 (@hid _ ⟨
 DrawK (@hid _ ⟨fun S14 w15 =>
 TakeS Tryd.prog S14 (Instr.indexAt 63 x0 x5_7) (@hid _ ⟨fun t19_16 =>
 TakeS Tryd.prog S14 (Instr.fieldAt 133 t19_16 0) (@hid _ ⟨fun t20_17 =>
 TakeS Tryd.prog S14 (Instr.loadAt 9 t20_17) (@hid _ ⟨fun t21_18 =>
 TakeS Tryd.prog S14 (Instr.indexAt 63 x1 x5_7) (@hid _ ⟨fun t24_19 =>
 TakeS Tryd.prog S14 (Instr.fieldAt 133 t24_19 0) (@hid _ ⟨fun t25_20 =>
 TakeS Tryd.prog S14 (Instr.loadAt 9 t25_20) (@hid _ ⟨fun t26_21 =>
 BinT Tryd.prog S14 .neq 9 t21_18 t26_21 (@hid _ ⟨fun t27_22 =>
 TakeG t27_22 false (fun k => k x0) (@hid _ ⟨fun t29_23 =>
 TakeG t27_22 false (fun k => k x5_7) (@hid _ ⟨fun t30_24 =>
 TakeG t27_22 false (fun k => TakeS Tryd.prog S14 (Instr.indexAt 63 t29_23 t30_24) k) (@hid _ ⟨fun t31_25 =>
 TakeG t27_22 false (fun k => TakeS Tryd.prog S14 (Instr.fieldAt 133 t31_25 1) k) (@hid _ ⟨fun t32_26 =>
 TakeG t27_22 false (fun k => TakeS Tryd.prog S14 (Instr.loadAt 121 t32_26) k) (@hid _ ⟨fun t33_27 =>
 TakeG t27_22 false (fun k => k x1) (@hid _ ⟨fun t34_28 =>
 TakeG t27_22 false (fun k => k x5_7) (@hid _ ⟨fun t35_29 =>
 TakeG t27_22 false (fun k => TakeS Tryd.prog S14 (Instr.indexAt 63 t34_28 t35_29) k) (@hid _ ⟨fun t36_30 =>
 TakeG t27_22 false (fun k => TakeS Tryd.prog S14 (Instr.fieldAt 133 t36_30 1) k) (@hid _ ⟨fun t37_31 =>
 TakeG t27_22 false (fun k => TakeS Tryd.prog S14 (Instr.loadAt 121 t37_31) k) (@hid _ ⟨fun t38_32 =>
 (GuardK t27_22 false (fun k w => CallV Tryd.prog (.func (.func 102) #[] #[]) #[t33_27, t38_32] k w) (@hid _ ⟨fun t39_33 w34 =>
 S14 w34 ∧
 TakeG t27_22 false (fun k => BinT Tryd.prog S14 .neq 3 t39_33 (.int .i64 0) k) (@hid _ ⟨fun t40_35 =>
 PickT t27_22 (.bool true) t40_35 (@hid _ ⟨fun t41_36 =>
 BrK t41_36 (@hid _ ⟨
 R (.bool false) w34⟩) (@hid _ ⟨
 BinK Tryd.prog .add 3 x5_7 (.int .i64 1) (@hid _ ⟨fun t16_37 w38 =>
 B9 t16_37 w38⟩) w34⟩)⟩)⟩)⟩) w15) ∧
 True⟩)⟩)⟩)⟩)⟩)⟩)⟩)⟩)⟩)⟩)⟩)⟩)⟩)⟩)⟩)⟩)⟩)⟩) w13⟩) (@hid _ ⟨
 R (.bool true) w13⟩)⟩) w11⟩) w8⟩)⟩)⟩) w4⟩) w2⟩) w0
def a89 : Ann := (.seq .no (.seq (.seq .no (.cond (.seq .no .no) .no)) (.seq (.seq .no (.block (.loop [5] [(4, 4), (11, 41)] (.seq (.seq .no (.cond .no .no)) (.seq (.block (.seq (.plan (.take 0 (.take 1 (.take 2 (.take 3 (.take 4 (.take 5 (.take 6 (.take 7 (.take 8 (.take 9 (.take 10 (.take 11 (.take 12 (.take 13 (.take 14 (.take 15 (.take 16 (.take 17 (.take 18 (.take 19 (.take 20 (.take 21 (.alt 22 (.take 23 (.take 24 .done)) .nil)))))))))))))))))))))))) (.cond (.seq .no .no) .no))) .no))))) (.seq .no .no))))
theorem F89_eq (x0 x1 : Value) (R : Value → World → Prop) (w0 : World) : F89 x0 x1 R w0 = vc Tryd.prog (bodyOf Tryd.f89) a89 (retQ Tryd.prog Tryd.f89 R) (envOf 0 [x0, x1]) w0 := by kernel_rfl
theorem F89_calls (x0 x1 : Value) (R : Value → World → Prop) (w0 : World) (h : F89 x0 x1 R w0) : CallK Tryd.prog 89 #[x0, x1] R w0 :=
 calls_vc (c := bodyOf Tryd.f89) Tryd.func89 (by kernel_rfl) (by kernel_rfl) a89 (by kernel_rfl) (by kernel_rfl) [x0, x1] (by rw [Tryd.ntmps89]; exact Nat.le_of_ble_eq_true rfl) w0 R ((F89_eq x0 x1 R w0).mp h)

/-- canton/row.Get, its body as a formula. -/
def F90 (x0 x1 : Value) (R : Value → World → Prop) (w0 : World) : Prop :=
 AllocK Tryd.prog 126 (@hid _ ⟨fun t4_1 w2 =>
 CallV Tryd.prog (.func (.func 103) #[] #[]) #[x0, x1] (@hid _ ⟨fun t11_3 w4 =>
 ExtractK Tryd.prog t11_3 0 (@hid _ ⟨fun t12_5 w6 =>
 ExtractK Tryd.prog t11_3 1 (@hid _ ⟨fun t13_7 w8 =>
 UnK Tryd.prog .not t13_7 (@hid _ ⟨fun t15_9 w10 =>
 BrK t15_9 (@hid _ ⟨
 BuildK Tryd.prog 126 #[] (@hid _ ⟨fun t16_11 w12 =>
 StoreK Tryd.prog 126 t4_1 t16_11 (@hid _ ⟨fun tu_13 w14 =>
 LoadK Tryd.prog 126 t4_1 (@hid _ ⟨fun c15 w16 => w16 = w14 ∧ R (.tuple #[c15, (.bool false)]) w14⟩) w14⟩) w12⟩) w10⟩) (@hid _ ⟨
 IndexAtK Tryd.prog 53 x0 t12_5 (@hid _ ⟨fun t19_17 w18 =>
 FieldAtK Tryd.prog 128 t19_17 1 (@hid _ ⟨fun t20_19 w20 =>
 LoadK Tryd.prog 126 t20_19 (@hid _ ⟨fun t21_21 w22 =>
 CallV Tryd.prog (.func (.func 99) #[] #[]) #[t21_21] (@hid _ ⟨fun t22_23 w24 =>
 StoreK Tryd.prog 126 t4_1 t22_23 (@hid _ ⟨fun tu_25 w26 =>
 LoadK Tryd.prog 126 t4_1 (@hid _ ⟨fun c27 w28 => w28 = w26 ∧ R (.tuple #[c27, (.bool true)]) w26⟩) w26⟩) w24⟩) w22⟩) w20⟩) w18⟩) w10⟩)⟩) w8⟩) w6⟩) w4⟩) w2⟩) w0
def a90 : Ann := (.seq .no (.seq .no (.seq (.seq .no (.cond (.seq .no .no) .no)) (.seq .no .no))))
theorem F90_eq (x0 x1 : Value) (R : Value → World → Prop) (w0 : World) : F90 x0 x1 R w0 = vc Tryd.prog (bodyOf Tryd.f90) a90 (retQ Tryd.prog Tryd.f90 R) (envOf 0 [x0, x1]) w0 := by kernel_rfl
theorem F90_calls (x0 x1 : Value) (R : Value → World → Prop) (w0 : World) (h : F90 x0 x1 R w0) : CallK Tryd.prog 90 #[x0, x1] R w0 :=
 calls_vc (c := bodyOf Tryd.f90) Tryd.func90 (by kernel_rfl) (by kernel_rfl) a90 (by kernel_rfl) (by kernel_rfl) [x0, x1] (by rw [Tryd.ntmps90]; exact Nat.le_of_ble_eq_true rfl) w0 R ((F90_eq x0 x1 R w0).mp h)

/-- canton/path.Depth, its body as a formula. -/
def F91 (x0 : Value) (R : Value → World → Prop) (w0 : World) : Prop :=
 CallV Tryd.prog (.func (.func 104) #[] #[]) #[x0] (@hid _ ⟨fun t7_1 w2 =>
 ExtractK Tryd.prog t7_1 0 (@hid _ ⟨fun t8_3 w4 =>
 ExtractK Tryd.prog t7_1 1 (@hid _ ⟨fun t9_5 w6 =>
 BinK Tryd.prog .neq 30 t9_5 (.int .i64 0) (@hid _ ⟨fun t11_7 w8 =>
 BrK t11_7 (@hid _ ⟨
 R (.int .i64 (-1)) w8⟩) (@hid _ ⟨
 BuiltinK Tryd.prog .len #[24] 3 #[false] #[t8_3] (@hid _ ⟨fun t13_9 w10 =>
 R t13_9 w10⟩) w8⟩)⟩) w6⟩) w4⟩) w2⟩) w0
def a91 : Ann := (.seq .no (.seq .no (.seq (.seq .no (.cond (.seq .no .no) .no)) (.seq .no .no))))
theorem F91_eq (x0 : Value) (R : Value → World → Prop) (w0 : World) : F91 x0 R w0 = vc Tryd.prog (bodyOf Tryd.f91) a91 (retQ Tryd.prog Tryd.f91 R) (envOf 0 [x0]) w0 := by kernel_rfl
theorem F91_calls (x0 : Value) (R : Value → World → Prop) (w0 : World) (h : F91 x0 R w0) : CallK Tryd.prog 91 #[x0] R w0 :=
 calls_vc (c := bodyOf Tryd.f91) Tryd.func91 (by kernel_rfl) (by kernel_rfl) a91 (by kernel_rfl) (by kernel_rfl) [x0] (by rw [Tryd.ntmps91]; exact Nat.le_of_ble_eq_true rfl) w0 R ((F91_eq x0 R w0).mp h)

/-- slices.stableCmpFunc[canton/elect.Choice], its body as a formula. -/
def F92 (x0 x1 x2 : Value) (R : Value → World → Prop) (w0 : World) : Prop :=
 LoopK2 (.int .i64 0) (.int .i64 20) w0 (@hid _ ⟨fun _ x7_1 x8_2 w3 B4 =>
 BinK Tryd.prog .leq 3 x8_2 x1 (@hid _ ⟨fun t13_5 w6 =>
 BrK t13_5 (@hid _ ⟨
 CallV Tryd.prog (.func (.func 105) #[] #[]) #[x0, x7_1, x8_2, x2] (@hid _ ⟨fun t18_7 w8 =>
 BinK Tryd.prog .add 3 x8_2 (.int .i64 20) (@hid _ ⟨fun t22_9 w10 =>
 B4 x8_2 t22_9 w10⟩) w8⟩) w6⟩) (@hid _ ⟨
 CallV Tryd.prog (.func (.func 105) #[] #[]) #[x0, x7_1, x1, x2] (@hid _ ⟨fun t27_11 w12 =>
 LoopK1 (.int .i64 20) w12 (@hid _ ⟨fun _ x6_13 w14 B15 =>
 BinK Tryd.prog .lss 3 x6_13 x1 (@hid _ ⟨fun t30_16 w17 =>
 BrK t30_16 (@hid _ ⟨
 BinK Tryd.prog .mul 3 (.int .i64 2) x6_13 (@hid _ ⟨fun t32_18 w19 =>
 LoopK2 (.int .i64 0) t32_18 w19 (@hid _ ⟨fun _ x7_20 x8_21 w22 B23 =>
 BinK Tryd.prog .leq 3 x8_21 x1 (@hid _ ⟨fun t35_24 w25 =>
 BrK t35_24 (@hid _ ⟨
 BinK Tryd.prog .add 3 x7_20 x6_13 (@hid _ ⟨fun t40_26 w27 =>
 CallV Tryd.prog (.func (.func 106) #[] #[]) #[x0, x7_20, t40_26, x8_21, x2] (@hid _ ⟨fun t43_28 w29 =>
 BinK Tryd.prog .mul 3 (.int .i64 2) x6_13 (@hid _ ⟨fun t47_30 w31 =>
 BinK Tryd.prog .add 3 x8_21 t47_30 (@hid _ ⟨fun t48_32 w33 =>
 B23 x8_21 t48_32 w33⟩) w31⟩) w29⟩) w27⟩) w25⟩) (@hid _ ⟨
 BinK Tryd.prog .add 3 x7_20 x6_13 (@hid _ ⟨fun t51_34 w35 =>
 BinK Tryd.prog .lss 3 t51_34 x1 (@hid _ ⟨fun t54_36 w37 =>
 BrK t54_36 (@hid _ ⟨
 CallV Tryd.prog (.func (.func 106) #[] #[]) #[x0, x7_20, t51_34, x1, x2] (@hid _ ⟨fun t60_38 w39 =>
 BinK Tryd.prog .mul 3 x6_13 (.int .i64 2) (@hid _ ⟨fun t62_40 w41 =>
 B15 t62_40 w41⟩) w39⟩) w37⟩) (@hid _ ⟨
 BinK Tryd.prog .mul 3 x6_13 (.int .i64 2) (@hid _ ⟨fun t62_42 w43 =>
 B15 t62_42 w43⟩) w37⟩)⟩) w35⟩) w25⟩)⟩) w22⟩)⟩) w17⟩) (@hid _ ⟨
 R (.tuple #[]) w17⟩)⟩) w14⟩)⟩) w6⟩)⟩) w3⟩)
def a92 : Ann := (.seq .no (.seq .no (.seq (.block (.loop [7, 8] [(11, 22)] (.seq (.seq .no (.cond .no .no)) (.block (.seq .no (.seq .no .no)))))) (.seq .no (.block (.loop [6] [(7, 9), (28, 62)] (.seq (.seq .no (.cond .no .no)) (.block (.seq .no (.seq (.block (.loop [7, 8] [(33, 48)] (.seq (.seq .no (.cond .no .no)) (.block (.seq .no (.seq .no .no)))))) (.seq (.seq .no (.seq .no (.cond .no .no))) .no)))))))))))
theorem F92_eq (x0 x1 x2 : Value) (R : Value → World → Prop) (w0 : World) : F92 x0 x1 x2 R w0 = vc Tryd.prog (bodyOf Tryd.f92) a92 (retQ Tryd.prog Tryd.f92 R) (envOf 0 [x0, x1, x2]) w0 := by kernel_rfl
theorem F92_calls (x0 x1 x2 : Value) (R : Value → World → Prop) (w0 : World) (h : F92 x0 x1 x2 R w0) : CallK Tryd.prog 92 #[x0, x1, x2] R w0 :=
 calls_vc (c := bodyOf Tryd.f92) Tryd.func92 (by kernel_rfl) (by kernel_rfl) a92 (by kernel_rfl) (by kernel_rfl) [x0, x1, x2] (by rw [Tryd.ntmps92]; exact Nat.le_of_ble_eq_true rfl) w0 R ((F92_eq x0 x1 x2 R w0).mp h)

/-- canton/cantonref7.Path, its body as a formula. -/
def F93 (x0 : Value) (R : Value → World → Prop) (w0 : World) : Prop :=
 CallV Tryd.prog (.func (.func 107) #[] #[]) #[x0] (@hid _ ⟨fun t7_1 w2 =>
 ExtractK Tryd.prog t7_1 0 (@hid _ ⟨fun t8_3 w4 =>
 ExtractK Tryd.prog t7_1 1 (@hid _ ⟨fun t9_5 w6 =>
 BinK Tryd.prog .eql 3 t9_5 (.int .i64 0) (@hid _ ⟨fun t11_7 w8 =>
 R t11_7 w8⟩) w6⟩) w4⟩) w2⟩) w0
def a93 : Ann := (.seq .no (.seq .no (.seq .no .no)))
theorem F93_eq (x0 : Value) (R : Value → World → Prop) (w0 : World) : F93 x0 R w0 = vc Tryd.prog (bodyOf Tryd.f93) a93 (retQ Tryd.prog Tryd.f93 R) (envOf 0 [x0]) w0 := by kernel_rfl
theorem F93_calls (x0 : Value) (R : Value → World → Prop) (w0 : World) (h : F93 x0 R w0) : CallK Tryd.prog 93 #[x0] R w0 :=
 calls_vc (c := bodyOf Tryd.f93) Tryd.func93 (by kernel_rfl) (by kernel_rfl) a93 (by kernel_rfl) (by kernel_rfl) [x0] (by rw [Tryd.ntmps93]; exact Nat.le_of_ble_eq_true rfl) w0 R ((F93_eq x0 R w0).mp h)

/-- strings.CutPrefix, its body as a formula. -/
def F94 (x0 x1 : Value) (R : Value → World → Prop) (w0 : World) : Prop :=
 CallV Tryd.prog (.func (.func 108) #[] #[]) #[x0, x1] (@hid _ ⟨fun t8_1 w2 =>
 ExtractK Tryd.prog t8_1 0 (@hid _ ⟨fun t9_3 w4 =>
 ExtractK Tryd.prog t8_1 1 (@hid _ ⟨fun t10_5 w6 =>
 R (.tuple #[t9_3, t10_5]) w6⟩) w4⟩) w2⟩) w0
def a94 : Ann := (.seq .no (.seq .no .no))
theorem F94_eq (x0 x1 : Value) (R : Value → World → Prop) (w0 : World) : F94 x0 x1 R w0 = vc Tryd.prog (bodyOf Tryd.f94) a94 (retQ Tryd.prog Tryd.f94 R) (envOf 0 [x0, x1]) w0 := by kernel_rfl
theorem F94_calls (x0 x1 : Value) (R : Value → World → Prop) (w0 : World) (h : F94 x0 x1 R w0) : CallK Tryd.prog 94 #[x0, x1] R w0 :=
 calls_vc (c := bodyOf Tryd.f94) Tryd.func94 (by kernel_rfl) (by kernel_rfl) a94 (by kernel_rfl) (by kernel_rfl) [x0, x1] (by rw [Tryd.ntmps94]; exact Nat.le_of_ble_eq_true rfl) w0 R ((F94_eq x0 x1 R w0).mp h)

/-- canton/stamp.part, its body as a formula. -/
def F96 (x0 : Value) (R : Value → World → Prop) (w0 : World) : Prop :=
 BinK Tryd.prog .eql 9 x0 (.string { data := #[] }) (@hid _ ⟨fun t5_1 w2 =>
 GuardK t5_1 false (fun k w => k x0 w) (@hid _ ⟨fun t7_3 w4 =>
 GuardK t5_1 false (fun k w => BuiltinK Tryd.prog .len #[9] 3 #[false] #[t7_3] k w) (@hid _ ⟨fun t8_5 w6 =>
 GuardK t5_1 false (fun k w => BinK Tryd.prog .gtr 3 t8_5 (.int .i64 8) k w) (@hid _ ⟨fun t9_7 w8 =>
 PickK Tryd.prog t5_1 (.bool true) t9_7 (@hid _ ⟨fun t10_9 w10 =>
 GuardK t10_9 false (fun k w => k x0 w) (@hid _ ⟨fun t12_11 w12 =>
 GuardK t10_9 false (fun k w => ValK Tryd.prog (Instr.index 9 t12_11 (.int .i64 0)) k w) (@hid _ ⟨fun t13_13 w14 =>
 GuardK t10_9 false (fun k w => BinK Tryd.prog .lss 5 t13_13 (.int .u8 97) k w) (@hid _ ⟨fun t14_15 w16 =>
 PickK Tryd.prog t10_9 (.bool true) t14_15 (@hid _ ⟨fun t15_17 w18 =>
 BrK t15_17 (@hid _ ⟨
 R (.bool false) w18⟩) (@hid _ ⟨
 BuiltinK Tryd.prog .len #[9] 3 #[false] #[x0] (@hid _ ⟨fun t17_19 w20 =>
 LoopK1 (.int .i64 0) w20 (@hid _ ⟨fun _ x18_21 w22 B23 =>
 BinK Tryd.prog .lss 3 x18_21 t17_19 (@hid _ ⟨fun t19_24 w25 =>
 BrK t19_24 (@hid _ ⟨
 ValK Tryd.prog (Instr.index 9 x0 x18_21) (@hid _ ⟨fun t23_26 w27 =>
 BinK Tryd.prog .lss 5 t23_26 (.int .u8 97) (@hid _ ⟨fun t24_28 w29 =>
 GuardK t24_28 false (fun k w => k x0 w) (@hid _ ⟨fun t26_30 w31 =>
 GuardK t24_28 false (fun k w => k x18_21 w) (@hid _ ⟨fun t27_32 w33 =>
 GuardK t24_28 false (fun k w => ValK Tryd.prog (Instr.index 9 t26_30 t27_32) k w) (@hid _ ⟨fun t28_34 w35 =>
 GuardK t24_28 false (fun k w => BinK Tryd.prog .gtr 5 t28_34 (.int .u8 122) k w) (@hid _ ⟨fun t29_36 w37 =>
 PickK Tryd.prog t24_28 (.bool true) t29_36 (@hid _ ⟨fun t30_38 w39 =>
 GuardK t30_38 true (fun k w => k x0 w) (@hid _ ⟨fun t32_40 w41 =>
 GuardK t30_38 true (fun k w => k x18_21 w) (@hid _ ⟨fun t33_42 w43 =>
 GuardK t30_38 true (fun k w => ValK Tryd.prog (Instr.index 9 t32_40 t33_42) k w) (@hid _ ⟨fun t34_44 w45 =>
 GuardK t30_38 true (fun k w => BinK Tryd.prog .lss 5 t34_44 (.int .u8 48) k w) (@hid _ ⟨fun t35_46 w47 =>
 GuardK t30_38 true (fun k w => k t35_46 w) (@hid _ ⟨fun t36_48 w49 =>
 GuardK t36_48 false (fun k w => k x0 w) (@hid _ ⟨fun t37_50 w51 =>
 GuardK t36_48 false (fun k w => k x18_21 w) (@hid _ ⟨fun t38_52 w53 =>
 GuardK t36_48 false (fun k w => ValK Tryd.prog (Instr.index 9 t37_50 t38_52) k w) (@hid _ ⟨fun t39_54 w55 =>
 GuardK t36_48 false (fun k w => BinK Tryd.prog .gtr 5 t39_54 (.int .u8 57) k w) (@hid _ ⟨fun t40_56 w57 =>
 GuardK t30_38 true (fun k w => PickK Tryd.prog t36_48 (.bool true) t40_56 k w) (@hid _ ⟨fun t41_58 w59 =>
 PickK Tryd.prog t30_38 t41_58 (.bool false) (@hid _ ⟨fun t42_60 w61 =>
 BrK t42_60 (@hid _ ⟨
 R (.bool false) w61⟩) (@hid _ ⟨
 BinK Tryd.prog .add 3 x18_21 (.int .i64 1) (@hid _ ⟨fun t43_62 w63 =>
 B23 t43_62 w63⟩) w61⟩)⟩) w59⟩) w57⟩) w55⟩) w53⟩) w51⟩) w49⟩) w47⟩) w45⟩) w43⟩) w41⟩) w39⟩) w37⟩) w35⟩) w33⟩) w31⟩) w29⟩) w27⟩) w25⟩) (@hid _ ⟨
 R (.bool true) w25⟩)⟩) w22⟩)⟩) w18⟩)⟩) w16⟩) w14⟩) w12⟩) w10⟩) w8⟩) w6⟩) w4⟩) w2⟩) w0
def a96 : Ann := (.seq .no (.seq (.seq .no (.cond (.seq .no .no) .no)) (.seq (.seq .no (.block (.loop [18] [(2, 3), (19, 43)] (.seq .no (.seq (.cond .no .no) (.seq (.block (.seq .no (.seq .no (.cond (.seq .no .no) .no)))) .no)))))) (.seq .no .no))))
theorem F96_eq (x0 : Value) (R : Value → World → Prop) (w0 : World) : F96 x0 R w0 = vc Tryd.prog (bodyOf Tryd.f96) a96 (retQ Tryd.prog Tryd.f96 R) (envOf 0 [x0]) w0 := by kernel_rfl
theorem F96_calls (x0 : Value) (R : Value → World → Prop) (w0 : World) (h : F96 x0 R w0) : CallK Tryd.prog 96 #[x0] R w0 :=
 calls_vc (c := bodyOf Tryd.f96) Tryd.func96 (by kernel_rfl) (by kernel_rfl) a96 (by kernel_rfl) (by kernel_rfl) [x0] (by rw [Tryd.ntmps96]; exact Nat.le_of_ble_eq_true rfl) w0 R ((F96_eq x0 R w0).mp h)

/-- canton/cantonlaw4.FewAttrs, its body as a formula. -/
def F97 (x0 : Value) (R : Value → World → Prop) (w0 : World) : Prop :=
 BuiltinK Tryd.prog .len #[53] 3 #[false] #[x0] (@hid _ ⟨fun t5_1 w2 =>
 BinK Tryd.prog .gtr 3 t5_1 (.int .i64 40) (@hid _ ⟨fun t6_3 w4 =>
 BrK t6_3 (@hid _ ⟨
 R (.bool false) w4⟩) (@hid _ ⟨
 LoopK1 (.int .i64 0) w4 (@hid _ ⟨fun _ x3_5 w6 B7 =>
 BuiltinK Tryd.prog .len #[53] 3 #[false] #[x0] (@hid _ ⟨fun t9_8 w9 =>
 BinK Tryd.prog .lss 3 x3_5 t9_8 (@hid _ ⟨fun t10_10 w11 =>
 BrK t10_10 (@hid _ ⟨
 IndexAtK Tryd.prog 53 x0 x3_5 (@hid _ ⟨fun t15_12 w13 =>
 FieldAtK Tryd.prog 128 t15_12 0 (@hid _ ⟨fun t16_14 w15 =>
 LoadK Tryd.prog 9 t16_14 (@hid _ ⟨fun t17_16 w17 =>
 BuiltinK Tryd.prog .len #[9] 3 #[false] #[t17_16] (@hid _ ⟨fun t18_18 w19 =>
 BinK Tryd.prog .gtr 3 t18_18 (.int .i64 100) (@hid _ ⟨fun t19_20 w21 =>
 GuardK t19_20 false (fun k w => k x0 w) (@hid _ ⟨fun t21_22 w23 =>
 GuardK t19_20 false (fun k w => k x3_5 w) (@hid _ ⟨fun t22_24 w25 =>
 GuardK t19_20 false (fun k w => IndexAtK Tryd.prog 53 t21_22 t22_24 k w) (@hid _ ⟨fun t23_26 w27 =>
 GuardK t19_20 false (fun k w => FieldAtK Tryd.prog 128 t23_26 1 k w) (@hid _ ⟨fun t24_28 w29 =>
 GuardK t19_20 false (fun k w => LoadK Tryd.prog 126 t24_28 k w) (@hid _ ⟨fun t25_30 w31 =>
 GuardK t19_20 false (fun k w => CallV Tryd.prog (.func (.func 110) #[] #[]) #[t25_30] k w) (@hid _ ⟨fun t26_32 w33 =>
 GuardK t19_20 false (fun k w => UnK Tryd.prog .not t26_32 k w) (@hid _ ⟨fun t27_34 w35 =>
 PickK Tryd.prog t19_20 (.bool true) t27_34 (@hid _ ⟨fun t28_36 w37 =>
 BrK t28_36 (@hid _ ⟨
 R (.bool false) w37⟩) (@hid _ ⟨
 BinK Tryd.prog .add 3 x3_5 (.int .i64 1) (@hid _ ⟨fun t12_38 w39 =>
 B7 t12_38 w39⟩) w37⟩)⟩) w35⟩) w33⟩) w31⟩) w29⟩) w27⟩) w25⟩) w23⟩) w21⟩) w19⟩) w17⟩) w15⟩) w13⟩) w11⟩) (@hid _ ⟨
 R (.bool true) w11⟩)⟩) w9⟩) w6⟩)⟩)⟩) w2⟩) w0
def a97 : Ann := (.seq .no (.seq (.seq .no (.cond (.seq .no .no) .no)) (.seq (.seq .no (.block (.loop [3] [(2, 2), (7, 28)] (.seq (.seq .no (.cond .no .no)) (.seq (.block (.seq .no (.cond (.seq .no .no) .no))) .no))))) (.seq .no .no))))
theorem F97_eq (x0 : Value) (R : Value → World → Prop) (w0 : World) : F97 x0 R w0 = vc Tryd.prog (bodyOf Tryd.f97) a97 (retQ Tryd.prog Tryd.f97 R) (envOf 0 [x0]) w0 := by kernel_rfl
theorem F97_calls (x0 : Value) (R : Value → World → Prop) (w0 : World) (h : F97 x0 R w0) : CallK Tryd.prog 97 #[x0] R w0 :=
 calls_vc (c := bodyOf Tryd.f97) Tryd.func97 (by kernel_rfl) (by kernel_rfl) a97 (by kernel_rfl) (by kernel_rfl) [x0] (by rw [Tryd.ntmps97]; exact Nat.le_of_ble_eq_true rfl) w0 R ((F97_eq x0 R w0).mp h)

/-- canton/cantonlaw2.Of, its body as a formula. -/
def F98 (x0 : Value) (R : Value → World → Prop) (w0 : World) : Prop :=
 BoxK Tryd.prog 126 x0 (@hid _ ⟨fun t1_1 w2 =>
 AllocK Tryd.prog 121 (@hid _ ⟨fun t2_3 w4 =>
 FieldAtK Tryd.prog 126 t1_1 0 (@hid _ ⟨fun t3_5 w6 =>
 LoadK Tryd.prog 3 t3_5 (@hid _ ⟨fun t4_7 w8 =>
 FieldAtK Tryd.prog 126 t1_1 1 (@hid _ ⟨fun t5_9 w10 =>
 LoadK Tryd.prog 2 t5_9 (@hid _ ⟨fun t6_11 w12 =>
 FieldAtK Tryd.prog 126 t1_1 2 (@hid _ ⟨fun t7_13 w14 =>
 LoadK Tryd.prog 9 t7_13 (@hid _ ⟨fun t8_15 w16 =>
 FieldAtK Tryd.prog 126 t1_1 3 (@hid _ ⟨fun t9_17 w18 =>
 LoadK Tryd.prog 80 t9_17 (@hid _ ⟨fun t10_19 w20 =>
 BuildK Tryd.prog 121 #[(0, t4_7), (1, t6_11), (2, t8_15), (3, t10_19)] (@hid _ ⟨fun t11_21 w22 =>
 StoreK Tryd.prog 121 t2_3 t11_21 (@hid _ ⟨fun tu_23 w24 =>
 LoadK Tryd.prog 121 t2_3 (@hid _ ⟨fun c25 w26 => w26 = w24 ∧ R c25 w24⟩) w24⟩) w22⟩) w20⟩) w18⟩) w16⟩) w14⟩) w12⟩) w10⟩) w8⟩) w6⟩) w4⟩) w2⟩) w0
def a98 : Ann := (.seq .no (.seq .no .no))
theorem F98_eq (x0 : Value) (R : Value → World → Prop) (w0 : World) : F98 x0 R w0 = vc Tryd.prog (bodyOf Tryd.f98) a98 (retQ Tryd.prog Tryd.f98 R) (envOf 0 [x0]) w0 := by kernel_rfl
theorem F98_calls (x0 : Value) (R : Value → World → Prop) (w0 : World) (h : F98 x0 R w0) : CallK Tryd.prog 98 #[x0] R w0 :=
 calls_vc (c := bodyOf Tryd.f98) Tryd.func98 (by kernel_rfl) (by kernel_rfl) a98 (by kernel_rfl) (by kernel_rfl) [x0] (by rw [Tryd.ntmps98]; exact Nat.le_of_ble_eq_true rfl) w0 R ((F98_eq x0 R w0).mp h)

/-- canton/row.apart, its body as a formula. -/
def F99 (x0 : Value) (R : Value → World → Prop) (w0 : World) : Prop :=
 BoxK Tryd.prog 126 x0 (@hid _ ⟨fun t1_1 w2 =>
 AllocK Tryd.prog 126 (@hid _ ⟨fun t2_3 w4 =>
 FieldAtK Tryd.prog 126 t1_1 3 (@hid _ ⟨fun t3_5 w6 =>
 LoadK Tryd.prog 80 t3_5 (@hid _ ⟨fun t4_7 w8 =>
 CallV Tryd.prog (.func (.func 112) #[] #[]) #[t4_7] (@hid _ ⟨fun t5_9 w10 =>
 CallV Tryd.prog (.func (.func 111) #[] #[]) #[t5_9] (@hid _ ⟨fun t6_11 w12 =>
 FieldAtK Tryd.prog 126 t1_1 3 (@hid _ ⟨fun t7_13 w14 =>
 StoreK Tryd.prog 80 t7_13 t6_11 (@hid _ ⟨fun tu_15 w16 =>
 LoadK Tryd.prog 126 t1_1 (@hid _ ⟨fun t8_17 w18 =>
 StoreK Tryd.prog 126 t2_3 t8_17 (@hid _ ⟨fun tu_19 w20 =>
 LoadK Tryd.prog 126 t2_3 (@hid _ ⟨fun c21 w22 => w22 = w20 ∧ R c21 w20⟩) w20⟩) w18⟩) w16⟩) w14⟩) w12⟩) w10⟩) w8⟩) w6⟩) w4⟩) w2⟩) w0
def a99 : Ann := (.seq .no (.seq .no (.seq .no .no)))
theorem F99_eq (x0 : Value) (R : Value → World → Prop) (w0 : World) : F99 x0 R w0 = vc Tryd.prog (bodyOf Tryd.f99) a99 (retQ Tryd.prog Tryd.f99 R) (envOf 0 [x0]) w0 := by kernel_rfl
theorem F99_calls (x0 : Value) (R : Value → World → Prop) (w0 : World) (h : F99 x0 R w0) : CallK Tryd.prog 99 #[x0] R w0 :=
 calls_vc (c := bodyOf Tryd.f99) Tryd.func99 (by kernel_rfl) (by kernel_rfl) a99 (by kernel_rfl) (by kernel_rfl) [x0] (by rw [Tryd.ntmps99]; exact Nat.le_of_ble_eq_true rfl) w0 R ((F99_eq x0 R w0).mp h)

/-- slices.Clip[[]canton/row.Attr,canton/row.Attr], its body as a formula. -/
def F100 (x0 : Value) (R : Value → World → Prop) (w0 : World) : Prop :=
 BuiltinK Tryd.prog .len #[53] 3 #[false] #[x0] (@hid _ ⟨fun t5_1 w2 =>
 BuiltinK Tryd.prog .len #[53] 3 #[false] #[x0] (@hid _ ⟨fun t7_3 w4 =>
 SliceK Tryd.prog 53 x0 none (some t5_1) (some t7_3) (@hid _ ⟨fun t8_5 w6 =>
 R t8_5 w6⟩) w4⟩) w2⟩) w0
def a100 : Ann := (.seq .no (.seq .no .no))
theorem F100_eq (x0 : Value) (R : Value → World → Prop) (w0 : World) : F100 x0 R w0 = vc Tryd.prog (bodyOf Tryd.f100) a100 (retQ Tryd.prog Tryd.f100 R) (envOf 0 [x0]) w0 := by kernel_rfl
theorem F100_calls (x0 : Value) (R : Value → World → Prop) (w0 : World) (h : F100 x0 R w0) : CallK Tryd.prog 100 #[x0] R w0 :=
 calls_vc (c := bodyOf Tryd.f100) Tryd.func100 (by kernel_rfl) (by kernel_rfl) a100 (by kernel_rfl) (by kernel_rfl) [x0] (by rw [Tryd.ntmps100]; exact Nat.le_of_ble_eq_true rfl) w0 R ((F100_eq x0 R w0).mp h)

/-- canton/value.Compare, its body as a formula. -/
def F101 (x0 x1 : Value) (R : Value → World → Prop) (w0 : World) : Prop :=
 BoxK Tryd.prog 126 x0 (@hid _ ⟨fun t2_1 w2 =>
 BoxK Tryd.prog 126 x1 (@hid _ ⟨fun t3_3 w4 =>
 FieldAtK Tryd.prog 126 t2_1 0 (@hid _ ⟨fun t6_5 w6 =>
 LoadK Tryd.prog 3 t6_5 (@hid _ ⟨fun t7_7 w8 =>
 FieldAtK Tryd.prog 126 t3_3 0 (@hid _ ⟨fun t8_9 w10 =>
 LoadK Tryd.prog 3 t8_9 (@hid _ ⟨fun t9_11 w12 =>
 CallV Tryd.prog (.func (.func 113) #[] #[]) #[t7_7, t9_11] (@hid _ ⟨fun t10_13 w14 =>
 BinK Tryd.prog .neq 3 t10_13 (.int .i64 0) (@hid _ ⟨fun t12_15 w16 =>
 BrK t12_15 (@hid _ ⟨
 R t10_13 w16⟩) (@hid _ ⟨
 FieldAtK Tryd.prog 126 t2_1 0 (@hid _ ⟨fun t14_17 w18 =>
 LoadK Tryd.prog 3 t14_17 (@hid _ ⟨fun t15_19 w20 =>
 BinK Tryd.prog .eql 3 t15_19 (.int .i64 1) (@hid _ ⟨fun t17_21 w22 =>
 BrK t17_21 (@hid _ ⟨
 FieldAtK Tryd.prog 126 t2_1 1 (@hid _ ⟨fun t18_23 w24 =>
 LoadK Tryd.prog 2 t18_23 (@hid _ ⟨fun t19_25 w26 =>
 FieldAtK Tryd.prog 126 t3_3 1 (@hid _ ⟨fun t20_27 w28 =>
 LoadK Tryd.prog 2 t20_27 (@hid _ ⟨fun t21_29 w30 =>
 CallV Tryd.prog (.func (.func 59) #[] #[]) #[t19_25, t21_29] (@hid _ ⟨fun t22_31 w32 =>
 R t22_31 w32⟩) w30⟩) w28⟩) w26⟩) w24⟩) w22⟩) (@hid _ ⟨
 BinK Tryd.prog .eql 3 t15_19 (.int .i64 2) (@hid _ ⟨fun t24_33 w34 =>
 BrK t24_33 (@hid _ ⟨
 FieldAtK Tryd.prog 126 t2_1 2 (@hid _ ⟨fun t25_35 w36 =>
 LoadK Tryd.prog 9 t25_35 (@hid _ ⟨fun t26_37 w38 =>
 FieldAtK Tryd.prog 126 t3_3 2 (@hid _ ⟨fun t27_39 w40 =>
 LoadK Tryd.prog 9 t27_39 (@hid _ ⟨fun t28_41 w42 =>
 CallV Tryd.prog (.func (.func 40) #[] #[]) #[t26_37, t28_41] (@hid _ ⟨fun t29_43 w44 =>
 R t29_43 w44⟩) w42⟩) w40⟩) w38⟩) w36⟩) w34⟩) (@hid _ ⟨
 BinK Tryd.prog .eql 3 t15_19 (.int .i64 3) (@hid _ ⟨fun t31_45 w46 =>
 BrK t31_45 (@hid _ ⟨
 FieldAtK Tryd.prog 126 t2_1 3 (@hid _ ⟨fun t32_47 w48 =>
 LoadK Tryd.prog 80 t32_47 (@hid _ ⟨fun t33_49 w50 =>
 FieldAtK Tryd.prog 126 t3_3 3 (@hid _ ⟨fun t34_51 w52 =>
 LoadK Tryd.prog 80 t34_51 (@hid _ ⟨fun t35_53 w54 =>
 CallV Tryd.prog (.func (.func 114) #[] #[]) #[t33_49, t35_53] (@hid _ ⟨fun t36_55 w56 =>
 R t36_55 w56⟩) w54⟩) w52⟩) w50⟩) w48⟩) w46⟩) (@hid _ ⟨
 R (.int .i64 0) w46⟩)⟩) w34⟩)⟩) w22⟩)⟩) w20⟩) w18⟩) w16⟩)⟩) w14⟩) w12⟩) w10⟩) w8⟩) w6⟩) w4⟩) w2⟩) w0
def a101 : Ann := (.seq .no (.seq (.seq .no (.seq .no (.cond (.seq .no .no) .no))) (.seq (.seq .no (.block (.seq .no (.cond (.seq .no .no) (.seq .no (.cond (.seq .no .no) (.seq .no (.cond (.seq .no .no) .no)))))))) (.seq .no .no))))
theorem F101_eq (x0 x1 : Value) (R : Value → World → Prop) (w0 : World) : F101 x0 x1 R w0 = vc Tryd.prog (bodyOf Tryd.f101) a101 (retQ Tryd.prog Tryd.f101 R) (envOf 0 [x0, x1]) w0 := by kernel_rfl
theorem F101_calls (x0 x1 : Value) (R : Value → World → Prop) (w0 : World) (h : F101 x0 x1 R w0) : CallK Tryd.prog 101 #[x0, x1] R w0 :=
 calls_vc (c := bodyOf Tryd.f101) Tryd.func101 (by kernel_rfl) (by kernel_rfl) a101 (by kernel_rfl) (by kernel_rfl) [x0, x1] (by rw [Tryd.ntmps101]; exact Nat.le_of_ble_eq_true rfl) w0 R ((F101_eq x0 x1 R w0).mp h)

/-- canton/cantonref7.CompareValue, its body as a formula. -/
def F102 (x0 x1 : Value) (R : Value → World → Prop) (w0 : World) : Prop :=
 BoxK Tryd.prog 121 x0 (@hid _ ⟨fun t2_1 w2 =>
 BoxK Tryd.prog 121 x1 (@hid _ ⟨fun t3_3 w4 =>
 FieldAtK Tryd.prog 121 t2_1 0 (@hid _ ⟨fun t6_5 w6 =>
 LoadK Tryd.prog 3 t6_5 (@hid _ ⟨fun t7_7 w8 =>
 FieldAtK Tryd.prog 121 t3_3 0 (@hid _ ⟨fun t8_9 w10 =>
 LoadK Tryd.prog 3 t8_9 (@hid _ ⟨fun t9_11 w12 =>
 BinK Tryd.prog .neq 3 t7_7 t9_11 (@hid _ ⟨fun t10_13 w14 =>
 BrK t10_13 (@hid _ ⟨
 FieldAtK Tryd.prog 121 t2_1 0 (@hid _ ⟨fun t11_15 w16 =>
 LoadK Tryd.prog 3 t11_15 (@hid _ ⟨fun t12_17 w18 =>
 FieldAtK Tryd.prog 121 t3_3 0 (@hid _ ⟨fun t13_19 w20 =>
 LoadK Tryd.prog 3 t13_19 (@hid _ ⟨fun t14_21 w22 =>
 CallV Tryd.prog (.func (.func 82) #[] #[]) #[t12_17, t14_21] (@hid _ ⟨fun t15_23 w24 =>
 R t15_23 w24⟩) w22⟩) w20⟩) w18⟩) w16⟩) w14⟩) (@hid _ ⟨
 FieldAtK Tryd.prog 121 t2_1 0 (@hid _ ⟨fun t16_25 w26 =>
 LoadK Tryd.prog 3 t16_25 (@hid _ ⟨fun t17_27 w28 =>
 BinK Tryd.prog .eql 3 t17_27 (.int .i64 1) (@hid _ ⟨fun t19_29 w30 =>
 BrK t19_29 (@hid _ ⟨
 FieldAtK Tryd.prog 121 t2_1 1 (@hid _ ⟨fun t20_31 w32 =>
 LoadK Tryd.prog 2 t20_31 (@hid _ ⟨fun t21_33 w34 =>
 FieldAtK Tryd.prog 121 t3_3 1 (@hid _ ⟨fun t22_35 w36 =>
 LoadK Tryd.prog 2 t22_35 (@hid _ ⟨fun t23_37 w38 =>
 CallV Tryd.prog (.func (.func 82) #[] #[]) #[t21_33, t23_37] (@hid _ ⟨fun t24_39 w40 =>
 R t24_39 w40⟩) w38⟩) w36⟩) w34⟩) w32⟩) w30⟩) (@hid _ ⟨
 BinK Tryd.prog .eql 3 t17_27 (.int .i64 2) (@hid _ ⟨fun t26_41 w42 =>
 BrK t26_41 (@hid _ ⟨
 FieldAtK Tryd.prog 121 t2_1 2 (@hid _ ⟨fun t27_43 w44 =>
 LoadK Tryd.prog 9 t27_43 (@hid _ ⟨fun t28_45 w46 =>
 FieldAtK Tryd.prog 121 t3_3 2 (@hid _ ⟨fun t29_47 w48 =>
 LoadK Tryd.prog 9 t29_47 (@hid _ ⟨fun t30_49 w50 =>
 CallV Tryd.prog (.func (.func 83) #[] #[]) #[t28_45, t30_49] (@hid _ ⟨fun t31_51 w52 =>
 R t31_51 w52⟩) w50⟩) w48⟩) w46⟩) w44⟩) w42⟩) (@hid _ ⟨
 BinK Tryd.prog .eql 3 t17_27 (.int .i64 3) (@hid _ ⟨fun t33_53 w54 =>
 BrK t33_53 (@hid _ ⟨
 LoopK1 (.int .i64 0) w54 (@hid _ ⟨fun _ x5_55 w56 B57 =>
 FieldAtK Tryd.prog 121 t2_1 3 (@hid _ ⟨fun t35_58 w59 =>
 LoadK Tryd.prog 80 t35_58 (@hid _ ⟨fun t36_60 w61 =>
 BuiltinK Tryd.prog .len #[80] 3 #[false] #[t36_60] (@hid _ ⟨fun t37_62 w63 =>
 BinK Tryd.prog .lss 3 x5_55 t37_62 (@hid _ ⟨fun t38_64 w65 =>
 GuardK t38_64 true (fun k w => k x5_55 w) (@hid _ ⟨fun t40_66 w67 =>
 GuardK t38_64 true (fun k w => FieldAtK Tryd.prog 121 t3_3 3 k w) (@hid _ ⟨fun t41_68 w69 =>
 GuardK t38_64 true (fun k w => LoadK Tryd.prog 80 t41_68 k w) (@hid _ ⟨fun t42_70 w71 =>
 GuardK t38_64 true (fun k w => BuiltinK Tryd.prog .len #[80] 3 #[false] #[t42_70] k w) (@hid _ ⟨fun t43_72 w73 =>
 GuardK t38_64 true (fun k w => BinK Tryd.prog .lss 3 t40_66 t43_72 k w) (@hid _ ⟨fun t44_74 w75 =>
 PickK Tryd.prog t38_64 t44_74 (.bool false) (@hid _ ⟨fun t45_76 w77 =>
 BrK t45_76 (@hid _ ⟨
 DrawK (@hid _ ⟨fun S78 w79 =>
 TakeS Tryd.prog S78 (Instr.fieldAt 121 t2_1 3) (@hid _ ⟨fun t48_80 =>
 TakeS Tryd.prog S78 (Instr.loadAt 80 t48_80) (@hid _ ⟨fun t49_81 =>
 TakeS Tryd.prog S78 (Instr.indexAt 80 t49_81 x5_55) (@hid _ ⟨fun t51_82 =>
 TakeS Tryd.prog S78 (Instr.loadAt 2 t51_82) (@hid _ ⟨fun t52_83 =>
 TakeS Tryd.prog S78 (Instr.fieldAt 121 t3_3 3) (@hid _ ⟨fun t53_84 =>
 TakeS Tryd.prog S78 (Instr.loadAt 80 t53_84) (@hid _ ⟨fun t54_85 =>
 TakeS Tryd.prog S78 (Instr.indexAt 80 t54_85 x5_55) (@hid _ ⟨fun t56_86 =>
 TakeS Tryd.prog S78 (Instr.loadAt 2 t56_86) (@hid _ ⟨fun t57_87 =>
 BinT Tryd.prog S78 .neq 2 t52_83 t57_87 (@hid _ ⟨fun t58_88 =>
 BrK t58_88 (@hid _ ⟨
 DrawK (@hid _ ⟨fun S89 w90 =>
 TakeS Tryd.prog S89 (Instr.fieldAt 121 t2_1 3) (@hid _ ⟨fun t59_91 =>
 TakeS Tryd.prog S89 (Instr.loadAt 80 t59_91) (@hid _ ⟨fun t60_92 =>
 TakeS Tryd.prog S89 (Instr.indexAt 80 t60_92 x5_55) (@hid _ ⟨fun t62_93 =>
 TakeS Tryd.prog S89 (Instr.loadAt 2 t62_93) (@hid _ ⟨fun t63_94 =>
 TakeS Tryd.prog S89 (Instr.fieldAt 121 t3_3 3) (@hid _ ⟨fun t64_95 =>
 TakeS Tryd.prog S89 (Instr.loadAt 80 t64_95) (@hid _ ⟨fun t65_96 =>
 TakeS Tryd.prog S89 (Instr.indexAt 80 t65_96 x5_55) (@hid _ ⟨fun t67_97 =>
 TakeS Tryd.prog S89 (Instr.loadAt 2 t67_97) (@hid _ ⟨fun t68_98 =>
 (CallV Tryd.prog (.func (.func 82) #[] #[]) #[t63_94, t68_98] (@hid _ ⟨fun t69_99 w100 =>
 S89 w100 ∧
 R t69_99 w100⟩) w90) ∧
 True⟩)⟩)⟩)⟩)⟩)⟩)⟩)⟩)⟩) w79⟩) (@hid _ ⟨
 BinK Tryd.prog .add 3 x5_55 (.int .i64 1) (@hid _ ⟨fun t47_101 w102 =>
 B57 t47_101 w102⟩) w79⟩)⟩)⟩)⟩)⟩)⟩)⟩)⟩)⟩)⟩)⟩) w77⟩) (@hid _ ⟨
 FieldAtK Tryd.prog 121 t2_1 3 (@hid _ ⟨fun t70_103 w104 =>
 LoadK Tryd.prog 80 t70_103 (@hid _ ⟨fun t71_105 w106 =>
 BuiltinK Tryd.prog .len #[80] 3 #[false] #[t71_105] (@hid _ ⟨fun t72_107 w108 =>
 FieldAtK Tryd.prog 121 t3_3 3 (@hid _ ⟨fun t73_109 w110 =>
 LoadK Tryd.prog 80 t73_109 (@hid _ ⟨fun t74_111 w112 =>
 BuiltinK Tryd.prog .len #[80] 3 #[false] #[t74_111] (@hid _ ⟨fun t75_113 w114 =>
 CallV Tryd.prog (.func (.func 82) #[] #[]) #[t72_107, t75_113] (@hid _ ⟨fun t76_115 w116 =>
 R t76_115 w116⟩) w114⟩) w112⟩) w110⟩) w108⟩) w106⟩) w104⟩) w77⟩)⟩) w75⟩) w73⟩) w71⟩) w69⟩) w67⟩) w65⟩) w63⟩) w61⟩) w59⟩) w56⟩)⟩) (@hid _ ⟨
 R (.int .i64 0) w54⟩)⟩) w42⟩)⟩) w30⟩)⟩) w28⟩) w26⟩) w14⟩)⟩) w12⟩) w10⟩) w8⟩) w6⟩) w4⟩) w2⟩) w0
def a102 : Ann := (.seq .no (.seq (.seq .no (.cond (.seq .no .no) .no)) (.seq (.seq .no (.block (.seq .no (.cond (.seq .no .no) (.seq .no (.cond (.seq .no .no) (.seq .no (.cond (.seq (.seq .no (.block (.loop [5] [(4, 4), (34, 69)] (.seq (.seq .no (.cond .no .no)) (.seq (.block (.seq (.plan (.take 0 (.take 1 (.take 2 (.take 3 (.take 4 (.take 5 (.take 6 (.take 7 (.take 8 (.take 9 (.take 10 .done)))))))))))) (.cond (.seq (.plan (.take 0 (.take 1 (.take 2 (.take 3 (.take 4 (.take 5 (.take 6 (.take 7 (.take 8 (.take 9 (.alt 10 (.take 11 .done) .nil)))))))))))) .no) .no))) .no))))) (.seq .no .no)) .no)))))))) (.seq .no .no))))
theorem F102_eq (x0 x1 : Value) (R : Value → World → Prop) (w0 : World) : F102 x0 x1 R w0 = vc Tryd.prog (bodyOf Tryd.f102) a102 (retQ Tryd.prog Tryd.f102 R) (envOf 0 [x0, x1]) w0 := by kernel_rfl
theorem F102_calls (x0 x1 : Value) (R : Value → World → Prop) (w0 : World) (h : F102 x0 x1 R w0) : CallK Tryd.prog 102 #[x0, x1] R w0 :=
 calls_vc (c := bodyOf Tryd.f102) Tryd.func102 (by kernel_rfl) (by kernel_rfl) a102 (by kernel_rfl) (by kernel_rfl) [x0, x1] (by rw [Tryd.ntmps102]; exact Nat.le_of_ble_eq_true rfl) w0 R ((F102_eq x0 x1 R w0).mp h)

/-- canton/row.find, its body as a formula. -/
def F103 (x0 x1 : Value) (R : Value → World → Prop) (w0 : World) : Prop :=
 CallV Tryd.prog (.func (.func 115) #[] #[]) #[x0, x1, (.func (.func 116) #[] #[])] (@hid _ ⟨fun t8_1 w2 =>
 ExtractK Tryd.prog t8_1 0 (@hid _ ⟨fun t9_3 w4 =>
 ExtractK Tryd.prog t8_1 1 (@hid _ ⟨fun t10_5 w6 =>
 R (.tuple #[t9_3, t10_5]) w6⟩) w4⟩) w2⟩) w0
def a103 : Ann := (.seq .no (.seq .no .no))
theorem F103_eq (x0 x1 : Value) (R : Value → World → Prop) (w0 : World) : F103 x0 x1 R w0 = vc Tryd.prog (bodyOf Tryd.f103) a103 (retQ Tryd.prog Tryd.f103 R) (envOf 0 [x0, x1]) w0 := by kernel_rfl
theorem F103_calls (x0 x1 : Value) (R : Value → World → Prop) (w0 : World) (h : F103 x0 x1 R w0) : CallK Tryd.prog 103 #[x0, x1] R w0 :=
 calls_vc (c := bodyOf Tryd.f103) Tryd.func103 (by kernel_rfl) (by kernel_rfl) a103 (by kernel_rfl) (by kernel_rfl) [x0, x1] (by rw [Tryd.ntmps103]; exact Nat.le_of_ble_eq_true rfl) w0 R ((F103_eq x0 x1 R w0).mp h)

/-- canton/path.Parse, its body as a formula. -/
def F104 (x0 : Value) (R : Value → World → Prop) (w0 : World) : Prop :=
 CallV Tryd.prog (.func (.func 117) #[] #[]) #[x0] (@hid _ ⟨fun t8_1 w2 =>
 ExtractK Tryd.prog t8_1 0 (@hid _ ⟨fun t9_3 w4 =>
 ExtractK Tryd.prog t8_1 1 (@hid _ ⟨fun t10_5 w6 =>
 UnK Tryd.prog .not t10_5 (@hid _ ⟨fun t13_7 w8 =>
 GuardK t13_7 false (fun k w => k t9_3 w) (@hid _ ⟨fun t15_9 w10 =>
 GuardK t13_7 false (fun k w => CallV Tryd.prog (.func (.func 118) #[] #[]) #[t15_9, (.func (.func 119) #[] #[])] k w) (@hid _ ⟨fun t16_11 w12 =>
 PickK Tryd.prog t13_7 (.bool true) t16_11 (@hid _ ⟨fun t17_13 w14 =>
 BrK t17_13 (@hid _ ⟨
 R (.tuple #[(.slice none 0 0), (.int .i64 2)]) w14⟩) (@hid _ ⟨
 BuiltinK Tryd.prog .len #[24] 3 #[false] #[t9_3] (@hid _ ⟨fun t20_15 w16 =>
 BinK Tryd.prog .gtr 3 t20_15 (.int .i64 4) (@hid _ ⟨fun t21_17 w18 =>
 BrK t21_17 (@hid _ ⟨
 R (.tuple #[(.slice none 0 0), (.int .i64 4)]) w18⟩) (@hid _ ⟨
 R (.tuple #[t9_3, (.int .i64 0)]) w18⟩)⟩) w16⟩) w14⟩)⟩) w12⟩) w10⟩) w8⟩) w6⟩) w4⟩) w2⟩) w0
def a104 : Ann := (.seq .no (.seq .no (.seq (.block (.seq .no (.cond (.seq .no .no) (.seq .no (.cond (.seq .no .no) .no))))) (.seq .no .no))))
theorem F104_eq (x0 : Value) (R : Value → World → Prop) (w0 : World) : F104 x0 R w0 = vc Tryd.prog (bodyOf Tryd.f104) a104 (retQ Tryd.prog Tryd.f104 R) (envOf 0 [x0]) w0 := by kernel_rfl
theorem F104_calls (x0 : Value) (R : Value → World → Prop) (w0 : World) (h : F104 x0 R w0) : CallK Tryd.prog 104 #[x0] R w0 :=
 calls_vc (c := bodyOf Tryd.f104) Tryd.func104 (by kernel_rfl) (by kernel_rfl) a104 (by kernel_rfl) (by kernel_rfl) [x0] (by rw [Tryd.ntmps104]; exact Nat.le_of_ble_eq_true rfl) w0 R ((F104_eq x0 R w0).mp h)

/-- slices.insertionSortCmpFunc[canton/elect.Choice], its body as a formula. -/
def F105 (x0 x1 x2 x3 : Value) (R : Value → World → Prop) (w0 : World) : Prop :=
 BinK Tryd.prog .add 3 x1 (.int .i64 1) (@hid _ ⟨fun t11_1 w2 =>
 LoopK1 t11_1 w2 (@hid _ ⟨fun _ x8_3 w4 B5 =>
 BinK Tryd.prog .lss 3 x8_3 x2 (@hid _ ⟨fun t14_6 w7 =>
 BrK t14_6 (@hid _ ⟨
 LoopK1 x8_3 w7 (@hid _ ⟨fun _ x9_8 w9 B10 =>
 DrawK (@hid _ ⟨fun S11 w12 =>
 BinT Tryd.prog S11 .gtr 3 x9_8 x1 (@hid _ ⟨fun t20_13 =>
 TakeG t20_13 true (fun k => k x3) (@hid _ ⟨fun t22_14 =>
 TakeG t20_13 true (fun k => k x0) (@hid _ ⟨fun t23_15 =>
 TakeG t20_13 true (fun k => k x9_8) (@hid _ ⟨fun t24_16 =>
 TakeG t20_13 true (fun k => TakeS Tryd.prog S11 (Instr.indexAt 68 t23_15 t24_16) k) (@hid _ ⟨fun t25_17 =>
 TakeG t20_13 true (fun k => TakeS Tryd.prog S11 (Instr.loadAt 73 t25_17) k) (@hid _ ⟨fun t26_18 =>
 TakeG t20_13 true (fun k => k x0) (@hid _ ⟨fun t27_19 =>
 TakeG t20_13 true (fun k => k x9_8) (@hid _ ⟨fun t28_20 =>
 TakeG t20_13 true (fun k => BinT Tryd.prog S11 .sub 3 t28_20 (.int .i64 1) k) (@hid _ ⟨fun t29_21 =>
 TakeG t20_13 true (fun k => TakeS Tryd.prog S11 (Instr.indexAt 68 t27_19 t29_21) k) (@hid _ ⟨fun t30_22 =>
 TakeG t20_13 true (fun k => TakeS Tryd.prog S11 (Instr.loadAt 73 t30_22) k) (@hid _ ⟨fun t31_23 =>
 (GuardK t20_13 true (fun k w => CallV Tryd.prog t22_14 #[t26_18, t31_23] k w) (@hid _ ⟨fun t32_24 w25 =>
 S11 w25 ∧
 TakeG t20_13 true (fun k => BinT Tryd.prog S11 .lss 3 t32_24 (.int .i64 0) k) (@hid _ ⟨fun t33_26 =>
 PickT t20_13 t33_26 (.bool false) (@hid _ ⟨fun t34_27 =>
 BrK t34_27 (@hid _ ⟨
 DrawK (@hid _ ⟨fun S28 w29 =>
 BinT Tryd.prog S28 .sub 3 x9_8 (.int .i64 1) (@hid _ ⟨fun t41_30 =>
 BinT Tryd.prog S28 .sub 3 x9_8 (.int .i64 1) (@hid _ ⟨fun t44_31 =>
 TakeS Tryd.prog S28 (Instr.indexAt 68 x0 t44_31) (@hid _ ⟨fun t45_32 =>
 TakeS Tryd.prog S28 (Instr.indexAt 68 x0 x9_8) (@hid _ ⟨fun t49_33 =>
 (LoadK Tryd.prog 73 t45_32 (@hid _ ⟨fun t46_34 w35 =>
 S28 w35 ∧
 (LoadK Tryd.prog 73 t49_33 (@hid _ ⟨fun t50_36 w37 =>
 S28 w37 ∧
 TakeS Tryd.prog S28 (Instr.indexAt 68 x0 x9_8) (@hid _ ⟨fun t51_38 =>
 (StoreK Tryd.prog 73 t51_38 t46_34 (@hid _ ⟨fun tu_39 w40 =>
 S28 w40 ∧
 TakeS Tryd.prog S28 (Instr.indexAt 68 x0 t41_30) (@hid _ ⟨fun t52_41 =>
 (StoreK Tryd.prog 73 t52_41 t50_36 (@hid _ ⟨fun tu_42 w43 =>
 S28 w43 ∧
 BinK Tryd.prog .sub 3 x9_8 (.int .i64 1) (@hid _ ⟨fun t36_44 w45 =>
 B10 t36_44 w45⟩) w43⟩) w40) ∧
 True⟩)⟩) w37) ∧
 True⟩)⟩) w35) ∧
 True⟩) w29) ∧
 (LoadK Tryd.prog 73 t49_33 (@hid _ ⟨fun t50_46 w47 =>
 S28 w47 ∧
 (LoadK Tryd.prog 73 t45_32 (@hid _ ⟨fun t46_48 w49 =>
 S28 w49 ∧
 TakeS Tryd.prog S28 (Instr.indexAt 68 x0 x9_8) (@hid _ ⟨fun t51_50 =>
 (StoreK Tryd.prog 73 t51_50 t46_48 (@hid _ ⟨fun tu_51 w52 =>
 S28 w52 ∧
 TakeS Tryd.prog S28 (Instr.indexAt 68 x0 t41_30) (@hid _ ⟨fun t52_53 =>
 (StoreK Tryd.prog 73 t52_53 t50_46 (@hid _ ⟨fun tu_54 w55 =>
 S28 w55 ∧
 BinK Tryd.prog .sub 3 x9_8 (.int .i64 1) (@hid _ ⟨fun t36_56 w57 =>
 B10 t36_56 w57⟩) w55⟩) w52) ∧
 True⟩)⟩) w49) ∧
 True⟩)⟩) w47) ∧
 True⟩) w29) ∧
 True⟩)⟩)⟩)⟩)⟩) w25⟩) (@hid _ ⟨
 BinK Tryd.prog .add 3 x8_3 (.int .i64 1) (@hid _ ⟨fun t16_58 w59 =>
 B5 t16_58 w59⟩) w25⟩)⟩)⟩)⟩) w12) ∧
 True⟩)⟩)⟩)⟩)⟩)⟩)⟩)⟩)⟩)⟩)⟩)⟩) w9⟩)⟩) (@hid _ ⟨
 R (.tuple #[]) w7⟩)⟩) w4⟩)⟩) w0
def a105 : Ann := (.seq .no (.block (.loop [8] [(9, 9), (12, 52)] (.seq (.seq .no (.cond .no .no)) (.seq (.block (.seq .no (.block (.loop [9] [(18, 52)] (.seq (.seq (.plan (.take 0 (.take 1 (.take 2 (.take 3 (.take 4 (.take 5 (.take 6 (.take 7 (.take 8 (.take 9 (.take 10 (.take 11 (.take 12 (.take 13 (.alt 14 (.take 15 (.take 16 .done)) .nil)))))))))))))))) (.cond .no .no)) (.seq (.block (.plan (.take 0 (.take 1 (.take 2 (.take 3 (.take 4 (.take 5 (.take 6 (.take 7 (.take 8 (.take 10 (.take 11 (.take 12 (.alt 9 (.alt 13 (.take 14 (.alt 15 (.take 16 (.alt 17 .done .nil)) .nil)) .nil) (.alt 13 (.alt 9 (.take 14 (.alt 15 (.take 16 (.alt 17 .done .nil)) .nil)) .nil) .nil)))))))))))))))) .no)))))) .no)))))
theorem F105_eq (x0 x1 x2 x3 : Value) (R : Value → World → Prop) (w0 : World) : F105 x0 x1 x2 x3 R w0 = vc Tryd.prog (bodyOf Tryd.f105) a105 (retQ Tryd.prog Tryd.f105 R) (envOf 0 [x0, x1, x2, x3]) w0 := by kernel_rfl
theorem F105_calls (x0 x1 x2 x3 : Value) (R : Value → World → Prop) (w0 : World) (h : F105 x0 x1 x2 x3 R w0) : CallK Tryd.prog 105 #[x0, x1, x2, x3] R w0 :=
 calls_vc (c := bodyOf Tryd.f105) Tryd.func105 (by kernel_rfl) (by kernel_rfl) a105 (by kernel_rfl) (by kernel_rfl) [x0, x1, x2, x3] (by rw [Tryd.ntmps105]; exact Nat.le_of_ble_eq_true rfl) w0 R ((F105_eq x0 x1 x2 x3 R w0).mp h)

/-- slices.symMergeCmpFunc[canton/elect.Choice], its body as a formula. -/
def F106 (x0 x1 x2 x3 x4 : Value) (R : Value → World → Prop) (w0 : World) : Prop :=
 BinK Tryd.prog .sub 3 x2 x1 (@hid _ ⟨fun t27_1 w2 =>
 BinK Tryd.prog .eql 3 t27_1 (.int .i64 1) (@hid _ ⟨fun t28_3 w4 =>
 BrK t28_3 (@hid _ ⟨
 LoopK2 x2 x3 w4 (@hid _ ⟨fun _ x10_5 x11_6 w7 B8 =>
 BinK Tryd.prog .lss 3 x10_5 x11_6 (@hid _ ⟨fun t33_9 w10 =>
 BrK t33_9 (@hid _ ⟨
 BinK Tryd.prog .add 3 x10_5 x11_6 (@hid _ ⟨fun t36_11 w12 =>
 ConvK Tryd.prog 3 51 t36_11 (@hid _ ⟨fun t37_13 w14 =>
 BinK Tryd.prog .shr 51 t37_13 (.int .u64 1) (@hid _ ⟨fun t38_15 w16 =>
 ConvK Tryd.prog 51 3 t38_15 (@hid _ ⟨fun t39_17 w18 =>
 DrawK (@hid _ ⟨fun S19 w20 =>
 TakeS Tryd.prog S19 (Instr.indexAt 68 x0 t39_17) (@hid _ ⟨fun t43_21 =>
 TakeS Tryd.prog S19 (Instr.loadAt 73 t43_21) (@hid _ ⟨fun t44_22 =>
 TakeS Tryd.prog S19 (Instr.indexAt 68 x0 x1) (@hid _ ⟨fun t47_23 =>
 TakeS Tryd.prog S19 (Instr.loadAt 73 t47_23) (@hid _ ⟨fun t48_24 =>
 (CallV Tryd.prog x4 #[t44_22, t48_24] (@hid _ ⟨fun t49_25 w26 =>
 S19 w26 ∧
 BinT Tryd.prog S19 .lss 3 t49_25 (.int .i64 0) (@hid _ ⟨fun t50_27 =>
 BrK t50_27 (@hid _ ⟨
 BinK Tryd.prog .add 3 t39_17 (.int .i64 1) (@hid _ ⟨fun t52_28 w29 =>
 B8 t52_28 x11_6 w29⟩) w26⟩) (@hid _ ⟨
 B8 x10_5 t39_17 w26⟩)⟩)⟩) w20) ∧
 True⟩)⟩)⟩)⟩)⟩) w18⟩) w16⟩) w14⟩) w12⟩) w10⟩) (@hid _ ⟨
 LoopK1 x1 w10 (@hid _ ⟨fun _ x13_30 w31 B32 =>
 BinK Tryd.prog .sub 3 x10_5 (.int .i64 1) (@hid _ ⟨fun t57_33 w34 =>
 BinK Tryd.prog .lss 3 x13_30 t57_33 (@hid _ ⟨fun t58_35 w36 =>
 BrK t58_35 (@hid _ ⟨
 DrawK (@hid _ ⟨fun S37 w38 =>
 BinT Tryd.prog S37 .add 3 x13_30 (.int .i64 1) (@hid _ ⟨fun t65_39 =>
 BinT Tryd.prog S37 .add 3 x13_30 (.int .i64 1) (@hid _ ⟨fun t68_40 =>
 TakeS Tryd.prog S37 (Instr.indexAt 68 x0 t68_40) (@hid _ ⟨fun t69_41 =>
 TakeS Tryd.prog S37 (Instr.indexAt 68 x0 x13_30) (@hid _ ⟨fun t73_42 =>
 (LoadK Tryd.prog 73 t69_41 (@hid _ ⟨fun t70_43 w44 =>
 S37 w44 ∧
 (LoadK Tryd.prog 73 t73_42 (@hid _ ⟨fun t74_45 w46 =>
 S37 w46 ∧
 TakeS Tryd.prog S37 (Instr.indexAt 68 x0 x13_30) (@hid _ ⟨fun t75_47 =>
 (StoreK Tryd.prog 73 t75_47 t70_43 (@hid _ ⟨fun tu_48 w49 =>
 S37 w49 ∧
 TakeS Tryd.prog S37 (Instr.indexAt 68 x0 t65_39) (@hid _ ⟨fun t76_50 =>
 (StoreK Tryd.prog 73 t76_50 t74_45 (@hid _ ⟨fun tu_51 w52 =>
 S37 w52 ∧
 BinK Tryd.prog .add 3 x13_30 (.int .i64 1) (@hid _ ⟨fun t60_53 w54 =>
 B32 t60_53 w54⟩) w52⟩) w49) ∧
 True⟩)⟩) w46) ∧
 True⟩)⟩) w44) ∧
 True⟩) w38) ∧
 (LoadK Tryd.prog 73 t73_42 (@hid _ ⟨fun t74_55 w56 =>
 S37 w56 ∧
 (LoadK Tryd.prog 73 t69_41 (@hid _ ⟨fun t70_57 w58 =>
 S37 w58 ∧
 TakeS Tryd.prog S37 (Instr.indexAt 68 x0 x13_30) (@hid _ ⟨fun t75_59 =>
 (StoreK Tryd.prog 73 t75_59 t70_57 (@hid _ ⟨fun tu_60 w61 =>
 S37 w61 ∧
 TakeS Tryd.prog S37 (Instr.indexAt 68 x0 t65_39) (@hid _ ⟨fun t76_62 =>
 (StoreK Tryd.prog 73 t76_62 t74_55 (@hid _ ⟨fun tu_63 w64 =>
 S37 w64 ∧
 BinK Tryd.prog .add 3 x13_30 (.int .i64 1) (@hid _ ⟨fun t60_65 w66 =>
 B32 t60_65 w66⟩) w64⟩) w61) ∧
 True⟩)⟩) w58) ∧
 True⟩)⟩) w56) ∧
 True⟩) w38) ∧
 True⟩)⟩)⟩)⟩)⟩) w36⟩) (@hid _ ⟨
 R (.tuple #[]) w36⟩)⟩) w34⟩) w31⟩)⟩)⟩) w7⟩)⟩) (@hid _ ⟨
 BinK Tryd.prog .sub 3 x3 x2 (@hid _ ⟨fun t79_67 w68 =>
 BinK Tryd.prog .eql 3 t79_67 (.int .i64 1) (@hid _ ⟨fun t80_69 w70 =>
 BrK t80_69 (@hid _ ⟨
 LoopK2 x1 x2 w70 (@hid _ ⟨fun _ x14_71 x15_72 w73 B74 =>
 BinK Tryd.prog .lss 3 x14_71 x15_72 (@hid _ ⟨fun t85_75 w76 =>
 BrK t85_75 (@hid _ ⟨
 BinK Tryd.prog .add 3 x14_71 x15_72 (@hid _ ⟨fun t88_77 w78 =>
 ConvK Tryd.prog 3 51 t88_77 (@hid _ ⟨fun t89_79 w80 =>
 BinK Tryd.prog .shr 51 t89_79 (.int .u64 1) (@hid _ ⟨fun t90_81 w82 =>
 ConvK Tryd.prog 51 3 t90_81 (@hid _ ⟨fun t91_83 w84 =>
 DrawK (@hid _ ⟨fun S85 w86 =>
 TakeS Tryd.prog S85 (Instr.indexAt 68 x0 x2) (@hid _ ⟨fun t95_87 =>
 TakeS Tryd.prog S85 (Instr.loadAt 73 t95_87) (@hid _ ⟨fun t96_88 =>
 TakeS Tryd.prog S85 (Instr.indexAt 68 x0 t91_83) (@hid _ ⟨fun t99_89 =>
 TakeS Tryd.prog S85 (Instr.loadAt 73 t99_89) (@hid _ ⟨fun t100_90 =>
 (CallV Tryd.prog x4 #[t96_88, t100_90] (@hid _ ⟨fun t101_91 w92 =>
 S85 w92 ∧
 BinT Tryd.prog S85 .lss 3 t101_91 (.int .i64 0) (@hid _ ⟨fun t102_93 =>
 TakeS Tryd.prog S85 (Op.unary .not t102_93) (@hid _ ⟨fun t103_94 =>
 BrK t103_94 (@hid _ ⟨
 BinK Tryd.prog .add 3 t91_83 (.int .i64 1) (@hid _ ⟨fun t105_95 w96 =>
 B74 t105_95 x15_72 w96⟩) w92⟩) (@hid _ ⟨
 B74 x14_71 t91_83 w92⟩)⟩)⟩)⟩) w86) ∧
 True⟩)⟩)⟩)⟩)⟩) w84⟩) w82⟩) w80⟩) w78⟩) w76⟩) (@hid _ ⟨
 LoopK1 x2 w76 (@hid _ ⟨fun _ x17_97 w98 B99 =>
 BinK Tryd.prog .gtr 3 x17_97 x14_71 (@hid _ ⟨fun t110_100 w101 =>
 BrK t110_100 (@hid _ ⟨
 DrawK (@hid _ ⟨fun S102 w103 =>
 BinT Tryd.prog S102 .sub 3 x17_97 (.int .i64 1) (@hid _ ⟨fun t117_104 =>
 BinT Tryd.prog S102 .sub 3 x17_97 (.int .i64 1) (@hid _ ⟨fun t120_105 =>
 TakeS Tryd.prog S102 (Instr.indexAt 68 x0 t120_105) (@hid _ ⟨fun t121_106 =>
 TakeS Tryd.prog S102 (Instr.indexAt 68 x0 x17_97) (@hid _ ⟨fun t125_107 =>
 (LoadK Tryd.prog 73 t121_106 (@hid _ ⟨fun t122_108 w109 =>
 S102 w109 ∧
 (LoadK Tryd.prog 73 t125_107 (@hid _ ⟨fun t126_110 w111 =>
 S102 w111 ∧
 TakeS Tryd.prog S102 (Instr.indexAt 68 x0 x17_97) (@hid _ ⟨fun t127_112 =>
 (StoreK Tryd.prog 73 t127_112 t122_108 (@hid _ ⟨fun tu_113 w114 =>
 S102 w114 ∧
 TakeS Tryd.prog S102 (Instr.indexAt 68 x0 t117_104) (@hid _ ⟨fun t128_115 =>
 (StoreK Tryd.prog 73 t128_115 t126_110 (@hid _ ⟨fun tu_116 w117 =>
 S102 w117 ∧
 BinK Tryd.prog .sub 3 x17_97 (.int .i64 1) (@hid _ ⟨fun t112_118 w119 =>
 B99 t112_118 w119⟩) w117⟩) w114) ∧
 True⟩)⟩) w111) ∧
 True⟩)⟩) w109) ∧
 True⟩) w103) ∧
 (LoadK Tryd.prog 73 t125_107 (@hid _ ⟨fun t126_120 w121 =>
 S102 w121 ∧
 (LoadK Tryd.prog 73 t121_106 (@hid _ ⟨fun t122_122 w123 =>
 S102 w123 ∧
 TakeS Tryd.prog S102 (Instr.indexAt 68 x0 x17_97) (@hid _ ⟨fun t127_124 =>
 (StoreK Tryd.prog 73 t127_124 t122_122 (@hid _ ⟨fun tu_125 w126 =>
 S102 w126 ∧
 TakeS Tryd.prog S102 (Instr.indexAt 68 x0 t117_104) (@hid _ ⟨fun t128_127 =>
 (StoreK Tryd.prog 73 t128_127 t126_120 (@hid _ ⟨fun tu_128 w129 =>
 S102 w129 ∧
 BinK Tryd.prog .sub 3 x17_97 (.int .i64 1) (@hid _ ⟨fun t112_130 w131 =>
 B99 t112_130 w131⟩) w129⟩) w126) ∧
 True⟩)⟩) w123) ∧
 True⟩)⟩) w121) ∧
 True⟩) w103) ∧
 True⟩)⟩)⟩)⟩)⟩) w101⟩) (@hid _ ⟨
 R (.tuple #[]) w101⟩)⟩) w98⟩)⟩)⟩) w73⟩)⟩) (@hid _ ⟨
 BinK Tryd.prog .add 3 x1 x3 (@hid _ ⟨fun t131_132 w133 =>
 ConvK Tryd.prog 3 51 t131_132 (@hid _ ⟨fun t132_134 w135 =>
 BinK Tryd.prog .shr 51 t132_134 (.int .u64 1) (@hid _ ⟨fun t133_136 w137 =>
 ConvK Tryd.prog 51 3 t133_136 (@hid _ ⟨fun t134_138 w139 =>
 BinK Tryd.prog .add 3 t134_138 x2 (@hid _ ⟨fun t137_140 w141 =>
 CutK2 (@hid _ ⟨fun R142 =>
 BinK Tryd.prog .gtr 3 x2 t134_138 (@hid _ ⟨fun t140_146 w147 =>
 BrK t140_146 (@hid _ ⟨
 BinK Tryd.prog .sub 3 t137_140 x3 (@hid _ ⟨fun t143_148 w149 =>
 R142 t143_148 t134_138 w149⟩) w147⟩) (@hid _ ⟨
 R142 x1 x2 w147⟩)⟩) w141⟩)
 (@hid _ ⟨fun _ x20_143 x21_144 w145 =>
 BinK Tryd.prog .sub 3 t137_140 (.int .i64 1) (@hid _ ⟨fun t148_150 w151 =>
 LoopK2 x20_143 x21_144 w151 (@hid _ ⟨fun _ x20_152 x21_153 w154 B155 =>
 BinK Tryd.prog .lss 3 x20_152 x21_153 (@hid _ ⟨fun t151_156 w157 =>
 BrK t151_156 (@hid _ ⟨
 BinK Tryd.prog .add 3 x20_152 x21_153 (@hid _ ⟨fun t154_158 w159 =>
 ConvK Tryd.prog 3 51 t154_158 (@hid _ ⟨fun t155_160 w161 =>
 BinK Tryd.prog .shr 51 t155_160 (.int .u64 1) (@hid _ ⟨fun t156_162 w163 =>
 ConvK Tryd.prog 51 3 t156_162 (@hid _ ⟨fun t157_164 w165 =>
 DrawK (@hid _ ⟨fun S166 w167 =>
 BinT Tryd.prog S166 .sub 3 t148_150 t157_164 (@hid _ ⟨fun t162_168 =>
 TakeS Tryd.prog S166 (Instr.indexAt 68 x0 t162_168) (@hid _ ⟨fun t163_169 =>
 TakeS Tryd.prog S166 (Instr.loadAt 73 t163_169) (@hid _ ⟨fun t164_170 =>
 TakeS Tryd.prog S166 (Instr.indexAt 68 x0 t157_164) (@hid _ ⟨fun t167_171 =>
 TakeS Tryd.prog S166 (Instr.loadAt 73 t167_171) (@hid _ ⟨fun t168_172 =>
 (CallV Tryd.prog x4 #[t164_170, t168_172] (@hid _ ⟨fun t169_173 w174 =>
 S166 w174 ∧
 BinT Tryd.prog S166 .lss 3 t169_173 (.int .i64 0) (@hid _ ⟨fun t170_175 =>
 TakeS Tryd.prog S166 (Op.unary .not t170_175) (@hid _ ⟨fun t171_176 =>
 BrK t171_176 (@hid _ ⟨
 BinK Tryd.prog .add 3 t157_164 (.int .i64 1) (@hid _ ⟨fun t173_177 w178 =>
 B155 t173_177 x21_153 w178⟩) w174⟩) (@hid _ ⟨
 B155 x20_152 t157_164 w174⟩)⟩)⟩)⟩) w167) ∧
 True⟩)⟩)⟩)⟩)⟩)⟩) w165⟩) w163⟩) w161⟩) w159⟩) w157⟩) (@hid _ ⟨
 BinK Tryd.prog .sub 3 t137_140 x20_152 (@hid _ ⟨fun t177_179 w180 =>
 CutK0 (@hid _ ⟨fun R181 =>
 BinK Tryd.prog .lss 3 x20_152 x2 (@hid _ ⟨fun t180_183 w184 =>
 GuardK t180_183 true (fun k w => k x2 w) (@hid _ ⟨fun t182_185 w186 =>
 GuardK t180_183 true (fun k w => k t177_179 w) (@hid _ ⟨fun t183_187 w188 =>
 GuardK t180_183 true (fun k w => BinK Tryd.prog .lss 3 t182_185 t183_187 k w) (@hid _ ⟨fun t184_189 w190 =>
 PickK Tryd.prog t180_183 t184_189 (.bool false) (@hid _ ⟨fun t185_191 w192 =>
 BrK t185_191 (@hid _ ⟨
 CallV Tryd.prog (.func (.func 120) #[] #[]) #[x0, x20_152, x2, t177_179, x4] (@hid _ ⟨fun t191_193 w194 =>
 R181 w194⟩) w192⟩) (@hid _ ⟨
 R181 w192⟩)⟩) w190⟩) w188⟩) w186⟩) w184⟩) w180⟩)
 (@hid _ ⟨fun _ w182 =>
 CutK0 (@hid _ ⟨fun R195 =>
 BinK Tryd.prog .lss 3 x1 x20_152 (@hid _ ⟨fun t194_197 w198 =>
 GuardK t194_197 true (fun k w => k x20_152 w) (@hid _ ⟨fun t196_199 w200 =>
 GuardK t194_197 true (fun k w => k t134_138 w) (@hid _ ⟨fun t197_201 w202 =>
 GuardK t194_197 true (fun k w => BinK Tryd.prog .lss 3 t196_199 t197_201 k w) (@hid _ ⟨fun t198_203 w204 =>
 PickK Tryd.prog t194_197 t198_203 (.bool false) (@hid _ ⟨fun t199_205 w206 =>
 BrK t199_205 (@hid _ ⟨
 CallV Tryd.prog (.func (.func 106) #[] #[]) #[x0, x1, x20_152, t134_138, x4] (@hid _ ⟨fun t205_207 w208 =>
 R195 w208⟩) w206⟩) (@hid _ ⟨
 R195 w206⟩)⟩) w204⟩) w202⟩) w200⟩) w198⟩) w182⟩)
 (@hid _ ⟨fun _ w196 =>
 BinK Tryd.prog .lss 3 t134_138 t177_179 (@hid _ ⟨fun t208_209 w210 =>
 GuardK t208_209 true (fun k w => k t177_179 w) (@hid _ ⟨fun t210_211 w212 =>
 GuardK t208_209 true (fun k w => k x3 w) (@hid _ ⟨fun t211_213 w214 =>
 GuardK t208_209 true (fun k w => BinK Tryd.prog .lss 3 t210_211 t211_213 k w) (@hid _ ⟨fun t212_215 w216 =>
 PickK Tryd.prog t208_209 t212_215 (.bool false) (@hid _ ⟨fun t213_217 w218 =>
 BrK t213_217 (@hid _ ⟨
 CallV Tryd.prog (.func (.func 106) #[] #[]) #[x0, t134_138, t177_179, x3, x4] (@hid _ ⟨fun t219_219 w220 =>
 R (.tuple #[]) w220⟩) w218⟩) (@hid _ ⟨
 R (.tuple #[]) w218⟩)⟩) w216⟩) w214⟩) w212⟩) w210⟩) w196⟩)⟩)⟩) w157⟩)⟩) w154⟩)⟩) w145⟩)⟩) w139⟩) w137⟩) w135⟩) w133⟩) w70⟩)⟩) w68⟩) w4⟩)⟩) w2⟩) w0
def a106 : Ann := (.seq (.seq .no (.cond (.seq .no (.seq .no (.seq (.block (.loop [10, 11] [(12, 12), (31, 53)] (.seq (.seq .no (.cond .no .no)) (.block (.seq .no (.seq (.plan (.take 0 (.take 1 (.take 2 (.take 3 (.take 4 (.take 5 (.take 6 (.take 7 (.take 8 (.alt 9 (.take 10 .done) .nil))))))))))) (.cond .no .no))))))) (.seq (.seq .no (.block (.loop [13] [(55, 76)] (.seq (.seq .no (.cond .no .no)) (.seq (.block (.plan (.take 0 (.take 1 (.take 2 (.take 3 (.take 4 (.take 5 (.take 6 (.take 7 (.take 8 (.take 10 (.take 11 (.take 12 (.alt 9 (.alt 13 (.take 14 (.alt 15 (.take 16 (.alt 17 .done .nil)) .nil)) .nil) (.alt 13 (.alt 9 (.take 14 (.alt 15 (.take 16 (.alt 17 .done .nil)) .nil)) .nil) .nil)))))))))))))))) .no))))) .no)))) .no)) (.seq (.seq .no (.cond (.seq .no (.seq .no (.seq (.block (.loop [14, 15] [(16, 16), (83, 106)] (.seq (.seq .no (.cond .no .no)) (.block (.seq .no (.seq (.plan (.take 0 (.take 1 (.take 2 (.take 3 (.take 4 (.take 5 (.take 6 (.take 7 (.take 8 (.alt 9 (.take 10 (.take 11 .done)) .nil))))))))))) (.cond .no .no))))))) (.seq (.seq .no (.block (.loop [17] [(108, 128)] (.seq (.seq .no (.cond .no .no)) (.seq (.block (.plan (.take 0 (.take 1 (.take 2 (.take 3 (.take 4 (.take 5 (.take 6 (.take 7 (.take 8 (.take 10 (.take 11 (.take 12 (.alt 9 (.alt 13 (.take 14 (.alt 15 (.take 16 (.alt 17 .done .nil)) .nil)) .nil) (.alt 13 (.alt 9 (.take 14 (.alt 15 (.take 16 (.alt 17 .done .nil)) .nil)) .nil) .nil)))))))))))))))) .no))))) .no)))) .no)) (.seq .no (.seq .no (.seq .no (.cut [20, 21] [(138, 146)] (.seq .no (.cond (.seq .no .no) (.seq .no .no))) (.seq .no (.seq (.block (.loop [20, 21] [(23, 23), (149, 174)] (.seq (.seq .no (.cond .no .no)) (.block (.seq .no (.seq (.plan (.take 0 (.take 1 (.take 2 (.take 3 (.take 4 (.take 5 (.take 6 (.take 7 (.take 8 (.take 9 (.take 10 (.alt 11 (.take 12 (.take 13 .done)) .nil))))))))))))) (.cond .no .no))))))) (.seq .no (.cut [] [(178, 191)] (.seq .no (.cond .no .no)) (.cut [] [(192, 205)] (.seq .no (.cond .no .no)) (.seq .no (.cond .no .no)))))))))))))
theorem F106_eq (x0 x1 x2 x3 x4 : Value) (R : Value → World → Prop) (w0 : World) : F106 x0 x1 x2 x3 x4 R w0 = vc Tryd.prog (bodyOf Tryd.f106) a106 (retQ Tryd.prog Tryd.f106 R) (envOf 0 [x0, x1, x2, x3, x4]) w0 := by kernel_rfl
theorem F106_calls (x0 x1 x2 x3 x4 : Value) (R : Value → World → Prop) (w0 : World) (h : F106 x0 x1 x2 x3 x4 R w0) : CallK Tryd.prog 106 #[x0, x1, x2, x3, x4] R w0 :=
 calls_vc (c := bodyOf Tryd.f106) Tryd.func106 (by kernel_rfl) (by kernel_rfl) a106 (by kernel_rfl) (by kernel_rfl) [x0, x1, x2, x3, x4] (by rw [Tryd.ntmps106]; exact Nat.le_of_ble_eq_true rfl) w0 R ((F106_eq x0 x1 x2 x3 x4 R w0).mp h)

/-- canton/cantonref7.Parse, its body as a formula. -/
def F107 (x0 : Value) (R : Value → World → Prop) (w0 : World) : Prop :=
 CallV Tryd.prog (.func (.func 121) #[] #[]) #[x0] (@hid _ ⟨fun t9_1 w2 =>
 ExtractK Tryd.prog t9_1 0 (@hid _ ⟨fun t10_3 w4 =>
 ExtractK Tryd.prog t9_1 1 (@hid _ ⟨fun t11_5 w6 =>
 UnK Tryd.prog .not t11_5 (@hid _ ⟨fun t13_7 w8 =>
 BrK t13_7 (@hid _ ⟨
 R (.tuple #[(.slice none 0 0), (.int .i64 2)]) w8⟩) (@hid _ ⟨
 LoopK1 (.int .i64 0) w8 (@hid _ ⟨fun _ x6_9 w10 B11 =>
 BuiltinK Tryd.prog .len #[24] 3 #[false] #[t10_3] (@hid _ ⟨fun t16_12 w13 =>
 BinK Tryd.prog .lss 3 x6_9 t16_12 (@hid _ ⟨fun t17_14 w15 =>
 BrK t17_14 (@hid _ ⟨
 IndexAtK Tryd.prog 24 t10_3 x6_9 (@hid _ ⟨fun t22_16 w17 =>
 LoadK Tryd.prog 9 t22_16 (@hid _ ⟨fun t23_18 w19 =>
 CallV Tryd.prog (.func (.func 37) #[] #[]) #[t23_18] (@hid _ ⟨fun t24_20 w21 =>
 UnK Tryd.prog .not t24_20 (@hid _ ⟨fun t25_22 w23 =>
 BrK t25_22 (@hid _ ⟨
 R (.tuple #[(.slice none 0 0), (.int .i64 2)]) w23⟩) (@hid _ ⟨
 BinK Tryd.prog .add 3 x6_9 (.int .i64 1) (@hid _ ⟨fun t19_24 w25 =>
 B11 t19_24 w25⟩) w23⟩)⟩) w21⟩) w19⟩) w17⟩) w15⟩) (@hid _ ⟨
 BuiltinK Tryd.prog .len #[24] 3 #[false] #[t10_3] (@hid _ ⟨fun t27_26 w27 =>
 BinK Tryd.prog .gtr 3 t27_26 (.int .i64 4) (@hid _ ⟨fun t28_28 w29 =>
 BrK t28_28 (@hid _ ⟨
 R (.tuple #[(.slice none 0 0), (.int .i64 4)]) w29⟩) (@hid _ ⟨
 R (.tuple #[t10_3, (.int .i64 0)]) w29⟩)⟩) w27⟩) w15⟩)⟩) w13⟩) w10⟩)⟩)⟩) w6⟩) w4⟩) w2⟩) w0
def a107 : Ann := (.seq .no (.seq .no (.seq (.seq .no (.cond (.seq .no .no) .no)) (.seq (.seq .no (.block (.loop [6] [(2, 3), (14, 25)] (.seq (.seq .no (.cond .no .no)) (.seq (.block (.seq .no (.cond (.seq .no .no) .no))) .no))))) (.seq (.seq .no (.cond (.seq .no .no) .no)) (.seq .no .no))))))
theorem F107_eq (x0 : Value) (R : Value → World → Prop) (w0 : World) : F107 x0 R w0 = vc Tryd.prog (bodyOf Tryd.f107) a107 (retQ Tryd.prog Tryd.f107 R) (envOf 0 [x0]) w0 := by kernel_rfl
theorem F107_calls (x0 : Value) (R : Value → World → Prop) (w0 : World) (h : F107 x0 R w0) : CallK Tryd.prog 107 #[x0] R w0 :=
 calls_vc (c := bodyOf Tryd.f107) Tryd.func107 (by kernel_rfl) (by kernel_rfl) a107 (by kernel_rfl) (by kernel_rfl) [x0] (by rw [Tryd.ntmps107]; exact Nat.le_of_ble_eq_true rfl) w0 R ((F107_eq x0 R w0).mp h)

/-- internal/stringslite.CutPrefix, its body as a formula. -/
def F108 (x0 x1 : Value) (R : Value → World → Prop) (w0 : World) : Prop :=
 CallV Tryd.prog (.func (.func 122) #[] #[]) #[x0, x1] (@hid _ ⟨fun t8_1 w2 =>
 UnK Tryd.prog .not t8_1 (@hid _ ⟨fun t9_3 w4 =>
 BrK t9_3 (@hid _ ⟨
 R (.tuple #[x0, (.bool false)]) w4⟩) (@hid _ ⟨
 BuiltinK Tryd.prog .len #[9] 3 #[false] #[x1] (@hid _ ⟨fun t13_5 w6 =>
 SliceK Tryd.prog 9 x0 (some t13_5) none none (@hid _ ⟨fun t14_7 w8 =>
 R (.tuple #[t14_7, (.bool true)]) w8⟩) w6⟩) w4⟩)⟩) w2⟩) w0
def a108 : Ann := (.seq .no (.seq (.seq .no (.cond (.seq .no .no) .no)) (.seq .no .no)))
theorem F108_eq (x0 x1 : Value) (R : Value → World → Prop) (w0 : World) : F108 x0 x1 R w0 = vc Tryd.prog (bodyOf Tryd.f108) a108 (retQ Tryd.prog Tryd.f108 R) (envOf 0 [x0, x1]) w0 := by kernel_rfl
theorem F108_calls (x0 x1 : Value) (R : Value → World → Prop) (w0 : World) (h : F108 x0 x1 R w0) : CallK Tryd.prog 108 #[x0, x1] R w0 :=
 calls_vc (c := bodyOf Tryd.f108) Tryd.func108 (by kernel_rfl) (by kernel_rfl) a108 (by kernel_rfl) (by kernel_rfl) [x0, x1] (by rw [Tryd.ntmps108]; exact Nat.le_of_ble_eq_true rfl) w0 R ((F108_eq x0 x1 R w0).mp h)

/-- canton/cantonlaw2.Few, its body as a formula. -/
def F110 (x0 : Value) (R : Value → World → Prop) (w0 : World) : Prop :=
 BoxK Tryd.prog 126 x0 (@hid _ ⟨fun t1_1 w2 =>
 FieldAtK Tryd.prog 126 t1_1 2 (@hid _ ⟨fun t3_3 w4 =>
 LoadK Tryd.prog 9 t3_3 (@hid _ ⟨fun t4_5 w6 =>
 BuiltinK Tryd.prog .len #[9] 3 #[false] #[t4_5] (@hid _ ⟨fun t5_7 w8 =>
 BinK Tryd.prog .leq 3 t5_7 (.int .i64 200) (@hid _ ⟨fun t6_9 w10 =>
 GuardK t6_9 true (fun k w => FieldAtK Tryd.prog 126 t1_1 3 k w) (@hid _ ⟨fun t8_11 w12 =>
 GuardK t6_9 true (fun k w => LoadK Tryd.prog 80 t8_11 k w) (@hid _ ⟨fun t9_13 w14 =>
 GuardK t6_9 true (fun k w => BuiltinK Tryd.prog .len #[80] 3 #[false] #[t9_13] k w) (@hid _ ⟨fun t10_15 w16 =>
 GuardK t6_9 true (fun k w => BinK Tryd.prog .leq 3 t10_15 (.int .i64 40) k w) (@hid _ ⟨fun t11_17 w18 =>
 PickK Tryd.prog t6_9 t11_17 (.bool false) (@hid _ ⟨fun t12_19 w20 =>
 R t12_19 w20⟩) w18⟩) w16⟩) w14⟩) w12⟩) w10⟩) w8⟩) w6⟩) w4⟩) w2⟩) w0
def a110 : Ann := (.seq .no (.seq .no .no))
theorem F110_eq (x0 : Value) (R : Value → World → Prop) (w0 : World) : F110 x0 R w0 = vc Tryd.prog (bodyOf Tryd.f110) a110 (retQ Tryd.prog Tryd.f110 R) (envOf 0 [x0]) w0 := by kernel_rfl
theorem F110_calls (x0 : Value) (R : Value → World → Prop) (w0 : World) (h : F110 x0 R w0) : CallK Tryd.prog 110 #[x0] R w0 :=
 calls_vc (c := bodyOf Tryd.f110) Tryd.func110 (by kernel_rfl) (by kernel_rfl) a110 (by kernel_rfl) (by kernel_rfl) [x0] (by rw [Tryd.ntmps110]; exact Nat.le_of_ble_eq_true rfl) w0 R ((F110_eq x0 R w0).mp h)

/-- slices.Clip[[]int64,int64], its body as a formula. -/
def F111 (x0 : Value) (R : Value → World → Prop) (w0 : World) : Prop :=
 BuiltinK Tryd.prog .len #[80] 3 #[false] #[x0] (@hid _ ⟨fun t5_1 w2 =>
 BuiltinK Tryd.prog .len #[80] 3 #[false] #[x0] (@hid _ ⟨fun t7_3 w4 =>
 SliceK Tryd.prog 80 x0 none (some t5_1) (some t7_3) (@hid _ ⟨fun t8_5 w6 =>
 R t8_5 w6⟩) w4⟩) w2⟩) w0
def a111 : Ann := (.seq .no (.seq .no .no))
theorem F111_eq (x0 : Value) (R : Value → World → Prop) (w0 : World) : F111 x0 R w0 = vc Tryd.prog (bodyOf Tryd.f111) a111 (retQ Tryd.prog Tryd.f111 R) (envOf 0 [x0]) w0 := by kernel_rfl
theorem F111_calls (x0 : Value) (R : Value → World → Prop) (w0 : World) (h : F111 x0 R w0) : CallK Tryd.prog 111 #[x0] R w0 :=
 calls_vc (c := bodyOf Tryd.f111) Tryd.func111 (by kernel_rfl) (by kernel_rfl) a111 (by kernel_rfl) (by kernel_rfl) [x0] (by rw [Tryd.ntmps111]; exact Nat.le_of_ble_eq_true rfl) w0 R ((F111_eq x0 R w0).mp h)

/-- slices.Clone[[]int64,int64], its body as a formula. -/
def F112 (x0 : Value) (R : Value → World → Prop) (w0 : World) : Prop :=
 BinK Tryd.prog .eql 80 x0 (.slice none 0 0) (@hid _ ⟨fun t4_1 w2 =>
 BrK t4_1 (@hid _ ⟨
 R (.slice none 0 0) w2⟩) (@hid _ ⟨
 BuildSliceK Tryd.prog 80 0 #[] (@hid _ ⟨fun t5_3 w4 =>
 BuiltinK Tryd.prog .append #[80, 80] 80 #[false, false] #[t5_3, x0] (@hid _ ⟨fun t7_5 w6 =>
 R t7_5 w6⟩) w4⟩) w2⟩)⟩) w0
def a112 : Ann := (.seq .no (.seq (.seq .no (.cond (.seq .no .no) .no)) (.seq .no .no)))
theorem F112_eq (x0 : Value) (R : Value → World → Prop) (w0 : World) : F112 x0 R w0 = vc Tryd.prog (bodyOf Tryd.f112) a112 (retQ Tryd.prog Tryd.f112 R) (envOf 0 [x0]) w0 := by kernel_rfl
theorem F112_calls (x0 : Value) (R : Value → World → Prop) (w0 : World) (h : F112 x0 R w0) : CallK Tryd.prog 112 #[x0] R w0 :=
 calls_vc (c := bodyOf Tryd.f112) Tryd.func112 (by kernel_rfl) (by kernel_rfl) a112 (by kernel_rfl) (by kernel_rfl) [x0] (by rw [Tryd.ntmps112]; exact Nat.le_of_ble_eq_true rfl) w0 R ((F112_eq x0 R w0).mp h)

/-- cmp.Compare[int], its body as a formula. -/
def F113 (x0 x1 : Value) (R : Value → World → Prop) (w0 : World) : Prop :=
 CallV Tryd.prog (.func (.func 126) #[] #[]) #[x0] (@hid _ ⟨fun t8_1 w2 =>
 CallV Tryd.prog (.func (.func 126) #[] #[]) #[x1] (@hid _ ⟨fun t10_3 w4 =>
 BrK t8_1 (@hid _ ⟨
 BrK t10_3 (@hid _ ⟨
 R (.int .i64 0) w4⟩) (@hid _ ⟨
 R (.int .i64 (-1)) w4⟩)⟩) (@hid _ ⟨
 BrK t10_3 (@hid _ ⟨
 R (.int .i64 1) w4⟩) (@hid _ ⟨
 BinK Tryd.prog .lss 3 x0 x1 (@hid _ ⟨fun t16_5 w6 =>
 BrK t16_5 (@hid _ ⟨
 R (.int .i64 (-1)) w6⟩) (@hid _ ⟨
 BinK Tryd.prog .gtr 3 x0 x1 (@hid _ ⟨fun t19_7 w8 =>
 BrK t19_7 (@hid _ ⟨
 R (.int .i64 1) w8⟩) (@hid _ ⟨
 R (.int .i64 0) w8⟩)⟩) w6⟩)⟩) w4⟩)⟩)⟩) w2⟩) w0
def a113 : Ann := (.seq .no (.seq .no (.seq .no (.seq (.seq .no (.cond (.seq (.seq .no (.cond (.seq .no .no) .no)) (.seq .no .no)) .no)) (.seq (.seq .no (.cond (.seq .no .no) .no)) (.seq (.seq .no (.cond (.seq .no .no) .no)) (.seq (.seq .no (.cond (.seq .no .no) .no)) (.seq .no .no))))))))
theorem F113_eq (x0 x1 : Value) (R : Value → World → Prop) (w0 : World) : F113 x0 x1 R w0 = vc Tryd.prog (bodyOf Tryd.f113) a113 (retQ Tryd.prog Tryd.f113 R) (envOf 0 [x0, x1]) w0 := by kernel_rfl
theorem F113_calls (x0 x1 : Value) (R : Value → World → Prop) (w0 : World) (h : F113 x0 x1 R w0) : CallK Tryd.prog 113 #[x0, x1] R w0 :=
 calls_vc (c := bodyOf Tryd.f113) Tryd.func113 (by kernel_rfl) (by kernel_rfl) a113 (by kernel_rfl) (by kernel_rfl) [x0, x1] (by rw [Tryd.ntmps113]; exact Nat.le_of_ble_eq_true rfl) w0 R ((F113_eq x0 x1 R w0).mp h)

/-- slices.Compare[[]int64,int64], its body as a formula. -/
def F114 (x0 x1 : Value) (R : Value → World → Prop) (w0 : World) : Prop :=
 BuiltinK Tryd.prog .len #[80] 3 #[false] #[x0] (@hid _ ⟨fun t10_1 w2 =>
 LoopK1 (.int .i64 0) w2 (@hid _ ⟨fun _ x11_3 w4 B5 =>
 BinK Tryd.prog .lss 3 x11_3 t10_1 (@hid _ ⟨fun t12_6 w7 =>
 BrK t12_6 (@hid _ ⟨
 IndexAtK Tryd.prog 80 x0 x11_3 (@hid _ ⟨fun t14_8 w9 =>
 LoadK Tryd.prog 2 t14_8 (@hid _ ⟨fun t15_10 w11 =>
 BuiltinK Tryd.prog .len #[80] 3 #[false] #[x1] (@hid _ ⟨fun t18_12 w13 =>
 BinK Tryd.prog .geq 3 x11_3 t18_12 (@hid _ ⟨fun t19_14 w15 =>
 BrK t19_14 (@hid _ ⟨
 R (.int .i64 1) w15⟩) (@hid _ ⟨
 IndexAtK Tryd.prog 80 x1 x11_3 (@hid _ ⟨fun t22_16 w17 =>
 LoadK Tryd.prog 2 t22_16 (@hid _ ⟨fun t23_18 w19 =>
 CallV Tryd.prog (.func (.func 59) #[] #[]) #[t15_10, t23_18] (@hid _ ⟨fun t26_20 w21 =>
 BinK Tryd.prog .neq 3 t26_20 (.int .i64 0) (@hid _ ⟨fun t28_22 w23 =>
 BrK t28_22 (@hid _ ⟨
 R t26_20 w23⟩) (@hid _ ⟨
 BinK Tryd.prog .add 3 x11_3 (.int .i64 1) (@hid _ ⟨fun t30_24 w25 =>
 B5 t30_24 w25⟩) w23⟩)⟩) w21⟩) w19⟩) w17⟩) w15⟩)⟩) w13⟩) w11⟩) w9⟩) w7⟩) (@hid _ ⟨
 BuiltinK Tryd.prog .len #[80] 3 #[false] #[x0] (@hid _ ⟨fun t32_26 w27 =>
 BuiltinK Tryd.prog .len #[80] 3 #[false] #[x1] (@hid _ ⟨fun t34_28 w29 =>
 BinK Tryd.prog .lss 3 t32_26 t34_28 (@hid _ ⟨fun t35_30 w31 =>
 BrK t35_30 (@hid _ ⟨
 R (.int .i64 (-1)) w31⟩) (@hid _ ⟨
 R (.int .i64 0) w31⟩)⟩) w29⟩) w27⟩) w7⟩)⟩) w4⟩)⟩) w0
def a114 : Ann := (.seq .no (.seq (.seq .no (.block (.loop [11] [(4, 8), (12, 30)] (.seq .no (.seq (.cond .no .no) (.seq (.block (.seq .no (.seq (.seq .no (.cond (.seq .no .no) .no)) (.seq .no (.seq .no (.seq .no (.cond (.seq .no .no) .no))))))) .no)))))) (.seq (.seq .no (.cond (.seq .no .no) .no)) (.seq .no .no))))
theorem F114_eq (x0 x1 : Value) (R : Value → World → Prop) (w0 : World) : F114 x0 x1 R w0 = vc Tryd.prog (bodyOf Tryd.f114) a114 (retQ Tryd.prog Tryd.f114 R) (envOf 0 [x0, x1]) w0 := by kernel_rfl
theorem F114_calls (x0 x1 : Value) (R : Value → World → Prop) (w0 : World) (h : F114 x0 x1 R w0) : CallK Tryd.prog 114 #[x0, x1] R w0 :=
 calls_vc (c := bodyOf Tryd.f114) Tryd.func114 (by kernel_rfl) (by kernel_rfl) a114 (by kernel_rfl) (by kernel_rfl) [x0, x1] (by rw [Tryd.ntmps114]; exact Nat.le_of_ble_eq_true rfl) w0 R ((F114_eq x0 x1 R w0).mp h)

/-- slices.BinarySearchFunc[[]canton/row.Attr,canton/row.Attr,string], its body as a formula. -/
def F115 (x0 x1 x2 : Value) (R : Value → World → Prop) (w0 : World) : Prop :=
 BuiltinK Tryd.prog .len #[53] 3 #[false] #[x0] (@hid _ ⟨fun t13_1 w2 =>
 LoopK2 (.int .i64 0) t13_1 w2 (@hid _ ⟨fun _ x9_3 x10_4 w5 B6 =>
 BinK Tryd.prog .lss 3 x9_3 x10_4 (@hid _ ⟨fun t17_7 w8 =>
 BrK t17_7 (@hid _ ⟨
 BinK Tryd.prog .add 3 x9_3 x10_4 (@hid _ ⟨fun t20_9 w10 =>
 ConvK Tryd.prog 3 51 t20_9 (@hid _ ⟨fun t21_11 w12 =>
 BinK Tryd.prog .shr 51 t21_11 (.int .u64 1) (@hid _ ⟨fun t22_13 w14 =>
 ConvK Tryd.prog 51 3 t22_13 (@hid _ ⟨fun t23_15 w16 =>
 IndexAtK Tryd.prog 53 x0 t23_15 (@hid _ ⟨fun t27_17 w18 =>
 LoadK Tryd.prog 128 t27_17 (@hid _ ⟨fun t28_19 w20 =>
 CallV Tryd.prog x2 #[t28_19, x1] (@hid _ ⟨fun t30_21 w22 =>
 BinK Tryd.prog .lss 3 t30_21 (.int .i64 0) (@hid _ ⟨fun t31_23 w24 =>
 BrK t31_23 (@hid _ ⟨
 BinK Tryd.prog .add 3 t23_15 (.int .i64 1) (@hid _ ⟨fun t33_25 w26 =>
 B6 t33_25 x10_4 w26⟩) w24⟩) (@hid _ ⟨
 B6 x9_3 t23_15 w24⟩)⟩) w22⟩) w20⟩) w18⟩) w16⟩) w14⟩) w12⟩) w10⟩) w8⟩) (@hid _ ⟨
 BinK Tryd.prog .lss 3 x9_3 t13_1 (@hid _ ⟨fun t38_27 w28 =>
 GuardK t38_27 true (fun k w => k x2 w) (@hid _ ⟨fun t40_29 w30 =>
 GuardK t38_27 true (fun k w => k x0 w) (@hid _ ⟨fun t41_31 w32 =>
 GuardK t38_27 true (fun k w => k x9_3 w) (@hid _ ⟨fun t42_33 w34 =>
 GuardK t38_27 true (fun k w => IndexAtK Tryd.prog 53 t41_31 t42_33 k w) (@hid _ ⟨fun t43_35 w36 =>
 GuardK t38_27 true (fun k w => LoadK Tryd.prog 128 t43_35 k w) (@hid _ ⟨fun t44_37 w38 =>
 GuardK t38_27 true (fun k w => k x1 w) (@hid _ ⟨fun t45_39 w40 =>
 GuardK t38_27 true (fun k w => CallV Tryd.prog t40_29 #[t44_37, t45_39] k w) (@hid _ ⟨fun t46_41 w42 =>
 GuardK t38_27 true (fun k w => BinK Tryd.prog .eql 3 t46_41 (.int .i64 0) k w) (@hid _ ⟨fun t47_43 w44 =>
 PickK Tryd.prog t38_27 t47_43 (.bool false) (@hid _ ⟨fun t48_45 w46 =>
 R (.tuple #[x9_3, t48_45]) w46⟩) w44⟩) w42⟩) w40⟩) w38⟩) w36⟩) w34⟩) w32⟩) w30⟩) w28⟩) w8⟩)⟩) w5⟩)⟩) w0
def a115 : Ann := (.seq .no (.seq .no (.seq .no (.seq (.block (.loop [9, 10] [(11, 11), (15, 34)] (.seq (.seq .no (.cond .no .no)) (.block (.seq .no (.seq .no (.cond .no .no))))))) (.seq .no .no)))))
theorem F115_eq (x0 x1 x2 : Value) (R : Value → World → Prop) (w0 : World) : F115 x0 x1 x2 R w0 = vc Tryd.prog (bodyOf Tryd.f115) a115 (retQ Tryd.prog Tryd.f115 R) (envOf 0 [x0, x1, x2]) w0 := by kernel_rfl
theorem F115_calls (x0 x1 x2 : Value) (R : Value → World → Prop) (w0 : World) (h : F115 x0 x1 x2 R w0) : CallK Tryd.prog 115 #[x0, x1, x2] R w0 :=
 calls_vc (c := bodyOf Tryd.f115) Tryd.func115 (by kernel_rfl) (by kernel_rfl) a115 (by kernel_rfl) (by kernel_rfl) [x0, x1, x2] (by rw [Tryd.ntmps115]; exact Nat.le_of_ble_eq_true rfl) w0 R ((F115_eq x0 x1 x2 R w0).mp h)

/-- canton/row.find$1, its body as a formula. -/
def F116 (x0 x1 : Value) (R : Value → World → Prop) (w0 : World) : Prop :=
 BoxK Tryd.prog 128 x0 (@hid _ ⟨fun t2_1 w2 =>
 FieldAtK Tryd.prog 128 t2_1 0 (@hid _ ⟨fun t5_3 w4 =>
 LoadK Tryd.prog 9 t5_3 (@hid _ ⟨fun t6_5 w6 =>
 CallV Tryd.prog (.func (.func 40) #[] #[]) #[t6_5, x1] (@hid _ ⟨fun t8_7 w8 =>
 R t8_7 w8⟩) w6⟩) w4⟩) w2⟩) w0
def a116 : Ann := (.seq .no (.seq .no .no))
theorem F116_eq (x0 x1 : Value) (R : Value → World → Prop) (w0 : World) : F116 x0 x1 R w0 = vc Tryd.prog (bodyOf Tryd.f116) a116 (retQ Tryd.prog Tryd.f116 R) (envOf 0 [x0, x1]) w0 := by kernel_rfl
theorem F116_calls (x0 x1 : Value) (R : Value → World → Prop) (w0 : World) (h : F116 x0 x1 R w0) : CallK Tryd.prog 116 #[x0, x1] R w0 :=
 calls_vc (c := bodyOf Tryd.f116) Tryd.func116 (by kernel_rfl) (by kernel_rfl) a116 (by kernel_rfl) (by kernel_rfl) [x0, x1] (by rw [Tryd.ntmps116]; exact Nat.le_of_ble_eq_true rfl) w0 R ((F116_eq x0 x1 R w0).mp h)

/-- canton/path.Cut, its body as a formula. -/
def F117 (x0 : Value) (R : Value → World → Prop) (w0 : World) : Prop :=
 CallV Tryd.prog (.func (.func 94) #[] #[]) #[x0, (.string { data := #[47] })] (@hid _ ⟨fun t8_1 w2 =>
 ExtractK Tryd.prog t8_1 0 (@hid _ ⟨fun t9_3 w4 =>
 ExtractK Tryd.prog t8_1 1 (@hid _ ⟨fun t10_5 w6 =>
 UnK Tryd.prog .not t10_5 (@hid _ ⟨fun t12_7 w8 =>
 BrK t12_7 (@hid _ ⟨
 R (.tuple #[(.slice none 0 0), (.bool false)]) w8⟩) (@hid _ ⟨
 BinK Tryd.prog .eql 9 t9_3 (.string { data := #[] }) (@hid _ ⟨fun t14_9 w10 =>
 BrK t14_9 (@hid _ ⟨
 R (.tuple #[(.slice none 0 0), (.bool true)]) w10⟩) (@hid _ ⟨
 CallV Tryd.prog (.func (.func 95) #[] #[]) #[t9_3, (.string { data := #[47] })] (@hid _ ⟨fun t16_11 w12 =>
 R (.tuple #[t16_11, (.bool true)]) w12⟩) w10⟩)⟩) w8⟩)⟩) w6⟩) w4⟩) w2⟩) w0
def a117 : Ann := (.seq .no (.seq .no (.seq (.seq .no (.cond (.seq .no .no) .no)) (.seq (.seq .no (.cond (.seq .no .no) .no)) (.seq .no .no)))))
theorem F117_eq (x0 : Value) (R : Value → World → Prop) (w0 : World) : F117 x0 R w0 = vc Tryd.prog (bodyOf Tryd.f117) a117 (retQ Tryd.prog Tryd.f117 R) (envOf 0 [x0]) w0 := by kernel_rfl
theorem F117_calls (x0 : Value) (R : Value → World → Prop) (w0 : World) (h : F117 x0 R w0) : CallK Tryd.prog 117 #[x0] R w0 :=
 calls_vc (c := bodyOf Tryd.f117) Tryd.func117 (by kernel_rfl) (by kernel_rfl) a117 (by kernel_rfl) (by kernel_rfl) [x0] (by rw [Tryd.ntmps117]; exact Nat.le_of_ble_eq_true rfl) w0 R ((F117_eq x0 R w0).mp h)

/-- slices.ContainsFunc[[]string,string], its body as a formula. -/
def F118 (x0 x1 : Value) (R : Value → World → Prop) (w0 : World) : Prop :=
 CallV Tryd.prog (.func (.func 127) #[] #[]) #[x0, x1] (@hid _ ⟨fun t7_1 w2 =>
 BinK Tryd.prog .geq 3 t7_1 (.int .i64 0) (@hid _ ⟨fun t8_3 w4 =>
 R t8_3 w4⟩) w2⟩) w0
def a118 : Ann := (.seq .no (.seq .no .no))
theorem F118_eq (x0 x1 : Value) (R : Value → World → Prop) (w0 : World) : F118 x0 x1 R w0 = vc Tryd.prog (bodyOf Tryd.f118) a118 (retQ Tryd.prog Tryd.f118 R) (envOf 0 [x0, x1]) w0 := by kernel_rfl
theorem F118_calls (x0 x1 : Value) (R : Value → World → Prop) (w0 : World) (h : F118 x0 x1 R w0) : CallK Tryd.prog 118 #[x0, x1] R w0 :=
 calls_vc (c := bodyOf Tryd.f118) Tryd.func118 (by kernel_rfl) (by kernel_rfl) a118 (by kernel_rfl) (by kernel_rfl) [x0, x1] (by rw [Tryd.ntmps118]; exact Nat.le_of_ble_eq_true rfl) w0 R ((F118_eq x0 x1 R w0).mp h)

/-- canton/path.Parse$1, its body as a formula. -/
def F119 (x0 : Value) (R : Value → World → Prop) (w0 : World) : Prop :=
 CallV Tryd.prog (.func (.func 39) #[] #[]) #[x0] (@hid _ ⟨fun t4_1 w2 =>
 UnK Tryd.prog .not t4_1 (@hid _ ⟨fun t5_3 w4 =>
 R t5_3 w4⟩) w2⟩) w0
def a119 : Ann := (.seq .no (.seq .no .no))
theorem F119_eq (x0 : Value) (R : Value → World → Prop) (w0 : World) : F119 x0 R w0 = vc Tryd.prog (bodyOf Tryd.f119) a119 (retQ Tryd.prog Tryd.f119 R) (envOf 0 [x0]) w0 := by kernel_rfl
theorem F119_calls (x0 : Value) (R : Value → World → Prop) (w0 : World) (h : F119 x0 R w0) : CallK Tryd.prog 119 #[x0] R w0 :=
 calls_vc (c := bodyOf Tryd.f119) Tryd.func119 (by kernel_rfl) (by kernel_rfl) a119 (by kernel_rfl) (by kernel_rfl) [x0] (by rw [Tryd.ntmps119]; exact Nat.le_of_ble_eq_true rfl) w0 R ((F119_eq x0 R w0).mp h)

/-- slices.rotateCmpFunc[canton/elect.Choice], its body as a formula. -/
def F120 (x0 x1 x2 x3 x4 : Value) (R : Value → World → Prop) (w0 : World) : Prop :=
 BinK Tryd.prog .sub 3 x2 x1 (@hid _ ⟨fun t14_1 w2 =>
 BinK Tryd.prog .sub 3 x3 x2 (@hid _ ⟨fun t17_3 w4 =>
 LoopK2 t14_1 t17_3 w4 (@hid _ ⟨fun _ x10_5 x11_6 w7 B8 =>
 BinK Tryd.prog .neq 3 x10_5 x11_6 (@hid _ ⟨fun t20_9 w10 =>
 BrK t20_9 (@hid _ ⟨
 BinK Tryd.prog .gtr 3 x10_5 x11_6 (@hid _ ⟨fun t23_11 w12 =>
 BrK t23_11 (@hid _ ⟨
 BinK Tryd.prog .sub 3 x2 x10_5 (@hid _ ⟨fun t27_13 w14 =>
 CallV Tryd.prog (.func (.func 128) #[] #[]) #[x0, t27_13, x2, x11_6, x4] (@hid _ ⟨fun t31_15 w16 =>
 BinK Tryd.prog .sub 3 x10_5 x11_6 (@hid _ ⟨fun t34_17 w18 =>
 B8 t34_17 x11_6 w18⟩) w16⟩) w14⟩) w12⟩) (@hid _ ⟨
 BinK Tryd.prog .sub 3 x2 x10_5 (@hid _ ⟨fun t38_19 w20 =>
 BinK Tryd.prog .add 3 x2 x11_6 (@hid _ ⟨fun t41_21 w22 =>
 BinK Tryd.prog .sub 3 t41_21 x10_5 (@hid _ ⟨fun t43_23 w24 =>
 CallV Tryd.prog (.func (.func 128) #[] #[]) #[x0, t38_19, t43_23, x10_5, x4] (@hid _ ⟨fun t46_25 w26 =>
 BinK Tryd.prog .sub 3 x11_6 x10_5 (@hid _ ⟨fun t49_27 w28 =>
 B8 x10_5 t49_27 w28⟩) w26⟩) w24⟩) w22⟩) w20⟩) w12⟩)⟩) w10⟩) (@hid _ ⟨
 BinK Tryd.prog .sub 3 x2 x10_5 (@hid _ ⟨fun t53_29 w30 =>
 CallV Tryd.prog (.func (.func 128) #[] #[]) #[x0, t53_29, x2, x10_5, x4] (@hid _ ⟨fun t57_31 w32 =>
 R (.tuple #[]) w32⟩) w30⟩) w10⟩)⟩) w7⟩)⟩) w2⟩) w0
def a120 : Ann := (.seq .no (.seq .no (.seq (.block (.loop [10, 11] [(18, 49)] (.seq (.seq .no (.cond .no .no)) (.block (.seq .no (.cond (.seq .no .no) (.seq .no .no))))))) .no)))
theorem F120_eq (x0 x1 x2 x3 x4 : Value) (R : Value → World → Prop) (w0 : World) : F120 x0 x1 x2 x3 x4 R w0 = vc Tryd.prog (bodyOf Tryd.f120) a120 (retQ Tryd.prog Tryd.f120 R) (envOf 0 [x0, x1, x2, x3, x4]) w0 := by kernel_rfl
theorem F120_calls (x0 x1 x2 x3 x4 : Value) (R : Value → World → Prop) (w0 : World) (h : F120 x0 x1 x2 x3 x4 R w0) : CallK Tryd.prog 120 #[x0, x1, x2, x3, x4] R w0 :=
 calls_vc (c := bodyOf Tryd.f120) Tryd.func120 (by kernel_rfl) (by kernel_rfl) a120 (by kernel_rfl) (by kernel_rfl) [x0, x1, x2, x3, x4] (by rw [Tryd.ntmps120]; exact Nat.le_of_ble_eq_true rfl) w0 R ((F120_eq x0 x1 x2 x3 x4 R w0).mp h)

/-- canton/cantonref7.cut, its body as a formula. -/
def F121 (x0 : Value) (R : Value → World → Prop) (w0 : World) : Prop :=
 BinK Tryd.prog .eql 9 x0 (.string { data := #[] }) (@hid _ ⟨fun t7_1 w2 =>
 GuardK t7_1 false (fun k w => k x0 w) (@hid _ ⟨fun t9_3 w4 =>
 GuardK t7_1 false (fun k w => ValK Tryd.prog (Instr.index 9 t9_3 (.int .i64 0)) k w) (@hid _ ⟨fun t10_5 w6 =>
 GuardK t7_1 false (fun k w => BinK Tryd.prog .neq 5 t10_5 (.int .u8 47) k w) (@hid _ ⟨fun t11_7 w8 =>
 PickK Tryd.prog t7_1 (.bool true) t11_7 (@hid _ ⟨fun t12_9 w10 =>
 BrK t12_9 (@hid _ ⟨
 R (.tuple #[(.slice none 0 0), (.bool false)]) w10⟩) (@hid _ ⟨
 BinK Tryd.prog .eql 9 x0 (.string { data := #[47] }) (@hid _ ⟨fun t14_11 w12 =>
 BrK t14_11 (@hid _ ⟨
 R (.tuple #[(.slice none 0 0), (.bool true)]) w12⟩) (@hid _ ⟨
 BuildSliceK Tryd.prog 24 1 #[(0, (.string { data := #[] }))] (@hid _ ⟨fun t15_13 w14 =>
 LoopK2 t15_13 (.int .i64 1) w14 (@hid _ ⟨fun _ x4_15 x5_16 w17 B18 =>
 BuiltinK Tryd.prog .len #[9] 3 #[false] #[x0] (@hid _ ⟨fun t18_19 w20 =>
 BinK Tryd.prog .lss 3 x5_16 t18_19 (@hid _ ⟨fun t19_21 w22 =>
 BrK t19_21 (@hid _ ⟨
 ValK Tryd.prog (Instr.index 9 x0 x5_16) (@hid _ ⟨fun t24_23 w24 =>
 BinK Tryd.prog .eql 5 t24_23 (.int .u8 47) (@hid _ ⟨fun t25_25 w26 =>
 BrK t25_25 (@hid _ ⟨
 BuildSliceK Tryd.prog 24 1 #[(0, (.string { data := #[] }))] (@hid _ ⟨fun t27_27 w28 =>
 BuiltinK Tryd.prog .append #[24, 24] 24 #[false, false] #[x4_15, t27_27] (@hid _ ⟨fun t28_29 w30 =>
 BinK Tryd.prog .add 3 x5_16 (.int .i64 1) (@hid _ ⟨fun t21_31 w32 =>
 B18 t28_29 t21_31 w32⟩) w30⟩) w28⟩) w26⟩) (@hid _ ⟨
 DrawK (@hid _ ⟨fun S33 w34 =>
 TakeO Tryd.prog S33 (builtin .len #[24] 3 #[false] #[x4_15]) (@hid _ ⟨fun t31_35 =>
 BinT Tryd.prog S33 .sub 3 t31_35 (.int .i64 1) (@hid _ ⟨fun t32_36 =>
 TakeO Tryd.prog S33 (builtin .len #[24] 3 #[false] #[x4_15]) (@hid _ ⟨fun t35_37 =>
 BinT Tryd.prog S33 .sub 3 t35_37 (.int .i64 1) (@hid _ ⟨fun t36_38 =>
 TakeS Tryd.prog S33 (Instr.indexAt 24 x4_15 t36_38) (@hid _ ⟨fun t37_39 =>
 BinT Tryd.prog S33 .add 3 x5_16 (.int .i64 1) (@hid _ ⟨fun t42_40 =>
 TakeS Tryd.prog S33 (Instr.sliceAt 9 x0 (some x5_16) (some t42_40) none) (@hid _ ⟨fun t43_41 =>
 (LoadK Tryd.prog 9 t37_39 (@hid _ ⟨fun t38_42 w43 =>
 S33 w43 ∧
 BinT Tryd.prog S33 .add 9 t38_42 t43_41 (@hid _ ⟨fun t44_44 =>
 TakeS Tryd.prog S33 (Instr.indexAt 24 x4_15 t32_36) (@hid _ ⟨fun t45_45 =>
 (StoreK Tryd.prog 9 t45_45 t44_44 (@hid _ ⟨fun tu_46 w47 =>
 S33 w47 ∧
 BinK Tryd.prog .add 3 x5_16 (.int .i64 1) (@hid _ ⟨fun t21_48 w49 =>
 B18 x4_15 t21_48 w49⟩) w47⟩) w43) ∧
 True⟩)⟩)⟩) w34) ∧
 True⟩)⟩)⟩)⟩)⟩)⟩)⟩)⟩) w26⟩)⟩) w24⟩) w22⟩) (@hid _ ⟨
 R (.tuple #[x4_15, (.bool true)]) w22⟩)⟩) w20⟩) w17⟩)⟩) w12⟩)⟩) w10⟩)⟩) w8⟩) w6⟩) w4⟩) w2⟩) w0
def a121 : Ann := (.seq .no (.seq (.seq .no (.cond (.seq .no .no) .no)) (.seq (.seq .no (.cond (.seq .no .no) .no)) (.seq .no (.seq (.seq .no (.block (.loop [4, 5] [(16, 45)] (.seq (.seq .no (.cond .no .no)) (.seq (.block (.seq (.seq .no (.cond (.seq .no .no) .no)) (.plan (.take 0 (.take 1 (.take 2 (.take 3 (.take 4 (.take 5 (.take 6 (.take 7 (.take 8 (.take 10 (.take 11 (.take 12 (.take 13 (.take 14 (.alt 9 (.take 15 (.take 16 (.alt 17 .done .nil))) .nil)))))))))))))))))) .no))))) (.seq .no .no))))))
theorem F121_eq (x0 : Value) (R : Value → World → Prop) (w0 : World) : F121 x0 R w0 = vc Tryd.prog (bodyOf Tryd.f121) a121 (retQ Tryd.prog Tryd.f121 R) (envOf 0 [x0]) w0 := by kernel_rfl
theorem F121_calls (x0 : Value) (R : Value → World → Prop) (w0 : World) (h : F121 x0 R w0) : CallK Tryd.prog 121 #[x0] R w0 :=
 calls_vc (c := bodyOf Tryd.f121) Tryd.func121 (by kernel_rfl) (by kernel_rfl) a121 (by kernel_rfl) (by kernel_rfl) [x0] (by rw [Tryd.ntmps121]; exact Nat.le_of_ble_eq_true rfl) w0 R ((F121_eq x0 R w0).mp h)

/-- internal/stringslite.HasPrefix, its body as a formula. -/
def F122 (x0 x1 : Value) (R : Value → World → Prop) (w0 : World) : Prop :=
 BuiltinK Tryd.prog .len #[9] 3 #[false] #[x0] (@hid _ ⟨fun t6_1 w2 =>
 BuiltinK Tryd.prog .len #[9] 3 #[false] #[x1] (@hid _ ⟨fun t8_3 w4 =>
 BinK Tryd.prog .geq 3 t6_1 t8_3 (@hid _ ⟨fun t9_5 w6 =>
 GuardK t9_5 true (fun k w => k x0 w) (@hid _ ⟨fun t11_7 w8 =>
 GuardK t9_5 true (fun k w => k x1 w) (@hid _ ⟨fun t12_9 w10 =>
 GuardK t9_5 true (fun k w => BuiltinK Tryd.prog .len #[9] 3 #[false] #[t12_9] k w) (@hid _ ⟨fun t13_11 w12 =>
 GuardK t9_5 true (fun k w => SliceK Tryd.prog 9 t11_7 none (some t13_11) none k w) (@hid _ ⟨fun t14_13 w14 =>
 GuardK t9_5 true (fun k w => k x1 w) (@hid _ ⟨fun t15_15 w16 =>
 GuardK t9_5 true (fun k w => BinK Tryd.prog .eql 9 t14_13 t15_15 k w) (@hid _ ⟨fun t16_17 w18 =>
 PickK Tryd.prog t9_5 t16_17 (.bool false) (@hid _ ⟨fun t17_19 w20 =>
 R t17_19 w20⟩) w18⟩) w16⟩) w14⟩) w12⟩) w10⟩) w8⟩) w6⟩) w4⟩) w2⟩) w0
def a122 : Ann := (.seq .no (.seq .no .no))
theorem F122_eq (x0 x1 : Value) (R : Value → World → Prop) (w0 : World) : F122 x0 x1 R w0 = vc Tryd.prog (bodyOf Tryd.f122) a122 (retQ Tryd.prog Tryd.f122 R) (envOf 0 [x0, x1]) w0 := by kernel_rfl
theorem F122_calls (x0 x1 : Value) (R : Value → World → Prop) (w0 : World) (h : F122 x0 x1 R w0) : CallK Tryd.prog 122 #[x0, x1] R w0 :=
 calls_vc (c := bodyOf Tryd.f122) Tryd.func122 (by kernel_rfl) (by kernel_rfl) a122 (by kernel_rfl) (by kernel_rfl) [x0, x1] (by rw [Tryd.ntmps122]; exact Nat.le_of_ble_eq_true rfl) w0 R ((F122_eq x0 x1 R w0).mp h)

/-- cmp.isNaN[int], its body as a formula. -/
def F126 (x0 : Value) (R : Value → World → Prop) (w0 : World) : Prop :=
 BinK Tryd.prog .neq 3 x0 x0 (@hid _ ⟨fun t5_1 w2 =>
 R t5_1 w2⟩) w0
def a126 : Ann := (.seq .no (.seq .no .no))
theorem F126_eq (x0 : Value) (R : Value → World → Prop) (w0 : World) : F126 x0 R w0 = vc Tryd.prog (bodyOf Tryd.f126) a126 (retQ Tryd.prog Tryd.f126 R) (envOf 0 [x0]) w0 := by kernel_rfl
theorem F126_calls (x0 : Value) (R : Value → World → Prop) (w0 : World) (h : F126 x0 R w0) : CallK Tryd.prog 126 #[x0] R w0 :=
 calls_vc (c := bodyOf Tryd.f126) Tryd.func126 (by kernel_rfl) (by kernel_rfl) a126 (by kernel_rfl) (by kernel_rfl) [x0] (by rw [Tryd.ntmps126]; exact Nat.le_of_ble_eq_true rfl) w0 R ((F126_eq x0 R w0).mp h)

/-- slices.IndexFunc[[]string,string], its body as a formula. -/
def F127 (x0 x1 : Value) (R : Value → World → Prop) (w0 : World) : Prop :=
 BuiltinK Tryd.prog .len #[24] 3 #[false] #[x0] (@hid _ ⟨fun t7_1 w2 =>
 LoopK1 (.int .i64 0) w2 (@hid _ ⟨fun _ x8_3 w4 B5 =>
 BinK Tryd.prog .lss 3 x8_3 t7_1 (@hid _ ⟨fun t9_6 w7 =>
 BrK t9_6 (@hid _ ⟨
 IndexAtK Tryd.prog 24 x0 x8_3 (@hid _ ⟨fun t14_8 w9 =>
 LoadK Tryd.prog 9 t14_8 (@hid _ ⟨fun t15_10 w11 =>
 CallV Tryd.prog x1 #[t15_10] (@hid _ ⟨fun t16_12 w13 =>
 BrK t16_12 (@hid _ ⟨
 R x8_3 w13⟩) (@hid _ ⟨
 BinK Tryd.prog .add 3 x8_3 (.int .i64 1) (@hid _ ⟨fun t18_14 w15 =>
 B5 t18_14 w15⟩) w13⟩)⟩) w11⟩) w9⟩) w7⟩) (@hid _ ⟨
 R (.int .i64 (-1)) w7⟩)⟩) w4⟩)⟩) w0
def a127 : Ann := (.seq .no (.seq (.seq .no (.block (.loop [8] [(4, 5), (9, 18)] (.seq .no (.seq (.cond .no .no) (.seq (.block (.seq .no (.seq .no (.cond (.seq .no .no) .no)))) .no)))))) (.seq .no .no)))
theorem F127_eq (x0 x1 : Value) (R : Value → World → Prop) (w0 : World) : F127 x0 x1 R w0 = vc Tryd.prog (bodyOf Tryd.f127) a127 (retQ Tryd.prog Tryd.f127 R) (envOf 0 [x0, x1]) w0 := by kernel_rfl
theorem F127_calls (x0 x1 : Value) (R : Value → World → Prop) (w0 : World) (h : F127 x0 x1 R w0) : CallK Tryd.prog 127 #[x0, x1] R w0 :=
 calls_vc (c := bodyOf Tryd.f127) Tryd.func127 (by kernel_rfl) (by kernel_rfl) a127 (by kernel_rfl) (by kernel_rfl) [x0, x1] (by rw [Tryd.ntmps127]; exact Nat.le_of_ble_eq_true rfl) w0 R ((F127_eq x0 x1 R w0).mp h)

/-- slices.swapRangeCmpFunc[canton/elect.Choice], its body as a formula. -/
def F128 (x0 x1 x2 x3 x4 : Value) (R : Value → World → Prop) (w0 : World) : Prop :=
 LoopK1 (.int .i64 0) w0 (@hid _ ⟨fun _ x10_1 w2 B3 =>
 BinK Tryd.prog .lss 3 x10_1 x3 (@hid _ ⟨fun t13_4 w5 =>
 BrK t13_4 (@hid _ ⟨
 DrawK (@hid _ ⟨fun S6 w7 =>
 BinT Tryd.prog S6 .add 3 x1 x10_1 (@hid _ ⟨fun t19_8 =>
 BinT Tryd.prog S6 .add 3 x2 x10_1 (@hid _ ⟨fun t23_9 =>
 BinT Tryd.prog S6 .add 3 x2 x10_1 (@hid _ ⟨fun t27_10 =>
 TakeS Tryd.prog S6 (Instr.indexAt 68 x0 t27_10) (@hid _ ⟨fun t28_11 =>
 BinT Tryd.prog S6 .add 3 x1 x10_1 (@hid _ ⟨fun t33_12 =>
 TakeS Tryd.prog S6 (Instr.indexAt 68 x0 t33_12) (@hid _ ⟨fun t34_13 =>
 (LoadK Tryd.prog 73 t28_11 (@hid _ ⟨fun t29_14 w15 =>
 S6 w15 ∧
 (LoadK Tryd.prog 73 t34_13 (@hid _ ⟨fun t35_16 w17 =>
 S6 w17 ∧
 TakeS Tryd.prog S6 (Instr.indexAt 68 x0 t19_8) (@hid _ ⟨fun t36_18 =>
 (StoreK Tryd.prog 73 t36_18 t29_14 (@hid _ ⟨fun tu_19 w20 =>
 S6 w20 ∧
 TakeS Tryd.prog S6 (Instr.indexAt 68 x0 t23_9) (@hid _ ⟨fun t37_21 =>
 (StoreK Tryd.prog 73 t37_21 t35_16 (@hid _ ⟨fun tu_22 w23 =>
 S6 w23 ∧
 BinK Tryd.prog .add 3 x10_1 (.int .i64 1) (@hid _ ⟨fun t15_24 w25 =>
 B3 t15_24 w25⟩) w23⟩) w20) ∧
 True⟩)⟩) w17) ∧
 True⟩)⟩) w15) ∧
 True⟩) w7) ∧
 (LoadK Tryd.prog 73 t34_13 (@hid _ ⟨fun t35_26 w27 =>
 S6 w27 ∧
 (LoadK Tryd.prog 73 t28_11 (@hid _ ⟨fun t29_28 w29 =>
 S6 w29 ∧
 TakeS Tryd.prog S6 (Instr.indexAt 68 x0 t19_8) (@hid _ ⟨fun t36_30 =>
 (StoreK Tryd.prog 73 t36_30 t29_28 (@hid _ ⟨fun tu_31 w32 =>
 S6 w32 ∧
 TakeS Tryd.prog S6 (Instr.indexAt 68 x0 t23_9) (@hid _ ⟨fun t37_33 =>
 (StoreK Tryd.prog 73 t37_33 t35_26 (@hid _ ⟨fun tu_34 w35 =>
 S6 w35 ∧
 BinK Tryd.prog .add 3 x10_1 (.int .i64 1) (@hid _ ⟨fun t15_36 w37 =>
 B3 t15_36 w37⟩) w35⟩) w32) ∧
 True⟩)⟩) w29) ∧
 True⟩)⟩) w27) ∧
 True⟩) w7) ∧
 True⟩)⟩)⟩)⟩)⟩)⟩)⟩) w5⟩) (@hid _ ⟨
 R (.tuple #[]) w5⟩)⟩) w2⟩)
def a128 : Ann := (.seq .no (.block (.loop [10] [(11, 37)] (.seq (.seq .no (.cond .no .no)) (.seq (.block (.plan (.take 0 (.take 1 (.take 2 (.take 3 (.take 4 (.take 5 (.take 6 (.take 7 (.take 8 (.take 9 (.take 10 (.take 11 (.take 12 (.take 14 (.take 15 (.take 16 (.take 17 (.take 18 (.alt 13 (.alt 19 (.take 20 (.alt 21 (.take 22 (.alt 23 .done .nil)) .nil)) .nil) (.alt 19 (.alt 13 (.take 20 (.alt 21 (.take 22 (.alt 23 .done .nil)) .nil)) .nil) .nil)))))))))))))))))))))) .no)))))
theorem F128_eq (x0 x1 x2 x3 x4 : Value) (R : Value → World → Prop) (w0 : World) : F128 x0 x1 x2 x3 x4 R w0 = vc Tryd.prog (bodyOf Tryd.f128) a128 (retQ Tryd.prog Tryd.f128 R) (envOf 0 [x0, x1, x2, x3, x4]) w0 := by kernel_rfl
theorem F128_calls (x0 x1 x2 x3 x4 : Value) (R : Value → World → Prop) (w0 : World) (h : F128 x0 x1 x2 x3 x4 R w0) : CallK Tryd.prog 128 #[x0, x1, x2, x3, x4] R w0 :=
 calls_vc (c := bodyOf Tryd.f128) Tryd.func128 (by kernel_rfl) (by kernel_rfl) a128 (by kernel_rfl) (by kernel_rfl) [x0, x1, x2, x3, x4] (by rw [Tryd.ntmps128]; exact Nat.le_of_ble_eq_true rfl) w0 R ((F128_eq x0 x1 x2 x3 x4 R w0).mp h)

end Go.Proofs.YtpjeohellehgjaaDoor