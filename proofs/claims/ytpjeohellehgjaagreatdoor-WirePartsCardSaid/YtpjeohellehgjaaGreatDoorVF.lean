import Derived.Test.YtpjeohellehgjaaGreatDoorVI
set_option linter.unusedVariables false
set_option linter.unusedSimpArgs false
set_option maxRecDepth 100000
namespace Go.Proofs.YtpjeohellehgjaaGreatDoor
open Go.RowKit Go.Cn
/-- canton/cantonlaw7.WireBack, its body as a formula. -/
def F3 (x0 : Value) (R : Value → World → Prop) (w0 : World) : Prop :=
 BoxK Tryz.prog 26 x0 (@hid _ ⟨fun t1_1 w2 =>
 CallV Tryz.prog (.func (.func 8) #[] #[]) #[] (@hid _ ⟨fun t9_3 w4 =>
 UnK Tryz.prog .not t9_3 (@hid _ ⟨fun t10_5 w6 =>
 BrK t10_5 (@hid _ ⟨
 R (.bool false) w6⟩) (@hid _ ⟨
 LoadK Tryz.prog 26 t1_1 (@hid _ ⟨fun t11_7 w8 =>
 CallV Tryz.prog (.func (.func 9) #[] #[]) #[t11_7] (@hid _ ⟨fun t12_9 w10 =>
 UnK Tryz.prog .not t12_9 (@hid _ ⟨fun t13_11 w12 =>
 BrK t13_11 (@hid _ ⟨
 R (.bool true) w12⟩) (@hid _ ⟨
 LoadK Tryz.prog 26 t1_1 (@hid _ ⟨fun t15_13 w14 =>
 CallV Tryz.prog (.func (.func 10) #[] #[]) #[t15_13] (@hid _ ⟨fun t16_15 w16 =>
 ExtractK Tryz.prog t16_15 0 (@hid _ ⟨fun t17_17 w18 =>
 ExtractK Tryz.prog t16_15 1 (@hid _ ⟨fun t18_19 w20 =>
 LoadK Tryz.prog 26 t1_1 (@hid _ ⟨fun t20_21 w22 =>
 CallV Tryz.prog (.func (.func 12) #[] #[]) #[t20_21] (@hid _ ⟨fun t21_23 w24 =>
 CallV Tryz.prog (.func (.func 11) #[] #[]) #[t21_23] (@hid _ ⟨fun t22_25 w26 =>
 ExtractK Tryz.prog t22_25 0 (@hid _ ⟨fun t23_27 w28 =>
 ExtractK Tryz.prog t22_25 1 (@hid _ ⟨fun t24_29 w30 =>
 BinK Tryz.prog .neq 3 t18_19 t24_29 (@hid _ ⟨fun t27_31 w32 =>
 GuardK t27_31 false (fun k w => k t17_17 w) (@hid _ ⟨fun t29_33 w34 =>
 GuardK t27_31 false (fun k w => ConvK Tryz.prog 29 9 t29_33 k w) (@hid _ ⟨fun t30_35 w36 =>
 GuardK t27_31 false (fun k w => k t23_27 w) (@hid _ ⟨fun t31_37 w38 =>
 GuardK t27_31 false (fun k w => ConvK Tryz.prog 29 9 t31_37 k w) (@hid _ ⟨fun t32_39 w40 =>
 GuardK t27_31 false (fun k w => BinK Tryz.prog .neq 9 t30_35 t32_39 k w) (@hid _ ⟨fun t33_41 w42 =>
 PickK Tryz.prog t27_31 (.bool true) t33_41 (@hid _ ⟨fun t34_43 w44 =>
 BrK t34_43 (@hid _ ⟨
 R (.bool false) w44⟩) (@hid _ ⟨
 BinK Tryz.prog .neq 3 t24_29 (.int .i64 0) (@hid _ ⟨fun t36_45 w46 =>
 BrK t36_45 (@hid _ ⟨
 R (.bool true) w46⟩) (@hid _ ⟨
 CallV Tryz.prog (.func (.func 13) #[] #[]) #[t17_17] (@hid _ ⟨fun t39_47 w48 =>
 ExtractK Tryz.prog t39_47 0 (@hid _ ⟨fun t40_49 w50 =>
 ExtractK Tryz.prog t39_47 1 (@hid _ ⟨fun t41_51 w52 =>
 AllocK Tryz.prog 26 (@hid _ ⟨fun t7_53 w54 =>
 StoreK Tryz.prog 26 t7_53 t40_49 (@hid _ ⟨fun tu_55 w56 =>
 DrawK (@hid _ ⟨fun S57 w58 =>
 BinT Tryz.prog S57 .eql 3 t41_51 (.int .i64 0) (@hid _ ⟨fun t43_59 =>
 TakeG t43_59 true (fun k => TakeS Tryz.prog S57 (Instr.loadAt 26 t7_53) k) (@hid _ ⟨fun t45_60 =>
 TakeG t43_59 true (fun k => TakeS Tryz.prog S57 (Instr.loadAt 26 t1_1) k) (@hid _ ⟨fun t47_61 =>
 (GuardK t43_59 true (fun k w => CallV Tryz.prog (.func (.func 12) #[] #[]) #[t45_60] k w) (@hid _ ⟨fun t46_62 w63 =>
 S57 w63 ∧
 (GuardK t43_59 true (fun k w => CallV Tryz.prog (.func (.func 12) #[] #[]) #[t47_61] k w) (@hid _ ⟨fun t48_64 w65 =>
 S57 w65 ∧
 (GuardK t43_59 true (fun k w => CallV Tryz.prog (.func (.func 14) #[] #[]) #[t46_62, t48_64] k w) (@hid _ ⟨fun t49_66 w67 =>
 S57 w67 ∧
 PickT t43_59 t49_66 (.bool false) (@hid _ ⟨fun t50_68 =>
 R t50_68 w67⟩)⟩) w65) ∧
 True⟩) w63) ∧
 True⟩) w58) ∧
 True⟩)⟩)⟩)⟩) w56⟩) w54⟩) w52⟩) w50⟩) w48⟩) w46⟩)⟩) w44⟩)⟩) w42⟩) w40⟩) w38⟩) w36⟩) w34⟩) w32⟩) w30⟩) w28⟩) w26⟩) w24⟩) w22⟩) w20⟩) w18⟩) w16⟩) w14⟩) w12⟩)⟩) w10⟩) w8⟩) w6⟩)⟩) w4⟩) w2⟩) w0
def a3 : Ann := (.seq .no (.seq (.seq .no (.cond (.seq .no .no) .no)) (.seq (.seq .no (.cond (.seq .no .no) .no)) (.seq .no (.seq .no (.seq (.seq .no (.cond (.seq .no .no) .no)) (.seq (.seq .no (.cond (.seq .no .no) .no)) (.seq .no (.seq (.plan (.take 0 (.take 1 (.take 2 (.take 3 (.take 5 (.alt 4 (.alt 6 (.alt 7 (.take 8 (.take 9 .done)) .nil) .nil) .nil))))))) .no)))))))))
theorem F3_eq (x0 : Value) (R : Value → World → Prop) (w0 : World) : F3 x0 R w0 = vc Tryz.prog (bodyOf Tryz.f3) a3 (retQ Tryz.prog Tryz.f3 R) (envOf 0 [x0]) w0 := by kernel_rfl
theorem F3_calls (x0 : Value) (R : Value → World → Prop) (w0 : World) (h : F3 x0 R w0) : CallK Tryz.prog 3 #[x0] R w0 :=
 calls_vc (c := bodyOf Tryz.f3) Tryz.func3 (by kernel_rfl) (by kernel_rfl) a3 (by kernel_rfl) (by kernel_rfl) [x0] (by rw [Tryz.ntmps3]; exact Nat.le_of_ble_eq_true rfl) w0 R ((F3_eq x0 R w0).mp h)

/-- canton/cantonlaw7.WireRows, its body as a formula. -/
def F4 (x0 : Value) (R : Value → World → Prop) (w0 : World) : Prop :=
 CallV Tryz.prog (.func (.func 8) #[] #[]) #[] (@hid _ ⟨fun t9_1 w2 =>
 UnK Tryz.prog .not t9_1 (@hid _ ⟨fun t10_3 w4 =>
 BrK t10_3 (@hid _ ⟨
 R (.bool false) w4⟩) (@hid _ ⟨
 CallV Tryz.prog (.func (.func 15) #[] #[]) #[x0] (@hid _ ⟨fun t12_5 w6 =>
 UnK Tryz.prog .not t12_5 (@hid _ ⟨fun t13_7 w8 =>
 BrK t13_7 (@hid _ ⟨
 R (.bool true) w8⟩) (@hid _ ⟨
 CallV Tryz.prog (.func (.func 16) #[] #[]) #[x0] (@hid _ ⟨fun t16_9 w10 =>
 ExtractK Tryz.prog t16_9 0 (@hid _ ⟨fun t17_11 w12 =>
 ExtractK Tryz.prog t16_9 1 (@hid _ ⟨fun t18_13 w14 =>
 CallV Tryz.prog (.func (.func 18) #[] #[]) #[x0] (@hid _ ⟨fun t21_15 w16 =>
 CallV Tryz.prog (.func (.func 17) #[] #[]) #[t21_15] (@hid _ ⟨fun t22_17 w18 =>
 ExtractK Tryz.prog t22_17 0 (@hid _ ⟨fun t23_19 w20 =>
 ExtractK Tryz.prog t22_17 1 (@hid _ ⟨fun t24_21 w22 =>
 BinK Tryz.prog .neq 3 t18_13 t24_21 (@hid _ ⟨fun t27_23 w24 =>
 GuardK t27_23 false (fun k w => k t17_11 w) (@hid _ ⟨fun t29_25 w26 =>
 GuardK t27_23 false (fun k w => ConvK Tryz.prog 29 9 t29_25 k w) (@hid _ ⟨fun t30_27 w28 =>
 GuardK t27_23 false (fun k w => k t23_19 w) (@hid _ ⟨fun t31_29 w30 =>
 GuardK t27_23 false (fun k w => ConvK Tryz.prog 29 9 t31_29 k w) (@hid _ ⟨fun t32_31 w32 =>
 GuardK t27_23 false (fun k w => BinK Tryz.prog .neq 9 t30_27 t32_31 k w) (@hid _ ⟨fun t33_33 w34 =>
 PickK Tryz.prog t27_23 (.bool true) t33_33 (@hid _ ⟨fun t34_35 w36 =>
 BrK t34_35 (@hid _ ⟨
 R (.bool false) w36⟩) (@hid _ ⟨
 BinK Tryz.prog .neq 3 t24_21 (.int .i64 0) (@hid _ ⟨fun t36_37 w38 =>
 BrK t36_37 (@hid _ ⟨
 R (.bool true) w38⟩) (@hid _ ⟨
 CallV Tryz.prog (.func (.func 19) #[] #[]) #[t17_11] (@hid _ ⟨fun t39_39 w40 =>
 ExtractK Tryz.prog t39_39 0 (@hid _ ⟨fun t40_41 w42 =>
 ExtractK Tryz.prog t39_39 1 (@hid _ ⟨fun t41_43 w44 =>
 BinK Tryz.prog .eql 3 t41_43 (.int .i64 0) (@hid _ ⟨fun t43_45 w46 =>
 GuardK t43_45 true (fun k w => k t40_41 w) (@hid _ ⟨fun t45_47 w48 =>
 GuardK t43_45 true (fun k w => k x0 w) (@hid _ ⟨fun t46_49 w50 =>
 GuardK t43_45 true (fun k w => CallV Tryz.prog (.func (.func 18) #[] #[]) #[t46_49] k w) (@hid _ ⟨fun t47_51 w52 =>
 GuardK t43_45 true (fun k w => CallV Tryz.prog (.func (.func 20) #[] #[]) #[t45_47, t47_51] k w) (@hid _ ⟨fun t48_53 w54 =>
 PickK Tryz.prog t43_45 t48_53 (.bool false) (@hid _ ⟨fun t49_55 w56 =>
 R t49_55 w56⟩) w54⟩) w52⟩) w50⟩) w48⟩) w46⟩) w44⟩) w42⟩) w40⟩) w38⟩)⟩) w36⟩)⟩) w34⟩) w32⟩) w30⟩) w28⟩) w26⟩) w24⟩) w22⟩) w20⟩) w18⟩) w16⟩) w14⟩) w12⟩) w10⟩) w8⟩)⟩) w6⟩) w4⟩)⟩) w2⟩) w0
def a4 : Ann := (.seq .no (.seq (.seq .no (.cond (.seq .no .no) .no)) (.seq (.seq .no (.cond (.seq .no .no) .no)) (.seq .no (.seq .no (.seq (.seq .no (.cond (.seq .no .no) .no)) (.seq (.seq .no (.cond (.seq .no .no) .no)) (.seq .no (.seq .no .no)))))))))
theorem F4_eq (x0 : Value) (R : Value → World → Prop) (w0 : World) : F4 x0 R w0 = vc Tryz.prog (bodyOf Tryz.f4) a4 (retQ Tryz.prog Tryz.f4 R) (envOf 0 [x0]) w0 := by kernel_rfl
theorem F4_calls (x0 : Value) (R : Value → World → Prop) (w0 : World) (h : F4 x0 R w0) : CallK Tryz.prog 4 #[x0] R w0 :=
 calls_vc (c := bodyOf Tryz.f4) Tryz.func4 (by kernel_rfl) (by kernel_rfl) a4 (by kernel_rfl) (by kernel_rfl) [x0] (by rw [Tryz.ntmps4]; exact Nat.le_of_ble_eq_true rfl) w0 R ((F4_eq x0 R w0).mp h)

/-- canton/cantonlaw7.WireBytes, its body as a formula. -/
def F5 (x0 : Value) (R : Value → World → Prop) (w0 : World) : Prop :=
 CallV Tryz.prog (.func (.func 8) #[] #[]) #[] (@hid _ ⟨fun t13_1 w2 =>
 UnK Tryz.prog .not t13_1 (@hid _ ⟨fun t14_3 w4 =>
 BrK t14_3 (@hid _ ⟨
 R (.bool false) w4⟩) (@hid _ ⟨
 BuiltinK Tryz.prog .len #[29] 3 #[false] #[x0] (@hid _ ⟨fun t16_5 w6 =>
 BinK Tryz.prog .gtr 3 t16_5 (.int .i64 1500) (@hid _ ⟨fun t17_7 w8 =>
 BrK t17_7 (@hid _ ⟨
 R (.bool true) w8⟩) (@hid _ ⟨
 CallV Tryz.prog (.func (.func 21) #[] #[]) #[x0] (@hid _ ⟨fun t20_9 w10 =>
 BuildSliceK Tryz.prog 53 2 #[(0, x0), (1, t20_9)] (@hid _ ⟨fun t21_11 w12 =>
 LoopK1 (.int .i64 0) w12 (@hid _ ⟨fun _ x4_13 w14 B15 =>
 BinK Tryz.prog .lss 3 x4_13 (.int .i64 2) (@hid _ ⟨fun t23_16 w17 =>
 BrK t23_16 (@hid _ ⟨
 IndexAtK Tryz.prog 53 t21_11 x4_13 (@hid _ ⟨fun t29_18 w19 =>
 LoadK Tryz.prog 29 t29_18 (@hid _ ⟨fun t30_20 w21 =>
 CallV Tryz.prog (.func (.func 13) #[] #[]) #[t30_20] (@hid _ ⟨fun t31_22 w23 =>
 ExtractK Tryz.prog t31_22 0 (@hid _ ⟨fun t32_24 w25 =>
 ExtractK Tryz.prog t31_22 1 (@hid _ ⟨fun t33_26 w27 =>
 AllocK Tryz.prog 26 (@hid _ ⟨fun t5_28 w29 =>
 StoreK Tryz.prog 26 t5_28 t32_24 (@hid _ ⟨fun tu_30 w31 =>
 IndexAtK Tryz.prog 53 t21_11 x4_13 (@hid _ ⟨fun t37_32 w33 =>
 LoadK Tryz.prog 29 t37_32 (@hid _ ⟨fun t38_34 w35 =>
 CallV Tryz.prog (.func (.func 22) #[] #[]) #[t38_34] (@hid _ ⟨fun t39_36 w37 =>
 ExtractK Tryz.prog t39_36 0 (@hid _ ⟨fun t40_38 w39 =>
 ExtractK Tryz.prog t39_36 1 (@hid _ ⟨fun t41_40 w41 =>
 AllocK Tryz.prog 38 (@hid _ ⟨fun t7_42 w43 =>
 StoreK Tryz.prog 38 t7_42 t40_38 (@hid _ ⟨fun tu_44 w45 =>
 IndexAtK Tryz.prog 53 t21_11 x4_13 (@hid _ ⟨fun t45_46 w47 =>
 LoadK Tryz.prog 29 t45_46 (@hid _ ⟨fun t46_48 w49 =>
 CallV Tryz.prog (.func (.func 19) #[] #[]) #[t46_48] (@hid _ ⟨fun t47_50 w51 =>
 ExtractK Tryz.prog t47_50 0 (@hid _ ⟨fun t48_52 w53 =>
 ExtractK Tryz.prog t47_50 1 (@hid _ ⟨fun t49_54 w55 =>
 IndexAtK Tryz.prog 53 t21_11 x4_13 (@hid _ ⟨fun t53_56 w57 =>
 LoadK Tryz.prog 29 t53_56 (@hid _ ⟨fun t54_58 w59 =>
 CallV Tryz.prog (.func (.func 23) #[] #[]) #[t54_58] (@hid _ ⟨fun t55_60 w61 =>
 ExtractK Tryz.prog t55_60 0 (@hid _ ⟨fun t56_62 w63 =>
 ExtractK Tryz.prog t55_60 1 (@hid _ ⟨fun t57_64 w65 =>
 DrawK (@hid _ ⟨fun S66 w67 =>
 BinT Tryz.prog S66 .neq 3 t33_26 t41_40 (@hid _ ⟨fun t60_68 =>
 TakeG t60_68 false (fun k => TakeS Tryz.prog S66 (Instr.loadAt 26 t5_28) k) (@hid _ ⟨fun t62_69 =>
 TakeG t60_68 false (fun k => TakeS Tryz.prog S66 (Instr.loadAt 38 t7_42) k) (@hid _ ⟨fun t64_70 =>
 (GuardK t60_68 false (fun k w => CallV Tryz.prog (.func (.func 12) #[] #[]) #[t62_69] k w) (@hid _ ⟨fun t63_71 w72 =>
 S66 w72 ∧
 (GuardK t60_68 false (fun k w => CallV Tryz.prog (.func (.func 14) #[] #[]) #[t63_71, t64_70] k w) (@hid _ ⟨fun t65_73 w74 =>
 S66 w74 ∧
 TakeG t60_68 false (fun k => TakeS Tryz.prog S66 (Op.unary .not t65_73) k) (@hid _ ⟨fun t66_75 =>
 PickT t60_68 (.bool true) t66_75 (@hid _ ⟨fun t67_76 =>
 TakeG t67_76 false (fun k => k t49_54) (@hid _ ⟨fun t69_77 =>
 TakeG t67_76 false (fun k => k t57_64) (@hid _ ⟨fun t70_78 =>
 TakeG t67_76 false (fun k => BinT Tryz.prog S66 .neq 3 t69_77 t70_78 k) (@hid _ ⟨fun t71_79 =>
 PickT t67_76 (.bool true) t71_79 (@hid _ ⟨fun t72_80 =>
 TakeG t72_80 false (fun k => k t48_52) (@hid _ ⟨fun t74_81 =>
 TakeG t72_80 false (fun k => k t56_62) (@hid _ ⟨fun t75_82 =>
 (GuardK t72_80 false (fun k w => CallV Tryz.prog (.func (.func 20) #[] #[]) #[t74_81, t75_82] k w) (@hid _ ⟨fun t76_83 w84 =>
 S66 w84 ∧
 TakeG t72_80 false (fun k => TakeS Tryz.prog S66 (Op.unary .not t76_83) k) (@hid _ ⟨fun t77_85 =>
 PickT t72_80 (.bool true) t77_85 (@hid _ ⟨fun t78_86 =>
 BrK t78_86 (@hid _ ⟨
 R (.bool false) w84⟩) (@hid _ ⟨
 BinK Tryz.prog .add 3 x4_13 (.int .i64 1) (@hid _ ⟨fun t25_87 w88 =>
 B15 t25_87 w88⟩) w84⟩)⟩)⟩)⟩) w74) ∧
 True⟩)⟩)⟩)⟩)⟩)⟩)⟩)⟩)⟩) w72) ∧
 True⟩) w67) ∧
 True⟩)⟩)⟩)⟩) w65⟩) w63⟩) w61⟩) w59⟩) w57⟩) w55⟩) w53⟩) w51⟩) w49⟩) w47⟩) w45⟩) w43⟩) w41⟩) w39⟩) w37⟩) w35⟩) w33⟩) w31⟩) w29⟩) w27⟩) w25⟩) w23⟩) w21⟩) w19⟩) w17⟩) (@hid _ ⟨
 R (.bool true) w17⟩)⟩) w14⟩)⟩) w10⟩) w8⟩)⟩) w6⟩) w4⟩)⟩) w2⟩) w0
def a5 : Ann := (.seq .no (.seq (.seq .no (.cond (.seq .no .no) .no)) (.seq (.seq .no (.cond (.seq .no .no) .no)) (.seq .no (.seq (.seq .no (.block (.loop [4] [(2, 2), (5, 12), (22, 78)] (.seq (.seq .no (.cond .no .no)) (.seq (.block (.seq .no (.seq .no (.seq .no (.seq .no (.seq (.plan (.take 0 (.take 1 (.take 2 (.take 3 (.take 4 (.take 6 (.alt 5 (.alt 7 (.take 8 (.take 9 (.take 10 (.take 11 (.take 12 (.take 13 (.take 14 (.take 15 (.take 16 (.take 17 (.alt 18 (.take 19 (.take 20 .done)) .nil))))))))))) .nil) .nil)))))))) (.cond (.seq .no .no) .no))))))) .no))))) (.seq .no .no))))))
theorem F5_eq (x0 : Value) (R : Value → World → Prop) (w0 : World) : F5 x0 R w0 = vc Tryz.prog (bodyOf Tryz.f5) a5 (retQ Tryz.prog Tryz.f5 R) (envOf 0 [x0]) w0 := by kernel_rfl
theorem F5_calls (x0 : Value) (R : Value → World → Prop) (w0 : World) (h : F5 x0 R w0) : CallK Tryz.prog 5 #[x0] R w0 :=
 calls_vc (c := bodyOf Tryz.f5) Tryz.func5 (by kernel_rfl) (by kernel_rfl) a5 (by kernel_rfl) (by kernel_rfl) [x0] (by rw [Tryz.ntmps5]; exact Nat.le_of_ble_eq_true rfl) w0 R ((F5_eq x0 R w0).mp h)

/-- canton/cantonlaw7.WireParts, its body as a formula. -/
def F6 (x0 x1 x2 : Value) (R : Value → World → Prop) (w0 : World) : Prop :=
 BoxK Tryz.prog 61 x0 (@hid _ ⟨fun t3_1 w2 =>
 BoxK Tryz.prog 23 x1 (@hid _ ⟨fun t4_3 w4 =>
 BoxK Tryz.prog 26 x2 (@hid _ ⟨fun t5_5 w6 =>
 CallV Tryz.prog (.func (.func 8) #[] #[]) #[] (@hid _ ⟨fun t14_7 w8 =>
 UnK Tryz.prog .not t14_7 (@hid _ ⟨fun t15_9 w10 =>
 BrK t15_9 (@hid _ ⟨
 R (.bool false) w10⟩) (@hid _ ⟨
 LoadK Tryz.prog 61 t3_1 (@hid _ ⟨fun t16_11 w12 =>
 CallV Tryz.prog (.func (.func 24) #[] #[]) #[t16_11] (@hid _ ⟨fun t17_13 w14 =>
 UnK Tryz.prog .not t17_13 (@hid _ ⟨fun t18_15 w16 =>
 GuardK t18_15 false (fun k w => FieldAtK Tryz.prog 61 t3_1 3 k w) (@hid _ ⟨fun t20_17 w18 =>
 GuardK t18_15 false (fun k w => LoadK Tryz.prog 59 t20_17 k w) (@hid _ ⟨fun t21_19 w20 =>
 GuardK t18_15 false (fun k w => BuiltinK Tryz.prog .len #[59] 3 #[false] #[t21_19] k w) (@hid _ ⟨fun t22_21 w22 =>
 GuardK t18_15 false (fun k w => BinK Tryz.prog .gtr 3 t22_21 (.int .i64 16) k w) (@hid _ ⟨fun t23_23 w24 =>
 PickK Tryz.prog t18_15 (.bool true) t23_23 (@hid _ ⟨fun t24_25 w26 =>
 GuardK t24_25 false (fun k w => FieldAtK Tryz.prog 23 t4_3 3 k w) (@hid _ ⟨fun t26_27 w28 =>
 GuardK t24_25 false (fun k w => LoadK Tryz.prog 9 t26_27 k w) (@hid _ ⟨fun t27_29 w30 =>
 GuardK t24_25 false (fun k w => BuiltinK Tryz.prog .len #[9] 3 #[false] #[t27_29] k w) (@hid _ ⟨fun t28_31 w32 =>
 GuardK t24_25 false (fun k w => BinK Tryz.prog .gtr 3 t28_31 (.int .i64 100) k w) (@hid _ ⟨fun t29_33 w34 =>
 PickK Tryz.prog t24_25 (.bool true) t29_33 (@hid _ ⟨fun t30_35 w36 =>
 GuardK t30_35 false (fun k w => LoadK Tryz.prog 26 t5_5 k w) (@hid _ ⟨fun t32_37 w38 =>
 GuardK t30_35 false (fun k w => CallV Tryz.prog (.func (.func 9) #[] #[]) #[t32_37] k w) (@hid _ ⟨fun t33_39 w40 =>
 GuardK t30_35 false (fun k w => UnK Tryz.prog .not t33_39 k w) (@hid _ ⟨fun t34_41 w42 =>
 PickK Tryz.prog t30_35 (.bool true) t34_41 (@hid _ ⟨fun t35_43 w44 =>
 GuardK t35_43 false (fun k w => FieldAtK Tryz.prog 26 t5_5 2 k w) (@hid _ ⟨fun t37_45 w46 =>
 GuardK t35_43 false (fun k w => LoadK Tryz.prog 24 t37_45 k w) (@hid _ ⟨fun t38_47 w48 =>
 GuardK t35_43 false (fun k w => BuiltinK Tryz.prog .len #[24] 3 #[false] #[t38_47] k w) (@hid _ ⟨fun t39_49 w50 =>
 GuardK t35_43 false (fun k w => BinK Tryz.prog .gtr 3 t39_49 (.int .i64 32) k w) (@hid _ ⟨fun t40_51 w52 =>
 PickK Tryz.prog t35_43 (.bool true) t40_51 (@hid _ ⟨fun t41_53 w54 =>
 BrK t41_53 (@hid _ ⟨
 R (.bool true) w54⟩) (@hid _ ⟨
 LoopK1 (.int .i64 0) w54 (@hid _ ⟨fun _ x7_55 w56 B57 =>
 FieldAtK Tryz.prog 26 t5_5 2 (@hid _ ⟨fun t43_58 w59 =>
 LoadK Tryz.prog 24 t43_58 (@hid _ ⟨fun t44_60 w61 =>
 BuiltinK Tryz.prog .len #[24] 3 #[false] #[t44_60] (@hid _ ⟨fun t45_62 w63 =>
 BinK Tryz.prog .lss 3 x7_55 t45_62 (@hid _ ⟨fun t46_64 w65 =>
 BrK t46_64 (@hid _ ⟨
 FieldAtK Tryz.prog 26 t5_5 2 (@hid _ ⟨fun t49_66 w67 =>
 LoadK Tryz.prog 24 t49_66 (@hid _ ⟨fun t50_68 w69 =>
 IndexAtK Tryz.prog 24 t50_68 x7_55 (@hid _ ⟨fun t52_70 w71 =>
 FieldAtK Tryz.prog 64 t52_70 1 (@hid _ ⟨fun t53_72 w73 =>
 FieldAtK Tryz.prog 61 t53_72 3 (@hid _ ⟨fun t54_74 w75 =>
 LoadK Tryz.prog 59 t54_74 (@hid _ ⟨fun t55_76 w77 =>
 BuiltinK Tryz.prog .len #[59] 3 #[false] #[t55_76] (@hid _ ⟨fun t56_78 w79 =>
 BinK Tryz.prog .gtr 3 t56_78 (.int .i64 16) (@hid _ ⟨fun t57_80 w81 =>
 BrK t57_80 (@hid _ ⟨
 R (.bool true) w81⟩) (@hid _ ⟨
 BinK Tryz.prog .add 3 x7_55 (.int .i64 1) (@hid _ ⟨fun t48_82 w83 =>
 B57 t48_82 w83⟩) w81⟩)⟩) w79⟩) w77⟩) w75⟩) w73⟩) w71⟩) w69⟩) w67⟩) w65⟩) (@hid _ ⟨
 BuildK Tryz.prog 67 #[] (@hid _ ⟨fun t58_84 w85 =>
 BoxK Tryz.prog 67 t58_84 (@hid _ ⟨fun t59_86 w87 =>
 LoadK Tryz.prog 61 t3_1 (@hid _ ⟨fun t61_88 w89 =>
 CallV Tryz.prog (.func (.func 25) #[] #[]) #[t59_86, t61_88] (@hid _ ⟨fun t62_90 w91 =>
 LoadK Tryz.prog 23 t4_3 (@hid _ ⟨fun t64_92 w93 =>
 CallV Tryz.prog (.func (.func 26) #[] #[]) #[t59_86, t64_92] (@hid _ ⟨fun t65_94 w95 =>
 LoadK Tryz.prog 26 t5_5 (@hid _ ⟨fun t67_96 w97 =>
 CallV Tryz.prog (.func (.func 27) #[] #[]) #[t59_86, t67_96] (@hid _ ⟨fun t68_98 w99 =>
 DrawK (@hid _ ⟨fun S100 w101 =>
 TakeS Tryz.prog S100 (Instr.loadAt 61 t3_1) (@hid _ ⟨fun t69_102 =>
 TakeS Tryz.prog S100 (Instr.loadAt 23 t4_3) (@hid _ ⟨fun t72_103 =>
 (CallV Tryz.prog (.func (.func 29) #[] #[]) #[t69_102] (@hid _ ⟨fun t70_104 w105 =>
 S100 w105 ∧
 (CallV Tryz.prog (.func (.func 28) #[] #[]) #[t70_104] (@hid _ ⟨fun t71_106 w107 =>
 S100 w107 ∧
 (CallV Tryz.prog (.func (.func 31) #[] #[]) #[t72_103] (@hid _ ⟨fun t73_108 w109 =>
 S100 w109 ∧
 (CallV Tryz.prog (.func (.func 30) #[] #[]) #[t73_108] (@hid _ ⟨fun t74_110 w111 =>
 S100 w111 ∧
 (BuiltinK Tryz.prog .append #[29, 29] 29 #[false, false] #[t71_106, t74_110] (@hid _ ⟨fun t75_112 w113 =>
 S100 w113 ∧
 LoadK Tryz.prog 26 t5_5 (@hid _ ⟨fun t77_114 w115 =>
 CallV Tryz.prog (.func (.func 12) #[] #[]) #[t77_114] (@hid _ ⟨fun t78_116 w117 =>
 CallV Tryz.prog (.func (.func 32) #[] #[]) #[t78_116] (@hid _ ⟨fun t79_118 w119 =>
 BuiltinK Tryz.prog .append #[29, 29] 29 #[false, false] #[t75_112, t79_118] (@hid _ ⟨fun t80_120 w121 =>
 DrawK (@hid _ ⟨fun S122 w123 =>
 TakeS Tryz.prog S122 (convert 29 9 t80_120) (@hid _ ⟨fun t85_124 =>
 (CallV Tryz.prog (.func (.func 33) #[] #[]) #[t59_86] (@hid _ ⟨fun t82_125 w126 =>
 S122 w126 ∧
 (ConvK Tryz.prog 29 9 t82_125 (@hid _ ⟨fun t83_127 w128 =>
 S122 w128 ∧
 BinT Tryz.prog S122 .neq 9 t83_127 t85_124 (@hid _ ⟨fun t86_129 =>
 BrK t86_129 (@hid _ ⟨
 R (.bool false) w128⟩) (@hid _ ⟨
 CallV Tryz.prog (.func (.func 34) #[] #[]) #[t80_120] (@hid _ ⟨fun t88_130 w131 =>
 CallV Tryz.prog (.func (.func 35) #[] #[]) #[t88_130] (@hid _ ⟨fun t90_132 w133 =>
 AllocK Tryz.prog 61 (@hid _ ⟨fun t11_134 w135 =>
 StoreK Tryz.prog 61 t11_134 t90_132 (@hid _ ⟨fun tu_136 w137 =>
 CallV Tryz.prog (.func (.func 36) #[] #[]) #[t88_130] (@hid _ ⟨fun t92_138 w139 =>
 AllocK Tryz.prog 23 (@hid _ ⟨fun t12_140 w141 =>
 StoreK Tryz.prog 23 t12_140 t92_138 (@hid _ ⟨fun tu_142 w143 =>
 CallV Tryz.prog (.func (.func 37) #[] #[]) #[t88_130] (@hid _ ⟨fun t94_144 w145 =>
 AllocK Tryz.prog 26 (@hid _ ⟨fun t13_146 w147 =>
 StoreK Tryz.prog 26 t13_146 t94_144 (@hid _ ⟨fun tu_148 w149 =>
 DrawK (@hid _ ⟨fun S150 w151 =>
 TakeS Tryz.prog S150 (Instr.fieldAt 61 t11_134 0) (@hid _ ⟨fun t95_152 =>
 TakeS Tryz.prog S150 (Instr.loadAt 3 t95_152) (@hid _ ⟨fun t96_153 =>
 TakeS Tryz.prog S150 (Instr.fieldAt 61 t3_1 0) (@hid _ ⟨fun t97_154 =>
 TakeS Tryz.prog S150 (Instr.loadAt 3 t97_154) (@hid _ ⟨fun t98_155 =>
 BinT Tryz.prog S150 .eql 3 t96_153 t98_155 (@hid _ ⟨fun t99_156 =>
 TakeG t99_156 true (fun k => TakeS Tryz.prog S150 (Instr.loadAt 61 t11_134) k) (@hid _ ⟨fun t101_157 =>
 TakeG t99_156 true (fun k => TakeS Tryz.prog S150 (Instr.loadAt 61 t3_1) k) (@hid _ ⟨fun t103_158 =>
 (GuardK t99_156 true (fun k w => CallV Tryz.prog (.func (.func 29) #[] #[]) #[t101_157] k w) (@hid _ ⟨fun t102_159 w160 =>
 S150 w160 ∧
 (GuardK t99_156 true (fun k w => CallV Tryz.prog (.func (.func 29) #[] #[]) #[t103_158] k w) (@hid _ ⟨fun t104_161 w162 =>
 S150 w162 ∧
 (GuardK t99_156 true (fun k w => CallV Tryz.prog (.func (.func 38) #[] #[]) #[t102_159, t104_161] k w) (@hid _ ⟨fun t105_163 w164 =>
 S150 w164 ∧
 TakeG t99_156 true (fun k => BinT Tryz.prog S150 .eql 3 t105_163 (.int .i64 0) k) (@hid _ ⟨fun t106_165 =>
 PickT t99_156 t106_165 (.bool false) (@hid _ ⟨fun t107_166 =>
 TakeG t107_166 true (fun k => TakeS Tryz.prog S150 (Instr.loadAt 23 t12_140) k) (@hid _ ⟨fun t109_167 =>
 TakeG t107_166 true (fun k => TakeS Tryz.prog S150 (Instr.loadAt 23 t4_3) k) (@hid _ ⟨fun t110_168 =>
 TakeG t107_166 true (fun k => BinT Tryz.prog S150 .eql 23 t109_167 t110_168 k) (@hid _ ⟨fun t111_169 =>
 PickT t107_166 t111_169 (.bool false) (@hid _ ⟨fun t112_170 =>
 TakeG t112_170 true (fun k => TakeS Tryz.prog S150 (Instr.loadAt 26 t13_146) k) (@hid _ ⟨fun t114_171 =>
 TakeG t112_170 true (fun k => TakeS Tryz.prog S150 (Instr.loadAt 26 t5_5) k) (@hid _ ⟨fun t116_172 =>
 (GuardK t112_170 true (fun k w => CallV Tryz.prog (.func (.func 12) #[] #[]) #[t114_171] k w) (@hid _ ⟨fun t115_173 w174 =>
 S150 w174 ∧
 (GuardK t112_170 true (fun k w => CallV Tryz.prog (.func (.func 12) #[] #[]) #[t116_172] k w) (@hid _ ⟨fun t117_175 w176 =>
 S150 w176 ∧
 (GuardK t112_170 true (fun k w => CallV Tryz.prog (.func (.func 14) #[] #[]) #[t115_173, t117_175] k w) (@hid _ ⟨fun t118_177 w178 =>
 S150 w178 ∧
 PickT t112_170 t118_177 (.bool false) (@hid _ ⟨fun t119_179 =>
 TakeG t119_179 true (fun k => k t88_130) (@hid _ ⟨fun t121_180 =>
 (GuardK t119_179 true (fun k w => CallV Tryz.prog (.func (.func 39) #[] #[]) #[t121_180] k w) (@hid _ ⟨fun t122_181 w182 =>
 S150 w182 ∧
 TakeG t119_179 true (fun k => BinT Tryz.prog S150 .eql 3 t122_181 (.int .i64 0) k) (@hid _ ⟨fun t123_183 =>
 PickT t119_179 t123_183 (.bool false) (@hid _ ⟨fun t124_184 =>
 TakeG t124_184 true (fun k => k t88_130) (@hid _ ⟨fun t126_185 =>
 (GuardK t124_184 true (fun k w => CallV Tryz.prog (.func (.func 40) #[] #[]) #[t126_185] k w) (@hid _ ⟨fun t127_186 w187 =>
 S150 w187 ∧
 TakeG t124_184 true (fun k => BinT Tryz.prog S150 .eql 3 t127_186 (.int .i64 0) k) (@hid _ ⟨fun t128_188 =>
 PickT t124_184 t128_188 (.bool false) (@hid _ ⟨fun t129_189 =>
 R t129_189 w187⟩)⟩)⟩) w182) ∧
 True⟩)⟩)⟩)⟩) w178) ∧
 True⟩)⟩)⟩) w176) ∧
 True⟩) w174) ∧
 True⟩) w164) ∧
 True⟩)⟩)⟩)⟩)⟩)⟩)⟩)⟩)⟩) w162) ∧
 True⟩) w160) ∧
 True⟩) w151) ∧
 True⟩)⟩)⟩)⟩)⟩)⟩)⟩)⟩) w149⟩) w147⟩) w145⟩) w143⟩) w141⟩) w139⟩) w137⟩) w135⟩) w133⟩) w131⟩) w128⟩)⟩)⟩) w126) ∧
 True⟩) w123) ∧
 True⟩)⟩) w121⟩) w119⟩) w117⟩) w115⟩) w113⟩) w111) ∧
 True⟩) w109) ∧
 True⟩) w107) ∧
 True⟩) w105) ∧
 True⟩) w101) ∧
 True⟩)⟩)⟩) w99⟩) w97⟩) w95⟩) w93⟩) w91⟩) w89⟩) w87⟩) w85⟩) w65⟩)⟩) w63⟩) w61⟩) w59⟩) w56⟩)⟩)⟩) w52⟩) w50⟩) w48⟩) w46⟩) w44⟩) w42⟩) w40⟩) w38⟩) w36⟩) w34⟩) w32⟩) w30⟩) w28⟩) w26⟩) w24⟩) w22⟩) w20⟩) w18⟩) w16⟩) w14⟩) w12⟩) w10⟩)⟩) w8⟩) w6⟩) w4⟩) w2⟩) w0
def a6 : Ann := (.seq .no (.seq (.seq .no (.cond (.seq .no .no) .no)) (.seq (.seq .no (.cond (.seq .no .no) .no)) (.seq (.seq .no (.block (.loop [7] [(6, 6), (42, 57)] (.seq (.seq .no (.cond .no .no)) (.seq (.block (.seq .no (.cond (.seq .no .no) .no))) .no))))) (.seq .no (.seq .no (.seq .no (.seq .no (.seq (.plan (.take 0 (.take 3 (.alt 1 (.alt 2 (.alt 4 (.alt 5 (.alt 6 (.take 7 .done) .nil) .nil) .nil) .nil) .nil)))) (.seq .no (.seq (.seq (.plan (.take 0 (.take 3 (.take 4 (.alt 1 (.alt 2 (.take 5 .done) .nil) .nil))))) (.cond (.seq .no .no) .no)) (.seq .no (.seq .no (.seq .no (.seq .no (.seq (.plan (.take 0 (.take 1 (.take 2 (.take 3 (.take 4 (.take 5 (.take 6 (.take 8 (.alt 7 (.alt 9 (.alt 10 (.take 11 (.take 12 (.take 13 (.take 14 (.take 15 (.take 16 (.take 17 (.take 18 (.take 19 (.take 21 (.alt 20 (.alt 22 (.alt 23 (.take 24 (.take 25 (.take 26 (.alt 27 (.take 28 (.take 29 (.take 30 (.take 31 (.alt 32 (.take 33 (.take 34 (.take 35 .done))) .nil))))) .nil)))) .nil) .nil) .nil))))))))))) .nil) .nil) .nil)))))))))) .no))))))))))))))))
theorem F6_eq (x0 x1 x2 : Value) (R : Value → World → Prop) (w0 : World) : F6 x0 x1 x2 R w0 = vc Tryz.prog (bodyOf Tryz.f6) a6 (retQ Tryz.prog Tryz.f6 R) (envOf 0 [x0, x1, x2]) w0 := by kernel_rfl
theorem F6_calls (x0 x1 x2 : Value) (R : Value → World → Prop) (w0 : World) (h : F6 x0 x1 x2 R w0) : CallK Tryz.prog 6 #[x0, x1, x2] R w0 :=
 calls_vc (c := bodyOf Tryz.f6) Tryz.func6 (by kernel_rfl) (by kernel_rfl) a6 (by kernel_rfl) (by kernel_rfl) [x0, x1, x2] (by rw [Tryz.ntmps6]; exact Nat.le_of_ble_eq_true rfl) w0 R ((F6_eq x0 x1 x2 R w0).mp h)

/-- canton/cantonlaw7.WireTurned, its body as a formula. -/
def F7 (x0 x1 x2 : Value) (R : Value → World → Prop) (w0 : World) : Prop :=
 BoxK Tryz.prog 26 x0 (@hid _ ⟨fun t3_1 w2 =>
 CallV Tryz.prog (.func (.func 8) #[] #[]) #[] (@hid _ ⟨fun t13_3 w4 =>
 UnK Tryz.prog .not t13_3 (@hid _ ⟨fun t14_5 w6 =>
 BrK t14_5 (@hid _ ⟨
 R (.bool false) w6⟩) (@hid _ ⟨
 LoadK Tryz.prog 26 t3_1 (@hid _ ⟨fun t15_7 w8 =>
 CallV Tryz.prog (.func (.func 9) #[] #[]) #[t15_7] (@hid _ ⟨fun t16_9 w10 =>
 UnK Tryz.prog .not t16_9 (@hid _ ⟨fun t17_11 w12 =>
 GuardK t17_11 false (fun k w => k x2 w) (@hid _ ⟨fun t19_13 w14 =>
 GuardK t17_11 false (fun k w => BinK Tryz.prog .eql 5 t19_13 (.int .u8 0) k w) (@hid _ ⟨fun t20_15 w16 =>
 PickK Tryz.prog t17_11 (.bool true) t20_15 (@hid _ ⟨fun t21_17 w18 =>
 GuardK t21_17 false (fun k w => LoadK Tryz.prog 26 t3_1 k w) (@hid _ ⟨fun t23_19 w20 =>
 GuardK t21_17 false (fun k w => CallV Tryz.prog (.func (.func 12) #[] #[]) #[t23_19] k w) (@hid _ ⟨fun t24_21 w22 =>
 GuardK t21_17 false (fun k w => CallV Tryz.prog (.func (.func 41) #[] #[]) #[t24_21] k w) (@hid _ ⟨fun t25_23 w24 =>
 GuardK t21_17 false (fun k w => BinK Tryz.prog .neq 3 t25_23 (.int .i64 0) k w) (@hid _ ⟨fun t26_25 w26 =>
 PickK Tryz.prog t21_17 (.bool true) t26_25 (@hid _ ⟨fun t27_27 w28 =>
 BrK t27_27 (@hid _ ⟨
 R (.bool true) w28⟩) (@hid _ ⟨
 LoadK Tryz.prog 26 t3_1 (@hid _ ⟨fun t29_29 w30 =>
 CallV Tryz.prog (.func (.func 10) #[] #[]) #[t29_29] (@hid _ ⟨fun t30_31 w32 =>
 ExtractK Tryz.prog t30_31 0 (@hid _ ⟨fun t31_33 w34 =>
 ExtractK Tryz.prog t30_31 1 (@hid _ ⟨fun t32_35 w36 =>
 BinK Tryz.prog .neq 3 t32_35 (.int .i64 0) (@hid _ ⟨fun t34_37 w38 =>
 GuardK t34_37 false (fun k w => k t31_33 w) (@hid _ ⟨fun t36_39 w40 =>
 GuardK t34_37 false (fun k w => BuiltinK Tryz.prog .len #[29] 3 #[false] #[t36_39] k w) (@hid _ ⟨fun t37_41 w42 =>
 GuardK t34_37 false (fun k w => BinK Tryz.prog .eql 3 t37_41 (.int .i64 0) k w) (@hid _ ⟨fun t38_43 w44 =>
 PickK Tryz.prog t34_37 (.bool true) t38_43 (@hid _ ⟨fun t39_45 w46 =>
 BrK t39_45 (@hid _ ⟨
 R (.bool false) w46⟩) (@hid _ ⟨
 ConvK Tryz.prog 87 3 x1 (@hid _ ⟨fun t41_47 w48 =>
 BuiltinK Tryz.prog .len #[29] 3 #[false] #[t31_33] (@hid _ ⟨fun t43_49 w50 =>
 BinK Tryz.prog .rem 3 t41_47 t43_49 (@hid _ ⟨fun t44_51 w52 =>
 BuildSliceK Tryz.prog 29 0 #[] (@hid _ ⟨fun t45_53 w54 =>
 BuiltinK Tryz.prog .append #[29, 29] 29 #[false, false] #[t45_53, t31_33] (@hid _ ⟨fun t47_55 w56 =>
 IndexAtK Tryz.prog 29 t47_55 t44_51 (@hid _ ⟨fun t52_57 w58 =>
 LoadK Tryz.prog 5 t52_57 (@hid _ ⟨fun t53_59 w60 =>
 BinK Tryz.prog .xor 5 t53_59 x2 (@hid _ ⟨fun t55_61 w62 =>
 IndexAtK Tryz.prog 29 t47_55 t44_51 (@hid _ ⟨fun t56_63 w64 =>
 StoreK Tryz.prog 5 t56_63 t55_61 (@hid _ ⟨fun tu_65 w66 =>
 CallV Tryz.prog (.func (.func 13) #[] #[]) #[t47_55] (@hid _ ⟨fun t59_67 w68 =>
 ExtractK Tryz.prog t59_67 0 (@hid _ ⟨fun t60_69 w70 =>
 ExtractK Tryz.prog t59_67 1 (@hid _ ⟨fun t61_71 w72 =>
 AllocK Tryz.prog 26 (@hid _ ⟨fun t11_73 w74 =>
 StoreK Tryz.prog 26 t11_73 t60_69 (@hid _ ⟨fun tu_75 w76 =>
 BinK Tryz.prog .eql 3 t61_71 (.int .i64 10) (@hid _ ⟨fun t63_77 w78 =>
 GuardK t63_77 true (fun k w => FieldAtK Tryz.prog 26 t11_73 0 k w) (@hid _ ⟨fun t65_79 w80 =>
 GuardK t63_77 true (fun k w => LoadK Tryz.prog 9 t65_79 k w) (@hid _ ⟨fun t66_81 w82 =>
 GuardK t63_77 true (fun k w => BinK Tryz.prog .eql 9 t66_81 (.string { data := #[] }) k w) (@hid _ ⟨fun t67_83 w84 =>
 PickK Tryz.prog t63_77 t67_83 (.bool false) (@hid _ ⟨fun t68_85 w86 =>
 GuardK t68_85 true (fun k w => FieldAtK Tryz.prog 26 t11_73 2 k w) (@hid _ ⟨fun t70_87 w88 =>
 GuardK t68_85 true (fun k w => LoadK Tryz.prog 24 t70_87 k w) (@hid _ ⟨fun t71_89 w90 =>
 GuardK t68_85 true (fun k w => BuiltinK Tryz.prog .len #[24] 3 #[false] #[t71_89] k w) (@hid _ ⟨fun t72_91 w92 =>
 GuardK t68_85 true (fun k w => BinK Tryz.prog .eql 3 t72_91 (.int .i64 0) k w) (@hid _ ⟨fun t73_93 w94 =>
 PickK Tryz.prog t68_85 t73_93 (.bool false) (@hid _ ⟨fun t74_95 w96 =>
 R t74_95 w96⟩) w94⟩) w92⟩) w90⟩) w88⟩) w86⟩) w84⟩) w82⟩) w80⟩) w78⟩) w76⟩) w74⟩) w72⟩) w70⟩) w68⟩) w66⟩) w64⟩) w62⟩) w60⟩) w58⟩) w56⟩) w54⟩) w52⟩) w50⟩) w48⟩) w46⟩)⟩) w44⟩) w42⟩) w40⟩) w38⟩) w36⟩) w34⟩) w32⟩) w30⟩) w28⟩)⟩) w26⟩) w24⟩) w22⟩) w20⟩) w18⟩) w16⟩) w14⟩) w12⟩) w10⟩) w8⟩) w6⟩)⟩) w4⟩) w2⟩) w0
def a7 : Ann := (.seq .no (.seq (.seq .no (.cond (.seq .no .no) .no)) (.seq (.seq .no (.cond (.seq .no .no) .no)) (.seq .no (.seq (.seq .no (.cond (.seq .no .no) .no)) (.seq .no (.seq .no (.seq .no (.seq .no (.seq .no .no))))))))))
theorem F7_eq (x0 x1 x2 : Value) (R : Value → World → Prop) (w0 : World) : F7 x0 x1 x2 R w0 = vc Tryz.prog (bodyOf Tryz.f7) a7 (retQ Tryz.prog Tryz.f7 R) (envOf 0 [x0, x1, x2]) w0 := by kernel_rfl
theorem F7_calls (x0 x1 x2 : Value) (R : Value → World → Prop) (w0 : World) (h : F7 x0 x1 x2 R w0) : CallK Tryz.prog 7 #[x0, x1, x2] R w0 :=
 calls_vc (c := bodyOf Tryz.f7) Tryz.func7 (by kernel_rfl) (by kernel_rfl) a7 (by kernel_rfl) (by kernel_rfl) [x0, x1, x2] (by rw [Tryz.ntmps7]; exact Nat.le_of_ble_eq_true rfl) w0 R ((F7_eq x0 x1 x2 R w0).mp h)

/-- canton/cantonlaw7.known, its body as a formula. -/
def F8 (R : Value → World → Prop) (w0 : World) : Prop :=
 BuildK Tryz.prog 23 #[(0, (.int .i64 1)), (3, (.string { data := #[47, 122] }))] (@hid _ ⟨fun t12_1 w2 =>
 BuildSliceK Tryz.prog 59 2 #[(0, (.int .i64 1)), (1, (.int .i64 2))] (@hid _ ⟨fun t13_3 w4 =>
 BuildK Tryz.prog 61 #[(0, (.int .i64 3)), (3, t13_3)] (@hid _ ⟨fun t14_5 w6 =>
 BuildK Tryz.prog 64 #[(0, (.string { data := #[97] })), (1, t14_5)] (@hid _ ⟨fun t15_7 w8 =>
 BuildSliceK Tryz.prog 24 1 #[(0, t15_7)] (@hid _ ⟨fun t16_9 w10 =>
 BuildK Tryz.prog 26 #[(0, (.string { data := #[107] })), (1, t12_1), (2, t16_9)] (@hid _ ⟨fun t17_11 w12 =>
 AllocK Tryz.prog 26 (@hid _ ⟨fun t1_13 w14 =>
 StoreK Tryz.prog 26 t1_13 t17_11 (@hid _ ⟨fun tu_15 w16 =>
 LoadK Tryz.prog 26 t1_13 (@hid _ ⟨fun t19_17 w18 =>
 CallV Tryz.prog (.func (.func 10) #[] #[]) #[t19_17] (@hid _ ⟨fun t20_19 w20 =>
 ExtractK Tryz.prog t20_19 0 (@hid _ ⟨fun t21_21 w22 =>
 ExtractK Tryz.prog t20_19 1 (@hid _ ⟨fun t22_23 w24 =>
 CallV Tryz.prog (.func (.func 13) #[] #[]) #[t21_21] (@hid _ ⟨fun t25_25 w26 =>
 ExtractK Tryz.prog t25_25 0 (@hid _ ⟨fun t26_27 w28 =>
 ExtractK Tryz.prog t25_25 1 (@hid _ ⟨fun t27_29 w30 =>
 AllocK Tryz.prog 26 (@hid _ ⟨fun t4_31 w32 =>
 StoreK Tryz.prog 26 t4_31 t26_27 (@hid _ ⟨fun tu_33 w34 =>
 LoadK Tryz.prog 26 t1_13 (@hid _ ⟨fun t29_35 w36 =>
 LoadK Tryz.prog 26 t1_13 (@hid _ ⟨fun t30_37 w38 =>
 BuildSliceK Tryz.prog 43 2 #[(0, t29_35), (1, t30_37)] (@hid _ ⟨fun t31_39 w40 =>
 CallV Tryz.prog (.func (.func 16) #[] #[]) #[t31_39] (@hid _ ⟨fun t32_41 w42 =>
 ExtractK Tryz.prog t32_41 0 (@hid _ ⟨fun t33_43 w44 =>
 ExtractK Tryz.prog t32_41 1 (@hid _ ⟨fun t34_45 w46 =>
 CallV Tryz.prog (.func (.func 19) #[] #[]) #[t33_43] (@hid _ ⟨fun t37_47 w48 =>
 ExtractK Tryz.prog t37_47 0 (@hid _ ⟨fun t38_49 w50 =>
 ExtractK Tryz.prog t37_47 1 (@hid _ ⟨fun t39_51 w52 =>
 BuildSliceK Tryz.prog 29 5 #[(0, (.int .u8 120)), (1, (.int .u8 120)), (2, (.int .u8 120)), (3, (.int .u8 120)), (4, (.int .u8 120))] (@hid _ ⟨fun t41_53 w54 =>
 ConvK Tryz.prog 29 29 t41_53 (@hid _ ⟨fun t42_55 w56 =>
 CallV Tryz.prog (.func (.func 13) #[] #[]) #[t42_55] (@hid _ ⟨fun t43_57 w58 =>
 ExtractK Tryz.prog t43_57 0 (@hid _ ⟨fun t44_59 w60 =>
 ExtractK Tryz.prog t43_57 1 (@hid _ ⟨fun t45_61 w62 =>
 AllocK Tryz.prog 26 (@hid _ ⟨fun t10_63 w64 =>
 StoreK Tryz.prog 26 t10_63 t44_59 (@hid _ ⟨fun tu_65 w66 =>
 BinK Tryz.prog .add 3 t22_23 t27_29 (@hid _ ⟨fun t48_67 w68 =>
 BinK Tryz.prog .add 3 t48_67 t34_45 (@hid _ ⟨fun t50_69 w70 =>
 BinK Tryz.prog .add 3 t50_69 t39_51 (@hid _ ⟨fun t52_71 w72 =>
 BinK Tryz.prog .eql 3 t52_71 (.int .i64 0) (@hid _ ⟨fun t53_73 w74 =>
 GuardK t53_73 true (fun k w => LoadK Tryz.prog 26 t4_31 k w) (@hid _ ⟨fun t55_75 w76 =>
 GuardK t53_73 true (fun k w => LoadK Tryz.prog 26 t1_13 k w) (@hid _ ⟨fun t56_77 w78 =>
 GuardK t53_73 true (fun k w => CallV Tryz.prog (.func (.func 42) #[] #[]) #[t55_75, t56_77] k w) (@hid _ ⟨fun t57_79 w80 =>
 PickK Tryz.prog t53_73 t57_79 (.bool false) (@hid _ ⟨fun t58_81 w82 =>
 GuardK t58_81 true (fun k w => k t38_49 w) (@hid _ ⟨fun t60_83 w84 =>
 GuardK t58_81 true (fun k w => BuiltinK Tryz.prog .len #[43] 3 #[false] #[t60_83] k w) (@hid _ ⟨fun t61_85 w86 =>
 GuardK t58_81 true (fun k w => BinK Tryz.prog .eql 3 t61_85 (.int .i64 2) k w) (@hid _ ⟨fun t62_87 w88 =>
 PickK Tryz.prog t58_81 t62_87 (.bool false) (@hid _ ⟨fun t63_89 w90 =>
 GuardK t63_89 true (fun k w => k t45_61 w) (@hid _ ⟨fun t65_91 w92 =>
 GuardK t63_89 true (fun k w => BinK Tryz.prog .eql 3 t65_91 (.int .i64 10) k w) (@hid _ ⟨fun t66_93 w94 =>
 PickK Tryz.prog t63_89 t66_93 (.bool false) (@hid _ ⟨fun t67_95 w96 =>
 R t67_95 w96⟩) w94⟩) w92⟩) w90⟩) w88⟩) w86⟩) w84⟩) w82⟩) w80⟩) w78⟩) w76⟩) w74⟩) w72⟩) w70⟩) w68⟩) w66⟩) w64⟩) w62⟩) w60⟩) w58⟩) w56⟩) w54⟩) w52⟩) w50⟩) w48⟩) w46⟩) w44⟩) w42⟩) w40⟩) w38⟩) w36⟩) w34⟩) w32⟩) w30⟩) w28⟩) w26⟩) w24⟩) w22⟩) w20⟩) w18⟩) w16⟩) w14⟩) w12⟩) w10⟩) w8⟩) w6⟩) w4⟩) w2⟩) w0
def a8 : Ann := (.seq .no (.seq .no (.seq .no (.seq .no (.seq .no (.seq .no (.seq .no (.seq .no .no))))))))
theorem F8_eq (R : Value → World → Prop) (w0 : World) : F8  R w0 = vc Tryz.prog (bodyOf Tryz.f8) a8 (retQ Tryz.prog Tryz.f8 R) (envOf 0 []) w0 := by kernel_rfl
theorem F8_calls (R : Value → World → Prop) (w0 : World) (h : F8  R w0) : CallK Tryz.prog 8 #[] R w0 :=
 calls_vc (c := bodyOf Tryz.f8) Tryz.func8 (by kernel_rfl) (by kernel_rfl) a8 (by kernel_rfl) (by kernel_rfl) [] (by rw [Tryz.ntmps8]; exact Nat.le_of_ble_eq_true rfl) w0 R ((F8_eq  R w0).mp h)

/-- canton/cantonlaw4.Few, its body as a formula. -/
def F9 (x0 : Value) (R : Value → World → Prop) (w0 : World) : Prop :=
 BoxK Tryz.prog 26 x0 (@hid _ ⟨fun t1_1 w2 =>
 FieldAtK Tryz.prog 26 t1_1 0 (@hid _ ⟨fun t3_3 w4 =>
 LoadK Tryz.prog 9 t3_3 (@hid _ ⟨fun t4_5 w6 =>
 BuiltinK Tryz.prog .len #[9] 3 #[false] #[t4_5] (@hid _ ⟨fun t5_7 w8 =>
 BinK Tryz.prog .leq 3 t5_7 (.int .i64 100) (@hid _ ⟨fun t6_9 w10 =>
 GuardK t6_9 true (fun k w => FieldAtK Tryz.prog 26 t1_1 1 k w) (@hid _ ⟨fun t8_11 w12 =>
 GuardK t6_9 true (fun k w => FieldAtK Tryz.prog 23 t8_11 3 k w) (@hid _ ⟨fun t9_13 w14 =>
 GuardK t6_9 true (fun k w => LoadK Tryz.prog 9 t9_13 k w) (@hid _ ⟨fun t10_15 w16 =>
 GuardK t6_9 true (fun k w => BuiltinK Tryz.prog .len #[9] 3 #[false] #[t10_15] k w) (@hid _ ⟨fun t11_17 w18 =>
 GuardK t6_9 true (fun k w => BinK Tryz.prog .leq 3 t11_17 (.int .i64 100) k w) (@hid _ ⟨fun t12_19 w20 =>
 PickK Tryz.prog t6_9 t12_19 (.bool false) (@hid _ ⟨fun t13_21 w22 =>
 GuardK t13_21 true (fun k w => FieldAtK Tryz.prog 26 t1_1 2 k w) (@hid _ ⟨fun t15_23 w24 =>
 GuardK t13_21 true (fun k w => LoadK Tryz.prog 24 t15_23 k w) (@hid _ ⟨fun t16_25 w26 =>
 GuardK t13_21 true (fun k w => CallV Tryz.prog (.func (.func 43) #[] #[]) #[t16_25] k w) (@hid _ ⟨fun t17_27 w28 =>
 PickK Tryz.prog t13_21 t17_27 (.bool false) (@hid _ ⟨fun t18_29 w30 =>
 R t18_29 w30⟩) w28⟩) w26⟩) w24⟩) w22⟩) w20⟩) w18⟩) w16⟩) w14⟩) w12⟩) w10⟩) w8⟩) w6⟩) w4⟩) w2⟩) w0
def a9 : Ann := (.seq .no (.seq .no .no))
theorem F9_eq (x0 : Value) (R : Value → World → Prop) (w0 : World) : F9 x0 R w0 = vc Tryz.prog (bodyOf Tryz.f9) a9 (retQ Tryz.prog Tryz.f9 R) (envOf 0 [x0]) w0 := by kernel_rfl
theorem F9_calls (x0 : Value) (R : Value → World → Prop) (w0 : World) (h : F9 x0 R w0) : CallK Tryz.prog 9 #[x0] R w0 :=
 calls_vc (c := bodyOf Tryz.f9) Tryz.func9 (by kernel_rfl) (by kernel_rfl) a9 (by kernel_rfl) (by kernel_rfl) [x0] (by rw [Tryz.ntmps9]; exact Nat.le_of_ble_eq_true rfl) w0 R ((F9_eq x0 R w0).mp h)

/-- canton/wire.Encode, its body as a formula. -/
def F10 (x0 : Value) (R : Value → World → Prop) (w0 : World) : Prop :=
 BoxK Tryz.prog 26 x0 (@hid _ ⟨fun t1_1 w2 =>
 LoadK Tryz.prog 26 t1_1 (@hid _ ⟨fun t5_3 w4 =>
 CallV Tryz.prog (.func (.func 44) #[] #[]) #[t5_3] (@hid _ ⟨fun t6_5 w6 =>
 BinK Tryz.prog .neq 30 t6_5 (.int .i64 0) (@hid _ ⟨fun t8_7 w8 =>
 BrK t8_7 (@hid _ ⟨
 R (.tuple #[(.slice none 0 0), t6_5]) w8⟩) (@hid _ ⟨
 LoadK Tryz.prog 26 t1_1 (@hid _ ⟨fun t10_9 w10 =>
 CallV Tryz.prog (.func (.func 45) #[] #[]) #[t10_9, (.func (.func 27) #[] #[])] (@hid _ ⟨fun t11_11 w12 =>
 R (.tuple #[t11_11, (.int .i64 0)]) w12⟩) w10⟩) w8⟩)⟩) w6⟩) w4⟩) w2⟩) w0
def a10 : Ann := (.seq .no (.seq (.seq .no (.seq .no (.cond (.seq .no .no) .no))) (.seq .no .no)))
theorem F10_eq (x0 : Value) (R : Value → World → Prop) (w0 : World) : F10 x0 R w0 = vc Tryz.prog (bodyOf Tryz.f10) a10 (retQ Tryz.prog Tryz.f10 R) (envOf 0 [x0]) w0 := by kernel_rfl
theorem F10_calls (x0 : Value) (R : Value → World → Prop) (w0 : World) (h : F10 x0 R w0) : CallK Tryz.prog 10 #[x0] R w0 :=
 calls_vc (c := bodyOf Tryz.f10) Tryz.func10 (by kernel_rfl) (by kernel_rfl) a10 (by kernel_rfl) (by kernel_rfl) [x0] (by rw [Tryz.ntmps10]; exact Nat.le_of_ble_eq_true rfl) w0 R ((F10_eq x0 R w0).mp h)

/-- canton/cantonref7.Encode, its body as a formula. -/
def F11 (x0 : Value) (R : Value → World → Prop) (w0 : World) : Prop :=
 BoxK Tryz.prog 38 x0 (@hid _ ⟨fun t1_1 w2 =>
 LoadK Tryz.prog 38 t1_1 (@hid _ ⟨fun t5_3 w4 =>
 CallV Tryz.prog (.func (.func 41) #[] #[]) #[t5_3] (@hid _ ⟨fun t6_5 w6 =>
 BinK Tryz.prog .neq 3 t6_5 (.int .i64 0) (@hid _ ⟨fun t8_7 w8 =>
 BrK t8_7 (@hid _ ⟨
 R (.tuple #[(.slice none 0 0), t6_5]) w8⟩) (@hid _ ⟨
 LoadK Tryz.prog 38 t1_1 (@hid _ ⟨fun t10_9 w10 =>
 CallV Tryz.prog (.func (.func 32) #[] #[]) #[t10_9] (@hid _ ⟨fun t11_11 w12 =>
 CallV Tryz.prog (.func (.func 21) #[] #[]) #[t11_11] (@hid _ ⟨fun t12_13 w14 =>
 R (.tuple #[t12_13, (.int .i64 0)]) w14⟩) w12⟩) w10⟩) w8⟩)⟩) w6⟩) w4⟩) w2⟩) w0
def a11 : Ann := (.seq .no (.seq .no (.seq (.seq .no (.cond (.seq .no .no) .no)) (.seq .no .no))))
theorem F11_eq (x0 : Value) (R : Value → World → Prop) (w0 : World) : F11 x0 R w0 = vc Tryz.prog (bodyOf Tryz.f11) a11 (retQ Tryz.prog Tryz.f11 R) (envOf 0 [x0]) w0 := by kernel_rfl
theorem F11_calls (x0 : Value) (R : Value → World → Prop) (w0 : World) (h : F11 x0 R w0) : CallK Tryz.prog 11 #[x0] R w0 :=
 calls_vc (c := bodyOf Tryz.f11) Tryz.func11 (by kernel_rfl) (by kernel_rfl) a11 (by kernel_rfl) (by kernel_rfl) [x0] (by rw [Tryz.ntmps11]; exact Nat.le_of_ble_eq_true rfl) w0 R ((F11_eq x0 R w0).mp h)

/-- canton/cantonlaw4.Of, its body as a formula. -/
def F12 (x0 : Value) (R : Value → World → Prop) (w0 : World) : Prop :=
 BoxK Tryz.prog 26 x0 (@hid _ ⟨fun t1_1 w2 =>
 AllocK Tryz.prog 38 (@hid _ ⟨fun t2_3 w4 =>
 DrawK (@hid _ ⟨fun S5 w6 =>
 TakeS Tryz.prog S5 (Instr.fieldAt 26 t1_1 0) (@hid _ ⟨fun t3_7 =>
 TakeS Tryz.prog S5 (Instr.loadAt 9 t3_7) (@hid _ ⟨fun t4_8 =>
 TakeS Tryz.prog S5 (Instr.fieldAt 26 t1_1 1) (@hid _ ⟨fun t5_9 =>
 TakeS Tryz.prog S5 (Instr.loadAt 23 t5_9) (@hid _ ⟨fun t6_10 =>
 TakeS Tryz.prog S5 (Instr.fieldAt 26 t1_1 2) (@hid _ ⟨fun t8_11 =>
 TakeS Tryz.prog S5 (Instr.loadAt 24 t8_11) (@hid _ ⟨fun t9_12 =>
 (CallV Tryz.prog (.func (.func 31) #[] #[]) #[t6_10] (@hid _ ⟨fun t7_13 w14 =>
 S5 w14 ∧
 (CallV Tryz.prog (.func (.func 46) #[] #[]) #[t9_12] (@hid _ ⟨fun t10_15 w16 =>
 S5 w16 ∧
 (BuildK Tryz.prog 38 #[(0, t4_8), (1, t7_13), (2, t10_15)] (@hid _ ⟨fun t11_17 w18 =>
 S5 w18 ∧
 (StoreK Tryz.prog 38 t2_3 t11_17 (@hid _ ⟨fun tu_19 w20 =>
 S5 w20 ∧
 LoadK Tryz.prog 38 t2_3 (@hid _ ⟨fun c21 w22 => w22 = w20 ∧ R c21 w20⟩) w20⟩) w18) ∧
 True⟩) w16) ∧
 True⟩) w14) ∧
 True⟩) w6) ∧
 True⟩)⟩)⟩)⟩)⟩)⟩)⟩) w4⟩) w2⟩) w0
def a12 : Ann := (.seq .no (.seq (.plan (.take 0 (.take 1 (.take 2 (.take 3 (.take 5 (.take 6 (.alt 4 (.alt 7 (.alt 8 (.alt 9 .done .nil) .nil) .nil) .nil)))))))) .no))
theorem F12_eq (x0 : Value) (R : Value → World → Prop) (w0 : World) : F12 x0 R w0 = vc Tryz.prog (bodyOf Tryz.f12) a12 (retQ Tryz.prog Tryz.f12 R) (envOf 0 [x0]) w0 := by kernel_rfl
theorem F12_calls (x0 : Value) (R : Value → World → Prop) (w0 : World) (h : F12 x0 R w0) : CallK Tryz.prog 12 #[x0] R w0 :=
 calls_vc (c := bodyOf Tryz.f12) Tryz.func12 (by kernel_rfl) (by kernel_rfl) a12 (by kernel_rfl) (by kernel_rfl) [x0] (by rw [Tryz.ntmps12]; exact Nat.le_of_ble_eq_true rfl) w0 R ((F12_eq x0 R w0).mp h)

/-- canton/wire.Decode, its body as a formula. -/
def F13 (x0 : Value) (R : Value → World → Prop) (w0 : World) : Prop :=
 AllocK Tryz.prog 26 (@hid _ ⟨fun t2_1 w2 =>
 CallV Tryz.prog (.func (.func 47) #[] #[]) #[x0, (.func (.func 37) #[] #[])] (@hid _ ⟨fun t8_3 w4 =>
 ExtractK Tryz.prog t8_3 0 (@hid _ ⟨fun t9_5 w6 =>
 ExtractK Tryz.prog t8_3 1 (@hid _ ⟨fun t10_7 w8 =>
 AllocK Tryz.prog 26 (@hid _ ⟨fun t4_9 w10 =>
 StoreK Tryz.prog 26 t4_9 t9_5 (@hid _ ⟨fun tu_11 w12 =>
 CutK1 (@hid _ ⟨fun R13 =>
 BinK Tryz.prog .eql 30 t10_7 (.int .i64 0) (@hid _ ⟨fun t12_16 w17 =>
 BrK t12_16 (@hid _ ⟨
 LoadK Tryz.prog 26 t4_9 (@hid _ ⟨fun t13_18 w19 =>
 CallV Tryz.prog (.func (.func 44) #[] #[]) #[t13_18] (@hid _ ⟨fun t14_20 w21 =>
 R13 t14_20 w21⟩) w19⟩) w17⟩) (@hid _ ⟨
 R13 t10_7 w17⟩)⟩) w12⟩)
 (@hid _ ⟨fun _ x5_14 w15 =>
 BinK Tryz.prog .neq 30 x5_14 (.int .i64 0) (@hid _ ⟨fun t16_22 w23 =>
 BrK t16_22 (@hid _ ⟨
 BuildK Tryz.prog 26 #[] (@hid _ ⟨fun t17_24 w25 =>
 StoreK Tryz.prog 26 t2_1 t17_24 (@hid _ ⟨fun tu_26 w27 =>
 LoadK Tryz.prog 26 t2_1 (@hid _ ⟨fun c28 w29 => w29 = w27 ∧ R (.tuple #[c28, x5_14]) w27⟩) w27⟩) w25⟩) w23⟩) (@hid _ ⟨
 LoadK Tryz.prog 26 t4_9 (@hid _ ⟨fun t19_30 w31 =>
 StoreK Tryz.prog 26 t2_1 t19_30 (@hid _ ⟨fun tu_32 w33 =>
 LoadK Tryz.prog 26 t2_1 (@hid _ ⟨fun c34 w35 => w35 = w33 ∧ R (.tuple #[c34, (.int .i64 0)]) w33⟩) w33⟩) w31⟩) w23⟩)⟩) w15⟩)⟩) w10⟩) w8⟩) w6⟩) w4⟩) w2⟩) w0
def a13 : Ann := (.seq .no (.seq .no (.cut [5] [(11, 14)] (.seq .no (.cond .no .no)) (.seq (.seq .no (.cond (.seq .no .no) .no)) (.seq .no .no)))))
theorem F13_eq (x0 : Value) (R : Value → World → Prop) (w0 : World) : F13 x0 R w0 = vc Tryz.prog (bodyOf Tryz.f13) a13 (retQ Tryz.prog Tryz.f13 R) (envOf 0 [x0]) w0 := by kernel_rfl
theorem F13_calls (x0 : Value) (R : Value → World → Prop) (w0 : World) (h : F13 x0 R w0) : CallK Tryz.prog 13 #[x0] R w0 :=
 calls_vc (c := bodyOf Tryz.f13) Tryz.func13 (by kernel_rfl) (by kernel_rfl) a13 (by kernel_rfl) (by kernel_rfl) [x0] (by rw [Tryz.ntmps13]; exact Nat.le_of_ble_eq_true rfl) w0 R ((F13_eq x0 R w0).mp h)

/-- canton/cantonref7.Same, its body as a formula. -/
def F14 (x0 x1 : Value) (R : Value → World → Prop) (w0 : World) : Prop :=
 BoxK Tryz.prog 38 x0 (@hid _ ⟨fun t2_1 w2 =>
 BoxK Tryz.prog 38 x1 (@hid _ ⟨fun t3_3 w4 =>
 FieldAtK Tryz.prog 38 t2_1 0 (@hid _ ⟨fun t5_5 w6 =>
 LoadK Tryz.prog 9 t5_5 (@hid _ ⟨fun t6_7 w8 =>
 FieldAtK Tryz.prog 38 t3_3 0 (@hid _ ⟨fun t7_9 w10 =>
 LoadK Tryz.prog 9 t7_9 (@hid _ ⟨fun t8_11 w12 =>
 BinK Tryz.prog .eql 9 t6_7 t8_11 (@hid _ ⟨fun t9_13 w14 =>
 GuardK t9_13 true (fun k w => FieldAtK Tryz.prog 38 t2_1 1 k w) (@hid _ ⟨fun t11_15 w16 =>
 GuardK t9_13 true (fun k w => LoadK Tryz.prog 35 t11_15 k w) (@hid _ ⟨fun t12_17 w18 =>
 GuardK t9_13 true (fun k w => FieldAtK Tryz.prog 38 t3_3 1 k w) (@hid _ ⟨fun t13_19 w20 =>
 GuardK t9_13 true (fun k w => LoadK Tryz.prog 35 t13_19 k w) (@hid _ ⟨fun t14_21 w22 =>
 GuardK t9_13 true (fun k w => CallV Tryz.prog (.func (.func 48) #[] #[]) #[t12_17, t14_21] k w) (@hid _ ⟨fun t15_23 w24 =>
 GuardK t9_13 true (fun k w => BinK Tryz.prog .eql 3 t15_23 (.int .i64 0) k w) (@hid _ ⟨fun t16_25 w26 =>
 PickK Tryz.prog t9_13 t16_25 (.bool false) (@hid _ ⟨fun t17_27 w28 =>
 GuardK t17_27 true (fun k w => FieldAtK Tryz.prog 38 t2_1 2 k w) (@hid _ ⟨fun t19_29 w30 =>
 GuardK t17_27 true (fun k w => LoadK Tryz.prog 36 t19_29 k w) (@hid _ ⟨fun t20_31 w32 =>
 GuardK t17_27 true (fun k w => FieldAtK Tryz.prog 38 t3_3 2 k w) (@hid _ ⟨fun t21_33 w34 =>
 GuardK t17_27 true (fun k w => LoadK Tryz.prog 36 t21_33 k w) (@hid _ ⟨fun t22_35 w36 =>
 GuardK t17_27 true (fun k w => CallV Tryz.prog (.func (.func 49) #[] #[]) #[t20_31, t22_35] k w) (@hid _ ⟨fun t23_37 w38 =>
 PickK Tryz.prog t17_27 t23_37 (.bool false) (@hid _ ⟨fun t24_39 w40 =>
 R t24_39 w40⟩) w38⟩) w36⟩) w34⟩) w32⟩) w30⟩) w28⟩) w26⟩) w24⟩) w22⟩) w20⟩) w18⟩) w16⟩) w14⟩) w12⟩) w10⟩) w8⟩) w6⟩) w4⟩) w2⟩) w0
def a14 : Ann := (.seq .no (.seq .no .no))
theorem F14_eq (x0 x1 : Value) (R : Value → World → Prop) (w0 : World) : F14 x0 x1 R w0 = vc Tryz.prog (bodyOf Tryz.f14) a14 (retQ Tryz.prog Tryz.f14 R) (envOf 0 [x0, x1]) w0 := by kernel_rfl
theorem F14_calls (x0 x1 : Value) (R : Value → World → Prop) (w0 : World) (h : F14 x0 x1 R w0) : CallK Tryz.prog 14 #[x0, x1] R w0 :=
 calls_vc (c := bodyOf Tryz.f14) Tryz.func14 (by kernel_rfl) (by kernel_rfl) a14 (by kernel_rfl) (by kernel_rfl) [x0, x1] (by rw [Tryz.ntmps14]; exact Nat.le_of_ble_eq_true rfl) w0 R ((F14_eq x0 x1 R w0).mp h)

/-- canton/cantonlaw4.FewRows, its body as a formula. -/
def F15 (x0 : Value) (R : Value → World → Prop) (w0 : World) : Prop :=
 BuiltinK Tryz.prog .len #[43] 3 #[false] #[x0] (@hid _ ⟨fun t5_1 w2 =>
 BinK Tryz.prog .gtr 3 t5_1 (.int .i64 70) (@hid _ ⟨fun t6_3 w4 =>
 BrK t6_3 (@hid _ ⟨
 R (.bool false) w4⟩) (@hid _ ⟨
 LoopK1 (.int .i64 0) w4 (@hid _ ⟨fun _ x3_5 w6 B7 =>
 BuiltinK Tryz.prog .len #[43] 3 #[false] #[x0] (@hid _ ⟨fun t9_8 w9 =>
 BinK Tryz.prog .lss 3 x3_5 t9_8 (@hid _ ⟨fun t10_10 w11 =>
 BrK t10_10 (@hid _ ⟨
 IndexAtK Tryz.prog 43 x0 x3_5 (@hid _ ⟨fun t15_12 w13 =>
 LoadK Tryz.prog 26 t15_12 (@hid _ ⟨fun t16_14 w15 =>
 CallV Tryz.prog (.func (.func 9) #[] #[]) #[t16_14] (@hid _ ⟨fun t17_16 w17 =>
 UnK Tryz.prog .not t17_16 (@hid _ ⟨fun t18_18 w19 =>
 BrK t18_18 (@hid _ ⟨
 R (.bool false) w19⟩) (@hid _ ⟨
 BinK Tryz.prog .add 3 x3_5 (.int .i64 1) (@hid _ ⟨fun t12_20 w21 =>
 B7 t12_20 w21⟩) w19⟩)⟩) w17⟩) w15⟩) w13⟩) w11⟩) (@hid _ ⟨
 R (.bool true) w11⟩)⟩) w9⟩) w6⟩)⟩)⟩) w2⟩) w0
def a15 : Ann := (.seq .no (.seq (.seq .no (.cond (.seq .no .no) .no)) (.seq (.seq .no (.block (.loop [3] [(2, 2), (7, 18)] (.seq (.seq .no (.cond .no .no)) (.seq (.block (.seq .no (.cond (.seq .no .no) .no))) .no))))) (.seq .no .no))))
theorem F15_eq (x0 : Value) (R : Value → World → Prop) (w0 : World) : F15 x0 R w0 = vc Tryz.prog (bodyOf Tryz.f15) a15 (retQ Tryz.prog Tryz.f15 R) (envOf 0 [x0]) w0 := by kernel_rfl
theorem F15_calls (x0 : Value) (R : Value → World → Prop) (w0 : World) (h : F15 x0 R w0) : CallK Tryz.prog 15 #[x0] R w0 :=
 calls_vc (c := bodyOf Tryz.f15) Tryz.func15 (by kernel_rfl) (by kernel_rfl) a15 (by kernel_rfl) (by kernel_rfl) [x0] (by rw [Tryz.ntmps15]; exact Nat.le_of_ble_eq_true rfl) w0 R ((F15_eq x0 R w0).mp h)

/-- canton/wire.All, its body as a formula. -/
def F16 (x0 : Value) (R : Value → World → Prop) (w0 : World) : Prop :=
 CallV Tryz.prog (.func (.func 50) #[] #[]) #[x0] (@hid _ ⟨fun t6_1 w2 =>
 BinK Tryz.prog .neq 30 t6_1 (.int .i64 0) (@hid _ ⟨fun t8_3 w4 =>
 BrK t8_3 (@hid _ ⟨
 R (.tuple #[(.slice none 0 0), t6_1]) w4⟩) (@hid _ ⟨
 CallV Tryz.prog (.func (.func 51) #[] #[]) #[x0, (.func (.func 52) #[] #[])] (@hid _ ⟨fun t11_5 w6 =>
 R (.tuple #[t11_5, (.int .i64 0)]) w6⟩) w4⟩)⟩) w2⟩) w0
def a16 : Ann := (.seq .no (.seq (.seq .no (.seq .no (.cond (.seq .no .no) .no))) (.seq .no .no)))
theorem F16_eq (x0 : Value) (R : Value → World → Prop) (w0 : World) : F16 x0 R w0 = vc Tryz.prog (bodyOf Tryz.f16) a16 (retQ Tryz.prog Tryz.f16 R) (envOf 0 [x0]) w0 := by kernel_rfl
theorem F16_calls (x0 : Value) (R : Value → World → Prop) (w0 : World) (h : F16 x0 R w0) : CallK Tryz.prog 16 #[x0] R w0 :=
 calls_vc (c := bodyOf Tryz.f16) Tryz.func16 (by kernel_rfl) (by kernel_rfl) a16 (by kernel_rfl) (by kernel_rfl) [x0] (by rw [Tryz.ntmps16]; exact Nat.le_of_ble_eq_true rfl) w0 R ((F16_eq x0 R w0).mp h)

/-- canton/cantonref7.All, its body as a formula. -/
def F17 (x0 : Value) (R : Value → World → Prop) (w0 : World) : Prop :=
 BuiltinK Tryz.prog .len #[47] 3 #[false] #[x0] (@hid _ ⟨fun t8_1 w2 =>
 BinK Tryz.prog .gtr 3 t8_1 (.int .i64 64) (@hid _ ⟨fun t9_3 w4 =>
 BrK t9_3 (@hid _ ⟨
 R (.tuple #[(.slice none 0 0), (.int .i64 4)]) w4⟩) (@hid _ ⟨
 BuiltinK Tryz.prog .len #[47] 3 #[false] #[x0] (@hid _ ⟨fun t11_5 w6 =>
 CallV Tryz.prog (.func (.func 54) #[] #[]) #[t11_5] (@hid _ ⟨fun t12_7 w8 =>
 LoopK2 t12_7 (.int .i64 0) w8 (@hid _ ⟨fun _ x4_9 x5_10 w11 B12 =>
 BuiltinK Tryz.prog .len #[47] 3 #[false] #[x0] (@hid _ ⟨fun t15_13 w14 =>
 BinK Tryz.prog .lss 3 x5_10 t15_13 (@hid _ ⟨fun t16_15 w16 =>
 BrK t16_15 (@hid _ ⟨
 IndexAtK Tryz.prog 47 x0 x5_10 (@hid _ ⟨fun t21_17 w18 =>
 LoadK Tryz.prog 38 t21_17 (@hid _ ⟨fun t22_19 w20 =>
 CallV Tryz.prog (.func (.func 41) #[] #[]) #[t22_19] (@hid _ ⟨fun t23_21 w22 =>
 BinK Tryz.prog .neq 3 t23_21 (.int .i64 0) (@hid _ ⟨fun t25_23 w24 =>
 BrK t25_23 (@hid _ ⟨
 R (.tuple #[(.slice none 0 0), t23_21]) w24⟩) (@hid _ ⟨
 IndexAtK Tryz.prog 47 x0 x5_10 (@hid _ ⟨fun t30_25 w26 =>
 LoadK Tryz.prog 38 t30_25 (@hid _ ⟨fun t31_27 w28 =>
 CallV Tryz.prog (.func (.func 32) #[] #[]) #[t31_27] (@hid _ ⟨fun t32_29 w30 =>
 BuiltinK Tryz.prog .append #[29, 29] 29 #[false, false] #[x4_9, t32_29] (@hid _ ⟨fun t33_31 w32 =>
 BinK Tryz.prog .add 3 x5_10 (.int .i64 1) (@hid _ ⟨fun t18_33 w34 =>
 B12 t33_31 t18_33 w34⟩) w32⟩) w30⟩) w28⟩) w26⟩) w24⟩)⟩) w22⟩) w20⟩) w18⟩) w16⟩) (@hid _ ⟨
 CallV Tryz.prog (.func (.func 21) #[] #[]) #[x4_9] (@hid _ ⟨fun t35_35 w36 =>
 R (.tuple #[t35_35, (.int .i64 0)]) w36⟩) w16⟩)⟩) w14⟩) w11⟩)⟩) w6⟩) w4⟩)⟩) w2⟩) w0
def a17 : Ann := (.seq .no (.seq (.seq .no (.cond (.seq .no .no) .no)) (.seq .no (.seq (.seq .no (.block (.loop [4, 5] [(2, 3), (6, 6), (13, 33)] (.seq (.seq .no (.cond .no .no)) (.seq (.block (.seq .no (.seq (.seq .no (.cond (.seq .no .no) .no)) .no))) .no))))) (.seq .no .no)))))
theorem F17_eq (x0 : Value) (R : Value → World → Prop) (w0 : World) : F17 x0 R w0 = vc Tryz.prog (bodyOf Tryz.f17) a17 (retQ Tryz.prog Tryz.f17 R) (envOf 0 [x0]) w0 := by kernel_rfl
theorem F17_calls (x0 : Value) (R : Value → World → Prop) (w0 : World) (h : F17 x0 R w0) : CallK Tryz.prog 17 #[x0] R w0 :=
 calls_vc (c := bodyOf Tryz.f17) Tryz.func17 (by kernel_rfl) (by kernel_rfl) a17 (by kernel_rfl) (by kernel_rfl) [x0] (by rw [Tryz.ntmps17]; exact Nat.le_of_ble_eq_true rfl) w0 R ((F17_eq x0 R w0).mp h)

/-- canton/cantonlaw4.OfRows, its body as a formula. -/
def F18 (x0 : Value) (R : Value → World → Prop) (w0 : World) : Prop :=
 LoopK2 (.slice none 0 0) (.int .i64 0) w0 (@hid _ ⟨fun _ x3_1 x4_2 w3 B4 =>
 BuiltinK Tryz.prog .len #[43] 3 #[false] #[x0] (@hid _ ⟨fun t7_5 w6 =>
 BinK Tryz.prog .lss 3 x4_2 t7_5 (@hid _ ⟨fun t8_7 w8 =>
 BrK t8_7 (@hid _ ⟨
 IndexAtK Tryz.prog 43 x0 x4_2 (@hid _ ⟨fun t14_9 w10 =>
 LoadK Tryz.prog 26 t14_9 (@hid _ ⟨fun t15_11 w12 =>
 CallV Tryz.prog (.func (.func 12) #[] #[]) #[t15_11] (@hid _ ⟨fun t16_13 w14 =>
 BuildSliceK Tryz.prog 47 1 #[(0, t16_13)] (@hid _ ⟨fun t17_15 w16 =>
 BuiltinK Tryz.prog .append #[47, 47] 47 #[false, false] #[x3_1, t17_15] (@hid _ ⟨fun t18_17 w18 =>
 BinK Tryz.prog .add 3 x4_2 (.int .i64 1) (@hid _ ⟨fun t10_19 w20 =>
 B4 t18_17 t10_19 w20⟩) w18⟩) w16⟩) w14⟩) w12⟩) w10⟩) w8⟩) (@hid _ ⟨
 R x3_1 w8⟩)⟩) w6⟩) w3⟩)
def a18 : Ann := (.seq .no (.seq .no (.seq (.seq .no (.block (.loop [3, 4] [(5, 18)] (.seq (.seq .no (.cond .no .no)) (.seq (.block .no) .no))))) (.seq .no .no))))
theorem F18_eq (x0 : Value) (R : Value → World → Prop) (w0 : World) : F18 x0 R w0 = vc Tryz.prog (bodyOf Tryz.f18) a18 (retQ Tryz.prog Tryz.f18 R) (envOf 0 [x0]) w0 := by kernel_rfl
theorem F18_calls (x0 : Value) (R : Value → World → Prop) (w0 : World) (h : F18 x0 R w0) : CallK Tryz.prog 18 #[x0] R w0 :=
 calls_vc (c := bodyOf Tryz.f18) Tryz.func18 (by kernel_rfl) (by kernel_rfl) a18 (by kernel_rfl) (by kernel_rfl) [x0] (by rw [Tryz.ntmps18]; exact Nat.le_of_ble_eq_true rfl) w0 R ((F18_eq x0 R w0).mp h)

/-- canton/wire.Rows, its body as a formula. -/
def F19 (x0 : Value) (R : Value → World → Prop) (w0 : World) : Prop :=
 CallV Tryz.prog (.func (.func 55) #[] #[]) #[x0, (.func (.func 56) #[] #[])] (@hid _ ⟨fun t8_1 w2 =>
 ExtractK Tryz.prog t8_1 0 (@hid _ ⟨fun t9_3 w4 =>
 ExtractK Tryz.prog t8_1 1 (@hid _ ⟨fun t10_5 w6 =>
 CutK1 (@hid _ ⟨fun R7 =>
 BinK Tryz.prog .eql 30 t10_5 (.int .i64 0) (@hid _ ⟨fun t12_10 w11 =>
 BrK t12_10 (@hid _ ⟨
 CallV Tryz.prog (.func (.func 50) #[] #[]) #[t9_3] (@hid _ ⟨fun t14_12 w13 =>
 R7 t14_12 w13⟩) w11⟩) (@hid _ ⟨
 R7 t10_5 w11⟩)⟩) w6⟩)
 (@hid _ ⟨fun _ x5_8 w9 =>
 BinK Tryz.prog .neq 30 x5_8 (.int .i64 0) (@hid _ ⟨fun t16_14 w15 =>
 BrK t16_14 (@hid _ ⟨
 R (.tuple #[(.slice none 0 0), x5_8]) w15⟩) (@hid _ ⟨
 R (.tuple #[t9_3, (.int .i64 0)]) w15⟩)⟩) w9⟩)⟩) w4⟩) w2⟩) w0
def a19 : Ann := (.seq .no (.seq .no (.cut [5] [(11, 14)] (.seq .no (.cond .no .no)) (.seq (.seq .no (.cond (.seq .no .no) .no)) (.seq .no .no)))))
theorem F19_eq (x0 : Value) (R : Value → World → Prop) (w0 : World) : F19 x0 R w0 = vc Tryz.prog (bodyOf Tryz.f19) a19 (retQ Tryz.prog Tryz.f19 R) (envOf 0 [x0]) w0 := by kernel_rfl
theorem F19_calls (x0 : Value) (R : Value → World → Prop) (w0 : World) (h : F19 x0 R w0) : CallK Tryz.prog 19 #[x0] R w0 :=
 calls_vc (c := bodyOf Tryz.f19) Tryz.func19 (by kernel_rfl) (by kernel_rfl) a19 (by kernel_rfl) (by kernel_rfl) [x0] (by rw [Tryz.ntmps19]; exact Nat.le_of_ble_eq_true rfl) w0 R ((F19_eq x0 R w0).mp h)

/-- canton/cantonlaw7.same, its body as a formula. -/
def F20 (x0 x1 : Value) (R : Value → World → Prop) (w0 : World) : Prop :=
 BuiltinK Tryz.prog .len #[43] 3 #[false] #[x0] (@hid _ ⟨fun t7_1 w2 =>
 BuiltinK Tryz.prog .len #[47] 3 #[false] #[x1] (@hid _ ⟨fun t9_3 w4 =>
 BinK Tryz.prog .neq 3 t7_1 t9_3 (@hid _ ⟨fun t10_5 w6 =>
 BrK t10_5 (@hid _ ⟨
 R (.bool false) w6⟩) (@hid _ ⟨
 LoopK1 (.int .i64 0) w6 (@hid _ ⟨fun _ x5_7 w8 B9 =>
 BuiltinK Tryz.prog .len #[43] 3 #[false] #[x0] (@hid _ ⟨fun t13_10 w11 =>
 BinK Tryz.prog .lss 3 x5_7 t13_10 (@hid _ ⟨fun t14_12 w13 =>
 BrK t14_12 (@hid _ ⟨
 DrawK (@hid _ ⟨fun S14 w15 =>
 TakeS Tryz.prog S14 (Instr.indexAt 43 x0 x5_7) (@hid _ ⟨fun t19_16 =>
 TakeS Tryz.prog S14 (Instr.loadAt 26 t19_16) (@hid _ ⟨fun t20_17 =>
 TakeS Tryz.prog S14 (Instr.indexAt 47 x1 x5_7) (@hid _ ⟨fun t24_18 =>
 TakeS Tryz.prog S14 (Instr.loadAt 38 t24_18) (@hid _ ⟨fun t25_19 =>
 (CallV Tryz.prog (.func (.func 12) #[] #[]) #[t20_17] (@hid _ ⟨fun t21_20 w21 =>
 S14 w21 ∧
 (CallV Tryz.prog (.func (.func 14) #[] #[]) #[t21_20, t25_19] (@hid _ ⟨fun t26_22 w23 =>
 S14 w23 ∧
 TakeS Tryz.prog S14 (Op.unary .not t26_22) (@hid _ ⟨fun t27_24 =>
 BrK t27_24 (@hid _ ⟨
 R (.bool false) w23⟩) (@hid _ ⟨
 BinK Tryz.prog .add 3 x5_7 (.int .i64 1) (@hid _ ⟨fun t16_25 w26 =>
 B9 t16_25 w26⟩) w23⟩)⟩)⟩) w21) ∧
 True⟩) w15) ∧
 True⟩)⟩)⟩)⟩)⟩) w13⟩) (@hid _ ⟨
 R (.bool true) w13⟩)⟩) w11⟩) w8⟩)⟩)⟩) w4⟩) w2⟩) w0
def a20 : Ann := (.seq .no (.seq (.seq .no (.cond (.seq .no .no) .no)) (.seq (.seq .no (.block (.loop [5] [(4, 4), (11, 27)] (.seq (.seq .no (.cond .no .no)) (.seq (.block (.seq (.plan (.take 0 (.take 1 (.take 2 (.take 3 (.take 5 (.take 6 (.take 7 (.take 8 (.alt 4 (.alt 9 (.take 10 .done) .nil) .nil)))))))))) (.cond (.seq .no .no) .no))) .no))))) (.seq .no .no))))
theorem F20_eq (x0 x1 : Value) (R : Value → World → Prop) (w0 : World) : F20 x0 x1 R w0 = vc Tryz.prog (bodyOf Tryz.f20) a20 (retQ Tryz.prog Tryz.f20 R) (envOf 0 [x0, x1]) w0 := by kernel_rfl
theorem F20_calls (x0 x1 : Value) (R : Value → World → Prop) (w0 : World) (h : F20 x0 x1 R w0) : CallK Tryz.prog 20 #[x0, x1] R w0 :=
 calls_vc (c := bodyOf Tryz.f20) Tryz.func20 (by kernel_rfl) (by kernel_rfl) a20 (by kernel_rfl) (by kernel_rfl) [x0, x1] (by rw [Tryz.ntmps20]; exact Nat.le_of_ble_eq_true rfl) w0 R ((F20_eq x0 x1 R w0).mp h)

/-- canton/cantonref7.Seal, its body as a formula. -/
def F21 (x0 : Value) (R : Value → World → Prop) (w0 : World) : Prop :=
 CallV Tryz.prog (.func (.func 58) #[] #[]) #[x0] (@hid _ ⟨fun t5_1 w2 =>
 BuildSliceK Tryz.prog 29 0 #[] (@hid _ ⟨fun t6_3 w4 =>
 BuiltinK Tryz.prog .append #[29, 29] 29 #[false, false] #[t6_3, x0] (@hid _ ⟨fun t8_5 w6 =>
 ConvK Tryz.prog 106 5 t5_1 (@hid _ ⟨fun t10_7 w8 =>
 BinK Tryz.prog .shr 106 t5_1 (.int .u64 8) (@hid _ ⟨fun t12_9 w10 =>
 ConvK Tryz.prog 106 5 t12_9 (@hid _ ⟨fun t13_11 w12 =>
 BinK Tryz.prog .shr 106 t5_1 (.int .u64 16) (@hid _ ⟨fun t15_13 w14 =>
 ConvK Tryz.prog 106 5 t15_13 (@hid _ ⟨fun t16_15 w16 =>
 BinK Tryz.prog .shr 106 t5_1 (.int .u64 24) (@hid _ ⟨fun t18_17 w18 =>
 ConvK Tryz.prog 106 5 t18_17 (@hid _ ⟨fun t19_19 w20 =>
 BuildSliceK Tryz.prog 29 4 #[(0, t10_7), (1, t13_11), (2, t16_15), (3, t19_19)] (@hid _ ⟨fun t20_21 w22 =>
 BuiltinK Tryz.prog .append #[29, 29] 29 #[false, false] #[t8_5, t20_21] (@hid _ ⟨fun t21_23 w24 =>
 R t21_23 w24⟩) w22⟩) w20⟩) w18⟩) w16⟩) w14⟩) w12⟩) w10⟩) w8⟩) w6⟩) w4⟩) w2⟩) w0
def a21 : Ann := (.seq .no (.seq .no (.seq .no .no)))
theorem F21_eq (x0 : Value) (R : Value → World → Prop) (w0 : World) : F21 x0 R w0 = vc Tryz.prog (bodyOf Tryz.f21) a21 (retQ Tryz.prog Tryz.f21 R) (envOf 0 [x0]) w0 := by kernel_rfl
theorem F21_calls (x0 : Value) (R : Value → World → Prop) (w0 : World) (h : F21 x0 R w0) : CallK Tryz.prog 21 #[x0] R w0 :=
 calls_vc (c := bodyOf Tryz.f21) Tryz.func21 (by kernel_rfl) (by kernel_rfl) a21 (by kernel_rfl) (by kernel_rfl) [x0] (by rw [Tryz.ntmps21]; exact Nat.le_of_ble_eq_true rfl) w0 R ((F21_eq x0 R w0).mp h)

/-- canton/cantonref7.Decode, its body as a formula. -/
def F22 (x0 : Value) (R : Value → World → Prop) (w0 : World) : Prop :=
 AllocK Tryz.prog 38 (@hid _ ⟨fun t2_1 w2 =>
 CallV Tryz.prog (.func (.func 59) #[] #[]) #[x0] (@hid _ ⟨fun t10_3 w4 =>
 ExtractK Tryz.prog t10_3 0 (@hid _ ⟨fun t11_5 w6 =>
 ExtractK Tryz.prog t10_3 1 (@hid _ ⟨fun t12_7 w8 =>
 BinK Tryz.prog .neq 3 t12_7 (.int .i64 0) (@hid _ ⟨fun t14_9 w10 =>
 BrK t14_9 (@hid _ ⟨
 BuildK Tryz.prog 38 #[] (@hid _ ⟨fun t15_11 w12 =>
 StoreK Tryz.prog 38 t2_1 t15_11 (@hid _ ⟨fun tu_13 w14 =>
 LoadK Tryz.prog 38 t2_1 (@hid _ ⟨fun c15 w16 => w16 = w14 ∧ R (.tuple #[c15, t12_7]) w14⟩) w14⟩) w12⟩) w10⟩) (@hid _ ⟨
 BuildK Tryz.prog 112 #[(0, t11_5)] (@hid _ ⟨fun t18_17 w18 =>
 BoxK Tryz.prog 112 t18_17 (@hid _ ⟨fun t19_19 w20 =>
 CallV Tryz.prog (.func (.func 60) #[] #[]) #[t19_19] (@hid _ ⟨fun t21_21 w22 =>
 AllocK Tryz.prog 38 (@hid _ ⟨fun t7_23 w24 =>
 StoreK Tryz.prog 38 t7_23 t21_21 (@hid _ ⟨fun tu_25 w26 =>
 NilK Tryz.prog t19_19 (@hid _ ⟨fun t24_27 w28 =>
 FieldAtK Tryz.prog 112 t24_27 2 (@hid _ ⟨fun t25_29 w30 =>
 LoadK Tryz.prog 3 t25_29 (@hid _ ⟨fun t26_31 w32 =>
 BinK Tryz.prog .neq 3 t26_31 (.int .i64 0) (@hid _ ⟨fun t27_33 w34 =>
 BrK t27_33 (@hid _ ⟨
 DrawK (@hid _ ⟨fun S35 w36 =>
 TakeO Tryz.prog S35 (nilSem t19_19) (@hid _ ⟨fun t30_37 =>
 TakeS Tryz.prog S35 (Instr.fieldAt 112 t30_37 2) (@hid _ ⟨fun t31_38 =>
 TakeS Tryz.prog S35 (Instr.loadAt 3 t31_38) (@hid _ ⟨fun t32_39 =>
 (BuildK Tryz.prog 38 #[] (@hid _ ⟨fun t28_40 w41 =>
 S35 w41 ∧
 (StoreK Tryz.prog 38 t2_1 t28_40 (@hid _ ⟨fun tu_42 w43 =>
 S35 w43 ∧
 LoadK Tryz.prog 38 t2_1 (@hid _ ⟨fun c44 w45 => w45 = w43 ∧ R (.tuple #[c44, t32_39]) w43⟩) w43⟩) w41) ∧
 True⟩) w36) ∧
 True⟩)⟩)⟩)⟩) w34⟩) (@hid _ ⟨
 CallV Tryz.prog (.func (.func 61) #[] #[]) #[t19_19] (@hid _ ⟨fun t35_46 w47 =>
 BinK Tryz.prog .gtr 3 t35_46 (.int .i64 0) (@hid _ ⟨fun t36_48 w49 =>
 BrK t36_48 (@hid _ ⟨
 BuildK Tryz.prog 38 #[] (@hid _ ⟨fun t37_50 w51 =>
 StoreK Tryz.prog 38 t2_1 t37_50 (@hid _ ⟨fun tu_52 w53 =>
 LoadK Tryz.prog 38 t2_1 (@hid _ ⟨fun c54 w55 => w55 = w53 ∧ R (.tuple #[c54, (.int .i64 2)]) w53⟩) w53⟩) w51⟩) w49⟩) (@hid _ ⟨
 LoadK Tryz.prog 38 t7_23 (@hid _ ⟨fun t38_56 w57 =>
 CallV Tryz.prog (.func (.func 41) #[] #[]) #[t38_56] (@hid _ ⟨fun t39_58 w59 =>
 BinK Tryz.prog .neq 3 t39_58 (.int .i64 0) (@hid _ ⟨fun t41_60 w61 =>
 BrK t41_60 (@hid _ ⟨
 BuildK Tryz.prog 38 #[] (@hid _ ⟨fun t42_62 w63 =>
 StoreK Tryz.prog 38 t2_1 t42_62 (@hid _ ⟨fun tu_64 w65 =>
 LoadK Tryz.prog 38 t2_1 (@hid _ ⟨fun c66 w67 => w67 = w65 ∧ R (.tuple #[c66, t39_58]) w65⟩) w65⟩) w63⟩) w61⟩) (@hid _ ⟨
 LoadK Tryz.prog 38 t7_23 (@hid _ ⟨fun t44_68 w69 =>
 StoreK Tryz.prog 38 t2_1 t44_68 (@hid _ ⟨fun tu_70 w71 =>
 LoadK Tryz.prog 38 t2_1 (@hid _ ⟨fun c72 w73 => w73 = w71 ∧ R (.tuple #[c72, (.int .i64 0)]) w71⟩) w71⟩) w69⟩) w61⟩)⟩) w59⟩) w57⟩) w49⟩)⟩) w47⟩) w34⟩)⟩) w32⟩) w30⟩) w28⟩) w26⟩) w24⟩) w22⟩) w20⟩) w18⟩) w10⟩)⟩) w8⟩) w6⟩) w4⟩) w2⟩) w0
def a22 : Ann := (.seq .no (.seq .no (.seq (.seq .no (.cond (.seq .no .no) .no)) (.seq .no (.seq .no (.seq (.block (.seq .no (.cond (.seq (.plan (.take 1 (.take 2 (.take 3 (.take 4 (.alt 0 (.alt 5 (.take 6 .done) .nil) .nil)))))) .no) (.seq .no (.cond (.seq .no .no) .no))))) (.seq .no (.seq (.seq .no (.cond (.seq .no .no) .no)) (.seq .no .no)))))))))
theorem F22_eq (x0 : Value) (R : Value → World → Prop) (w0 : World) : F22 x0 R w0 = vc Tryz.prog (bodyOf Tryz.f22) a22 (retQ Tryz.prog Tryz.f22 R) (envOf 0 [x0]) w0 := by kernel_rfl
theorem F22_calls (x0 : Value) (R : Value → World → Prop) (w0 : World) (h : F22 x0 R w0) : CallK Tryz.prog 22 #[x0] R w0 :=
 calls_vc (c := bodyOf Tryz.f22) Tryz.func22 (by kernel_rfl) (by kernel_rfl) a22 (by kernel_rfl) (by kernel_rfl) [x0] (by rw [Tryz.ntmps22]; exact Nat.le_of_ble_eq_true rfl) w0 R ((F22_eq x0 R w0).mp h)

/-- canton/cantonref7.Rows, its body as a formula. -/
def F23 (x0 : Value) (R : Value → World → Prop) (w0 : World) : Prop :=
 CallV Tryz.prog (.func (.func 59) #[] #[]) #[x0] (@hid _ ⟨fun t13_1 w2 =>
 ExtractK Tryz.prog t13_1 0 (@hid _ ⟨fun t14_3 w4 =>
 ExtractK Tryz.prog t13_1 1 (@hid _ ⟨fun t15_5 w6 =>
 BinK Tryz.prog .neq 3 t15_5 (.int .i64 0) (@hid _ ⟨fun t17_7 w8 =>
 BrK t17_7 (@hid _ ⟨
 R (.tuple #[(.slice none 0 0), t15_5]) w8⟩) (@hid _ ⟨
 BuildK Tryz.prog 112 #[(0, t14_3)] (@hid _ ⟨fun t20_9 w10 =>
 BoxK Tryz.prog 112 t20_9 (@hid _ ⟨fun t21_11 w12 =>
 CallV Tryz.prog (.func (.func 62) #[] #[]) #[t21_11, (.int .i64 64)] (@hid _ ⟨fun t23_13 w14 =>
 LoopK2 (.slice none 0 0) (.int .i64 0) w14 (@hid _ ⟨fun _ x8_15 x9_16 w17 B18 =>
 BinK Tryz.prog .lss 3 x9_16 t23_13 (@hid _ ⟨fun t26_19 w20 =>
 BrK t26_19 (@hid _ ⟨
 CallV Tryz.prog (.func (.func 60) #[] #[]) #[t21_11] (@hid _ ⟨fun t31_21 w22 =>
 BuildSliceK Tryz.prog 47 1 #[(0, t31_21)] (@hid _ ⟨fun t32_23 w24 =>
 BuiltinK Tryz.prog .append #[47, 47] 47 #[false, false] #[x8_15, t32_23] (@hid _ ⟨fun t33_25 w26 =>
 BinK Tryz.prog .add 3 x9_16 (.int .i64 1) (@hid _ ⟨fun t28_27 w28 =>
 B18 t33_25 t28_27 w28⟩) w26⟩) w24⟩) w22⟩) w20⟩) (@hid _ ⟨
 NilK Tryz.prog t21_11 (@hid _ ⟨fun t36_29 w30 =>
 FieldAtK Tryz.prog 112 t36_29 2 (@hid _ ⟨fun t37_31 w32 =>
 LoadK Tryz.prog 3 t37_31 (@hid _ ⟨fun t38_33 w34 =>
 BinK Tryz.prog .neq 3 t38_33 (.int .i64 0) (@hid _ ⟨fun t39_35 w36 =>
 BrK t39_35 (@hid _ ⟨
 DrawK (@hid _ ⟨fun S37 w38 =>
 TakeO Tryz.prog S37 (nilSem t21_11) (@hid _ ⟨fun t41_39 =>
 TakeS Tryz.prog S37 (Instr.fieldAt 112 t41_39 2) (@hid _ ⟨fun t42_40 =>
 TakeS Tryz.prog S37 (Instr.loadAt 3 t42_40) (@hid _ ⟨fun t43_41 =>
 R (.tuple #[(.slice none 0 0), t43_41]) w38⟩)⟩)⟩)⟩) w36⟩) (@hid _ ⟨
 CallV Tryz.prog (.func (.func 61) #[] #[]) #[t21_11] (@hid _ ⟨fun t46_42 w43 =>
 BinK Tryz.prog .gtr 3 t46_42 (.int .i64 0) (@hid _ ⟨fun t47_44 w45 =>
 BrK t47_44 (@hid _ ⟨
 R (.tuple #[(.slice none 0 0), (.int .i64 2)]) w45⟩) (@hid _ ⟨
 LoopK1 (.int .i64 0) w45 (@hid _ ⟨fun _ x10_46 w47 B48 =>
 BuiltinK Tryz.prog .len #[47] 3 #[false] #[x8_15] (@hid _ ⟨fun t50_49 w50 =>
 BinK Tryz.prog .lss 3 x10_46 t50_49 (@hid _ ⟨fun t51_51 w52 =>
 BrK t51_51 (@hid _ ⟨
 IndexAtK Tryz.prog 47 x8_15 x10_46 (@hid _ ⟨fun t56_53 w54 =>
 LoadK Tryz.prog 38 t56_53 (@hid _ ⟨fun t57_55 w56 =>
 CallV Tryz.prog (.func (.func 41) #[] #[]) #[t57_55] (@hid _ ⟨fun t58_57 w58 =>
 BinK Tryz.prog .neq 3 t58_57 (.int .i64 0) (@hid _ ⟨fun t60_59 w60 =>
 BrK t60_59 (@hid _ ⟨
 R (.tuple #[(.slice none 0 0), t58_57]) w60⟩) (@hid _ ⟨
 BinK Tryz.prog .add 3 x10_46 (.int .i64 1) (@hid _ ⟨fun t53_61 w62 =>
 B48 t53_61 w62⟩) w60⟩)⟩) w58⟩) w56⟩) w54⟩) w52⟩) (@hid _ ⟨
 R (.tuple #[x8_15, (.int .i64 0)]) w52⟩)⟩) w50⟩) w47⟩)⟩)⟩) w43⟩) w36⟩)⟩) w34⟩) w32⟩) w30⟩) w20⟩)⟩) w17⟩)⟩) w12⟩) w10⟩) w8⟩)⟩) w6⟩) w4⟩) w2⟩) w0
def a23 : Ann := (.seq .no (.seq .no (.seq (.seq .no (.cond (.seq .no .no) .no)) (.seq .no (.seq .no (.seq .no (.seq (.seq .no (.block (.loop [8, 9] [(24, 33)] (.seq (.seq .no (.cond .no .no)) (.seq (.block .no) .no))))) (.seq (.block (.seq .no (.cond (.seq (.plan (.take 0 (.take 1 (.take 2 (.take 3 (.take 4 (.take 5 .done))))))) .no) (.seq .no (.cond (.seq .no .no) .no))))) (.seq (.seq .no (.block (.loop [10] [(2, 3), (5, 5), (48, 61)] (.seq (.seq .no (.cond .no .no)) (.seq (.block (.seq .no (.seq .no (.cond (.seq .no .no) .no)))) .no))))) (.seq .no .no))))))))))
theorem F23_eq (x0 : Value) (R : Value → World → Prop) (w0 : World) : F23 x0 R w0 = vc Tryz.prog (bodyOf Tryz.f23) a23 (retQ Tryz.prog Tryz.f23 R) (envOf 0 [x0]) w0 := by kernel_rfl
theorem F23_calls (x0 : Value) (R : Value → World → Prop) (w0 : World) (h : F23 x0 R w0) : CallK Tryz.prog 23 #[x0] R w0 :=
 calls_vc (c := bodyOf Tryz.f23) Tryz.func23 (by kernel_rfl) (by kernel_rfl) a23 (by kernel_rfl) (by kernel_rfl) [x0] (by rw [Tryz.ntmps23]; exact Nat.le_of_ble_eq_true rfl) w0 R ((F23_eq x0 R w0).mp h)

/-- canton/cantonlaw2.Few, its body as a formula. -/
def F24 (x0 : Value) (R : Value → World → Prop) (w0 : World) : Prop :=
 BoxK Tryz.prog 61 x0 (@hid _ ⟨fun t1_1 w2 =>
 FieldAtK Tryz.prog 61 t1_1 2 (@hid _ ⟨fun t3_3 w4 =>
 LoadK Tryz.prog 9 t3_3 (@hid _ ⟨fun t4_5 w6 =>
 BuiltinK Tryz.prog .len #[9] 3 #[false] #[t4_5] (@hid _ ⟨fun t5_7 w8 =>
 BinK Tryz.prog .leq 3 t5_7 (.int .i64 200) (@hid _ ⟨fun t6_9 w10 =>
 GuardK t6_9 true (fun k w => FieldAtK Tryz.prog 61 t1_1 3 k w) (@hid _ ⟨fun t8_11 w12 =>
 GuardK t6_9 true (fun k w => LoadK Tryz.prog 59 t8_11 k w) (@hid _ ⟨fun t9_13 w14 =>
 GuardK t6_9 true (fun k w => BuiltinK Tryz.prog .len #[59] 3 #[false] #[t9_13] k w) (@hid _ ⟨fun t10_15 w16 =>
 GuardK t6_9 true (fun k w => BinK Tryz.prog .leq 3 t10_15 (.int .i64 40) k w) (@hid _ ⟨fun t11_17 w18 =>
 PickK Tryz.prog t6_9 t11_17 (.bool false) (@hid _ ⟨fun t12_19 w20 =>
 R t12_19 w20⟩) w18⟩) w16⟩) w14⟩) w12⟩) w10⟩) w8⟩) w6⟩) w4⟩) w2⟩) w0
def a24 : Ann := (.seq .no (.seq .no .no))
theorem F24_eq (x0 : Value) (R : Value → World → Prop) (w0 : World) : F24 x0 R w0 = vc Tryz.prog (bodyOf Tryz.f24) a24 (retQ Tryz.prog Tryz.f24 R) (envOf 0 [x0]) w0 := by kernel_rfl
theorem F24_calls (x0 : Value) (R : Value → World → Prop) (w0 : World) (h : F24 x0 R w0) : CallK Tryz.prog 24 #[x0] R w0 :=
 calls_vc (c := bodyOf Tryz.f24) Tryz.func24 (by kernel_rfl) (by kernel_rfl) a24 (by kernel_rfl) (by kernel_rfl) [x0] (by rw [Tryz.ntmps24]; exact Nat.le_of_ble_eq_true rfl) w0 R ((F24_eq x0 R w0).mp h)

/-- canton/wire.PutValue, its body as a formula. -/
def F25 (x0 x1 : Value) (R : Value → World → Prop) (w0 : World) : Prop :=
 BoxK Tryz.prog 61 x1 (@hid _ ⟨fun t3_1 w2 =>
 FieldAtK Tryz.prog 61 t3_1 0 (@hid _ ⟨fun t5_3 w4 =>
 LoadK Tryz.prog 3 t5_3 (@hid _ ⟨fun t6_5 w6 =>
 BuildSliceK Tryz.prog 59 1 #[(0, t6_5)] (@hid _ ⟨fun t7_7 w8 =>
 CallV Tryz.prog (.func (.func 63) #[] #[]) #[x0, t7_7] (@hid _ ⟨fun t8_9 w10 =>
 FieldAtK Tryz.prog 61 t3_1 0 (@hid _ ⟨fun t9_11 w12 =>
 LoadK Tryz.prog 3 t9_11 (@hid _ ⟨fun t10_13 w14 =>
 BinK Tryz.prog .eql 3 t10_13 (.int .i64 1) (@hid _ ⟨fun t12_15 w16 =>
 BrK t12_15 (@hid _ ⟨
 FieldAtK Tryz.prog 61 t3_1 1 (@hid _ ⟨fun t14_17 w18 =>
 LoadK Tryz.prog 2 t14_17 (@hid _ ⟨fun t15_19 w20 =>
 BuildSliceK Tryz.prog 59 1 #[(0, t15_19)] (@hid _ ⟨fun t16_21 w22 =>
 CallV Tryz.prog (.func (.func 63) #[] #[]) #[x0, t16_21] (@hid _ ⟨fun t17_23 w24 =>
 R (.tuple #[]) w24⟩) w22⟩) w20⟩) w18⟩) w16⟩) (@hid _ ⟨
 BinK Tryz.prog .eql 3 t10_13 (.int .i64 2) (@hid _ ⟨fun t19_25 w26 =>
 BrK t19_25 (@hid _ ⟨
 FieldAtK Tryz.prog 61 t3_1 2 (@hid _ ⟨fun t21_27 w28 =>
 LoadK Tryz.prog 9 t21_27 (@hid _ ⟨fun t22_29 w30 =>
 BuildSliceK Tryz.prog 150 1 #[(0, t22_29)] (@hid _ ⟨fun t23_31 w32 =>
 CallV Tryz.prog (.func (.func 64) #[] #[]) #[x0, t23_31] (@hid _ ⟨fun t24_33 w34 =>
 R (.tuple #[]) w34⟩) w32⟩) w30⟩) w28⟩) w26⟩) (@hid _ ⟨
 BinK Tryz.prog .eql 3 t10_13 (.int .i64 3) (@hid _ ⟨fun t26_35 w36 =>
 BrK t26_35 (@hid _ ⟨
 FieldAtK Tryz.prog 61 t3_1 3 (@hid _ ⟨fun t28_37 w38 =>
 LoadK Tryz.prog 59 t28_37 (@hid _ ⟨fun t29_39 w40 =>
 CallV Tryz.prog (.func (.func 65) #[] #[]) #[x0, t29_39, (.func (.func 66) #[] #[])] (@hid _ ⟨fun t30_41 w42 =>
 R (.tuple #[]) w42⟩) w40⟩) w38⟩) w36⟩) (@hid _ ⟨
 R (.tuple #[]) w36⟩)⟩) w26⟩)⟩) w16⟩)⟩) w14⟩) w12⟩) w10⟩) w8⟩) w6⟩) w4⟩) w2⟩) w0
def a25 : Ann := (.seq .no (.seq .no (.seq .no (.block (.seq .no (.cond .no (.seq .no (.cond .no (.seq .no (.cond .no .no))))))))))
theorem F25_eq (x0 x1 : Value) (R : Value → World → Prop) (w0 : World) : F25 x0 x1 R w0 = vc Tryz.prog (bodyOf Tryz.f25) a25 (retQ Tryz.prog Tryz.f25 R) (envOf 0 [x0, x1]) w0 := by kernel_rfl
theorem F25_calls (x0 x1 : Value) (R : Value → World → Prop) (w0 : World) (h : F25 x0 x1 R w0) : CallK Tryz.prog 25 #[x0, x1] R w0 :=
 calls_vc (c := bodyOf Tryz.f25) Tryz.func25 (by kernel_rfl) (by kernel_rfl) a25 (by kernel_rfl) (by kernel_rfl) [x0, x1] (by rw [Tryz.ntmps25]; exact Nat.le_of_ble_eq_true rfl) w0 R ((F25_eq x0 x1 R w0).mp h)

/-- canton/wire.PutStamp, its body as a formula. -/
def F26 (x0 x1 : Value) (R : Value → World → Prop) (w0 : World) : Prop :=
 BoxK Tryz.prog 23 x1 (@hid _ ⟨fun t3_1 w2 =>
 FieldAtK Tryz.prog 23 t3_1 0 (@hid _ ⟨fun t5_3 w4 =>
 LoadK Tryz.prog 2 t5_3 (@hid _ ⟨fun t6_5 w6 =>
 FieldAtK Tryz.prog 23 t3_1 1 (@hid _ ⟨fun t7_7 w8 =>
 LoadK Tryz.prog 2 t7_7 (@hid _ ⟨fun t8_9 w10 =>
 FieldAtK Tryz.prog 23 t3_1 2 (@hid _ ⟨fun t9_11 w12 =>
 LoadK Tryz.prog 2 t9_11 (@hid _ ⟨fun t10_13 w14 =>
 BuildSliceK Tryz.prog 59 3 #[(0, t6_5), (1, t8_9), (2, t10_13)] (@hid _ ⟨fun t11_15 w16 =>
 CallV Tryz.prog (.func (.func 63) #[] #[]) #[x0, t11_15] (@hid _ ⟨fun t12_17 w18 =>
 FieldAtK Tryz.prog 23 t3_1 3 (@hid _ ⟨fun t14_19 w20 =>
 LoadK Tryz.prog 9 t14_19 (@hid _ ⟨fun t15_21 w22 =>
 BuildSliceK Tryz.prog 150 1 #[(0, t15_21)] (@hid _ ⟨fun t16_23 w24 =>
 CallV Tryz.prog (.func (.func 64) #[] #[]) #[x0, t16_23] (@hid _ ⟨fun t17_25 w26 =>
 R (.tuple #[]) w26⟩) w24⟩) w22⟩) w20⟩) w18⟩) w16⟩) w14⟩) w12⟩) w10⟩) w8⟩) w6⟩) w4⟩) w2⟩) w0
def a26 : Ann := (.seq .no (.seq .no .no))
theorem F26_eq (x0 x1 : Value) (R : Value → World → Prop) (w0 : World) : F26 x0 x1 R w0 = vc Tryz.prog (bodyOf Tryz.f26) a26 (retQ Tryz.prog Tryz.f26 R) (envOf 0 [x0, x1]) w0 := by kernel_rfl
theorem F26_calls (x0 x1 : Value) (R : Value → World → Prop) (w0 : World) (h : F26 x0 x1 R w0) : CallK Tryz.prog 26 #[x0, x1] R w0 :=
 calls_vc (c := bodyOf Tryz.f26) Tryz.func26 (by kernel_rfl) (by kernel_rfl) a26 (by kernel_rfl) (by kernel_rfl) [x0, x1] (by rw [Tryz.ntmps26]; exact Nat.le_of_ble_eq_true rfl) w0 R ((F26_eq x0 x1 R w0).mp h)

/-- canton/wire.PutRow, its body as a formula. -/
def F27 (x0 x1 : Value) (R : Value → World → Prop) (w0 : World) : Prop :=
 BoxK Tryz.prog 26 x1 (@hid _ ⟨fun t3_1 w2 =>
 FieldAtK Tryz.prog 26 t3_1 0 (@hid _ ⟨fun t5_3 w4 =>
 LoadK Tryz.prog 9 t5_3 (@hid _ ⟨fun t6_5 w6 =>
 BuildSliceK Tryz.prog 150 1 #[(0, t6_5)] (@hid _ ⟨fun t7_7 w8 =>
 CallV Tryz.prog (.func (.func 64) #[] #[]) #[x0, t7_7] (@hid _ ⟨fun t8_9 w10 =>
 FieldAtK Tryz.prog 26 t3_1 1 (@hid _ ⟨fun t10_11 w12 =>
 LoadK Tryz.prog 23 t10_11 (@hid _ ⟨fun t11_13 w14 =>
 CallV Tryz.prog (.func (.func 26) #[] #[]) #[x0, t11_13] (@hid _ ⟨fun t12_15 w16 =>
 FieldAtK Tryz.prog 26 t3_1 2 (@hid _ ⟨fun t14_17 w18 =>
 LoadK Tryz.prog 24 t14_17 (@hid _ ⟨fun t15_19 w20 =>
 CallV Tryz.prog (.func (.func 67) #[] #[]) #[x0, t15_19, (.func (.func 68) #[] #[])] (@hid _ ⟨fun t16_21 w22 =>
 R (.tuple #[]) w22⟩) w20⟩) w18⟩) w16⟩) w14⟩) w12⟩) w10⟩) w8⟩) w6⟩) w4⟩) w2⟩) w0
def a27 : Ann := (.seq .no (.seq .no (.seq .no .no)))
theorem F27_eq (x0 x1 : Value) (R : Value → World → Prop) (w0 : World) : F27 x0 x1 R w0 = vc Tryz.prog (bodyOf Tryz.f27) a27 (retQ Tryz.prog Tryz.f27 R) (envOf 0 [x0, x1]) w0 := by kernel_rfl
theorem F27_calls (x0 x1 : Value) (R : Value → World → Prop) (w0 : World) (h : F27 x0 x1 R w0) : CallK Tryz.prog 27 #[x0, x1] R w0 :=
 calls_vc (c := bodyOf Tryz.f27) Tryz.func27 (by kernel_rfl) (by kernel_rfl) a27 (by kernel_rfl) (by kernel_rfl) [x0, x1] (by rw [Tryz.ntmps27]; exact Nat.le_of_ble_eq_true rfl) w0 R ((F27_eq x0 x1 R w0).mp h)

/-- canton/cantonref7.PutValue, its body as a formula. -/
def F28 (x0 : Value) (R : Value → World → Prop) (w0 : World) : Prop :=
 BoxK Tryz.prog 72 x0 (@hid _ ⟨fun t1_1 w2 =>
 FieldAtK Tryz.prog 72 t1_1 0 (@hid _ ⟨fun t5_3 w4 =>
 LoadK Tryz.prog 3 t5_3 (@hid _ ⟨fun t6_5 w6 =>
 CallV Tryz.prog (.func (.func 54) #[] #[]) #[t6_5] (@hid _ ⟨fun t7_7 w8 =>
 FieldAtK Tryz.prog 72 t1_1 0 (@hid _ ⟨fun t8_9 w10 =>
 LoadK Tryz.prog 3 t8_9 (@hid _ ⟨fun t9_11 w12 =>
 BinK Tryz.prog .eql 3 t9_11 (.int .i64 1) (@hid _ ⟨fun t11_13 w14 =>
 BrK t11_13 (@hid _ ⟨
 FieldAtK Tryz.prog 72 t1_1 1 (@hid _ ⟨fun t13_15 w16 =>
 LoadK Tryz.prog 2 t13_15 (@hid _ ⟨fun t14_17 w18 =>
 CallV Tryz.prog (.func (.func 54) #[] #[]) #[t14_17] (@hid _ ⟨fun t15_19 w20 =>
 BuiltinK Tryz.prog .append #[29, 29] 29 #[false, false] #[t7_7, t15_19] (@hid _ ⟨fun t16_21 w22 =>
 R t16_21 w22⟩) w20⟩) w18⟩) w16⟩) w14⟩) (@hid _ ⟨
 BinK Tryz.prog .eql 3 t9_11 (.int .i64 2) (@hid _ ⟨fun t18_23 w24 =>
 BrK t18_23 (@hid _ ⟨
 FieldAtK Tryz.prog 72 t1_1 2 (@hid _ ⟨fun t20_25 w26 =>
 LoadK Tryz.prog 9 t20_25 (@hid _ ⟨fun t21_27 w28 =>
 CallV Tryz.prog (.func (.func 69) #[] #[]) #[t21_27] (@hid _ ⟨fun t22_29 w30 =>
 BuiltinK Tryz.prog .append #[29, 29] 29 #[false, false] #[t7_7, t22_29] (@hid _ ⟨fun t23_31 w32 =>
 R t23_31 w32⟩) w30⟩) w28⟩) w26⟩) w24⟩) (@hid _ ⟨
 BinK Tryz.prog .eql 3 t9_11 (.int .i64 3) (@hid _ ⟨fun t25_33 w34 =>
 BrK t25_33 (@hid _ ⟨
 FieldAtK Tryz.prog 72 t1_1 3 (@hid _ ⟨fun t27_35 w36 =>
 LoadK Tryz.prog 59 t27_35 (@hid _ ⟨fun t28_37 w38 =>
 BuiltinK Tryz.prog .len #[59] 3 #[false] #[t28_37] (@hid _ ⟨fun t29_39 w40 =>
 CallV Tryz.prog (.func (.func 54) #[] #[]) #[t29_39] (@hid _ ⟨fun t30_41 w42 =>
 BuiltinK Tryz.prog .append #[29, 29] 29 #[false, false] #[t7_7, t30_41] (@hid _ ⟨fun t31_43 w44 =>
 LoopK2 t31_43 (.int .i64 0) w44 (@hid _ ⟨fun _ x3_45 x4_46 w47 B48 =>
 FieldAtK Tryz.prog 72 t1_1 3 (@hid _ ⟨fun t33_49 w50 =>
 LoadK Tryz.prog 59 t33_49 (@hid _ ⟨fun t34_51 w52 =>
 BuiltinK Tryz.prog .len #[59] 3 #[false] #[t34_51] (@hid _ ⟨fun t35_53 w54 =>
 BinK Tryz.prog .lss 3 x4_46 t35_53 (@hid _ ⟨fun t36_55 w56 =>
 BrK t36_55 (@hid _ ⟨
 FieldAtK Tryz.prog 72 t1_1 3 (@hid _ ⟨fun t40_57 w58 =>
 LoadK Tryz.prog 59 t40_57 (@hid _ ⟨fun t41_59 w60 =>
 IndexAtK Tryz.prog 59 t41_59 x4_46 (@hid _ ⟨fun t43_61 w62 =>
 LoadK Tryz.prog 2 t43_61 (@hid _ ⟨fun t44_63 w64 =>
 CallV Tryz.prog (.func (.func 54) #[] #[]) #[t44_63] (@hid _ ⟨fun t45_65 w66 =>
 BuiltinK Tryz.prog .append #[29, 29] 29 #[false, false] #[x3_45, t45_65] (@hid _ ⟨fun t46_67 w68 =>
 BinK Tryz.prog .add 3 x4_46 (.int .i64 1) (@hid _ ⟨fun t38_69 w70 =>
 B48 t46_67 t38_69 w70⟩) w68⟩) w66⟩) w64⟩) w62⟩) w60⟩) w58⟩) w56⟩) (@hid _ ⟨
 R x3_45 w56⟩)⟩) w54⟩) w52⟩) w50⟩) w47⟩)⟩) w42⟩) w40⟩) w38⟩) w36⟩) w34⟩) (@hid _ ⟨
 R t7_7 w34⟩)⟩) w24⟩)⟩) w14⟩)⟩) w12⟩) w10⟩) w8⟩) w6⟩) w4⟩) w2⟩) w0
def a28 : Ann := (.seq .no (.seq .no (.seq (.seq .no (.block (.seq .no (.cond .no (.seq .no (.cond .no (.seq .no (.cond (.seq .no (.seq .no (.block (.loop [3, 4] [(32, 46)] (.seq (.seq .no (.cond .no .no)) (.seq (.block .no) .no)))))) .no)))))))) (.seq .no .no))))
theorem F28_eq (x0 : Value) (R : Value → World → Prop) (w0 : World) : F28 x0 R w0 = vc Tryz.prog (bodyOf Tryz.f28) a28 (retQ Tryz.prog Tryz.f28 R) (envOf 0 [x0]) w0 := by kernel_rfl
theorem F28_calls (x0 : Value) (R : Value → World → Prop) (w0 : World) (h : F28 x0 R w0) : CallK Tryz.prog 28 #[x0] R w0 :=
 calls_vc (c := bodyOf Tryz.f28) Tryz.func28 (by kernel_rfl) (by kernel_rfl) a28 (by kernel_rfl) (by kernel_rfl) [x0] (by rw [Tryz.ntmps28]; exact Nat.le_of_ble_eq_true rfl) w0 R ((F28_eq x0 R w0).mp h)

/-- canton/cantonlaw2.Of, its body as a formula. -/
def F29 (x0 : Value) (R : Value → World → Prop) (w0 : World) : Prop :=
 BoxK Tryz.prog 61 x0 (@hid _ ⟨fun t1_1 w2 =>
 AllocK Tryz.prog 72 (@hid _ ⟨fun t2_3 w4 =>
 FieldAtK Tryz.prog 61 t1_1 0 (@hid _ ⟨fun t3_5 w6 =>
 LoadK Tryz.prog 3 t3_5 (@hid _ ⟨fun t4_7 w8 =>
 FieldAtK Tryz.prog 61 t1_1 1 (@hid _ ⟨fun t5_9 w10 =>
 LoadK Tryz.prog 2 t5_9 (@hid _ ⟨fun t6_11 w12 =>
 FieldAtK Tryz.prog 61 t1_1 2 (@hid _ ⟨fun t7_13 w14 =>
 LoadK Tryz.prog 9 t7_13 (@hid _ ⟨fun t8_15 w16 =>
 FieldAtK Tryz.prog 61 t1_1 3 (@hid _ ⟨fun t9_17 w18 =>
 LoadK Tryz.prog 59 t9_17 (@hid _ ⟨fun t10_19 w20 =>
 BuildK Tryz.prog 72 #[(0, t4_7), (1, t6_11), (2, t8_15), (3, t10_19)] (@hid _ ⟨fun t11_21 w22 =>
 StoreK Tryz.prog 72 t2_3 t11_21 (@hid _ ⟨fun tu_23 w24 =>
 LoadK Tryz.prog 72 t2_3 (@hid _ ⟨fun c25 w26 => w26 = w24 ∧ R c25 w24⟩) w24⟩) w22⟩) w20⟩) w18⟩) w16⟩) w14⟩) w12⟩) w10⟩) w8⟩) w6⟩) w4⟩) w2⟩) w0
def a29 : Ann := (.seq .no (.seq .no .no))
theorem F29_eq (x0 : Value) (R : Value → World → Prop) (w0 : World) : F29 x0 R w0 = vc Tryz.prog (bodyOf Tryz.f29) a29 (retQ Tryz.prog Tryz.f29 R) (envOf 0 [x0]) w0 := by kernel_rfl
theorem F29_calls (x0 : Value) (R : Value → World → Prop) (w0 : World) (h : F29 x0 R w0) : CallK Tryz.prog 29 #[x0] R w0 :=
 calls_vc (c := bodyOf Tryz.f29) Tryz.func29 (by kernel_rfl) (by kernel_rfl) a29 (by kernel_rfl) (by kernel_rfl) [x0] (by rw [Tryz.ntmps29]; exact Nat.le_of_ble_eq_true rfl) w0 R ((F29_eq x0 R w0).mp h)

/-- canton/cantonref7.PutStamp, its body as a formula. -/
def F30 (x0 : Value) (R : Value → World → Prop) (w0 : World) : Prop :=
 BoxK Tryz.prog 35 x0 (@hid _ ⟨fun t1_1 w2 =>
 DrawK (@hid _ ⟨fun S3 w4 =>
 TakeS Tryz.prog S3 (Instr.fieldAt 35 t1_1 0) (@hid _ ⟨fun t4_5 =>
 TakeS Tryz.prog S3 (Instr.loadAt 2 t4_5) (@hid _ ⟨fun t5_6 =>
 TakeS Tryz.prog S3 (Instr.fieldAt 35 t1_1 1) (@hid _ ⟨fun t7_7 =>
 TakeS Tryz.prog S3 (Instr.loadAt 2 t7_7) (@hid _ ⟨fun t8_8 =>
 (CallV Tryz.prog (.func (.func 54) #[] #[]) #[t5_6] (@hid _ ⟨fun t6_9 w10 =>
 S3 w10 ∧
 (CallV Tryz.prog (.func (.func 54) #[] #[]) #[t8_8] (@hid _ ⟨fun t9_11 w12 =>
 S3 w12 ∧
 (BuiltinK Tryz.prog .append #[29, 29] 29 #[false, false] #[t6_9, t9_11] (@hid _ ⟨fun t10_13 w14 =>
 S3 w14 ∧
 FieldAtK Tryz.prog 35 t1_1 2 (@hid _ ⟨fun t12_15 w16 =>
 LoadK Tryz.prog 2 t12_15 (@hid _ ⟨fun t13_17 w18 =>
 CallV Tryz.prog (.func (.func 54) #[] #[]) #[t13_17] (@hid _ ⟨fun t14_19 w20 =>
 BuiltinK Tryz.prog .append #[29, 29] 29 #[false, false] #[t10_13, t14_19] (@hid _ ⟨fun t15_21 w22 =>
 FieldAtK Tryz.prog 35 t1_1 3 (@hid _ ⟨fun t17_23 w24 =>
 LoadK Tryz.prog 9 t17_23 (@hid _ ⟨fun t18_25 w26 =>
 CallV Tryz.prog (.func (.func 69) #[] #[]) #[t18_25] (@hid _ ⟨fun t19_27 w28 =>
 BuiltinK Tryz.prog .append #[29, 29] 29 #[false, false] #[t15_21, t19_27] (@hid _ ⟨fun t20_29 w30 =>
 R t20_29 w30⟩) w28⟩) w26⟩) w24⟩) w22⟩) w20⟩) w18⟩) w16⟩) w14⟩) w12) ∧
 True⟩) w10) ∧
 True⟩) w4) ∧
 True⟩)⟩)⟩)⟩)⟩) w2⟩) w0
def a30 : Ann := (.seq .no (.seq (.plan (.take 0 (.take 1 (.take 3 (.take 4 (.alt 2 (.alt 5 (.alt 6 (.take 7 .done) .nil) .nil) .nil)))))) (.seq .no (.seq .no .no))))
theorem F30_eq (x0 : Value) (R : Value → World → Prop) (w0 : World) : F30 x0 R w0 = vc Tryz.prog (bodyOf Tryz.f30) a30 (retQ Tryz.prog Tryz.f30 R) (envOf 0 [x0]) w0 := by kernel_rfl
theorem F30_calls (x0 : Value) (R : Value → World → Prop) (w0 : World) (h : F30 x0 R w0) : CallK Tryz.prog 30 #[x0] R w0 :=
 calls_vc (c := bodyOf Tryz.f30) Tryz.func30 (by kernel_rfl) (by kernel_rfl) a30 (by kernel_rfl) (by kernel_rfl) [x0] (by rw [Tryz.ntmps30]; exact Nat.le_of_ble_eq_true rfl) w0 R ((F30_eq x0 R w0).mp h)

/-- canton/cantonlaw3.Of, its body as a formula. -/
def F31 (x0 : Value) (R : Value → World → Prop) (w0 : World) : Prop :=
 BoxK Tryz.prog 23 x0 (@hid _ ⟨fun t1_1 w2 =>
 AllocK Tryz.prog 35 (@hid _ ⟨fun t2_3 w4 =>
 FieldAtK Tryz.prog 23 t1_1 0 (@hid _ ⟨fun t3_5 w6 =>
 LoadK Tryz.prog 2 t3_5 (@hid _ ⟨fun t4_7 w8 =>
 FieldAtK Tryz.prog 23 t1_1 1 (@hid _ ⟨fun t5_9 w10 =>
 LoadK Tryz.prog 2 t5_9 (@hid _ ⟨fun t6_11 w12 =>
 FieldAtK Tryz.prog 23 t1_1 2 (@hid _ ⟨fun t7_13 w14 =>
 LoadK Tryz.prog 2 t7_13 (@hid _ ⟨fun t8_15 w16 =>
 FieldAtK Tryz.prog 23 t1_1 3 (@hid _ ⟨fun t9_17 w18 =>
 LoadK Tryz.prog 9 t9_17 (@hid _ ⟨fun t10_19 w20 =>
 BuildK Tryz.prog 35 #[(0, t4_7), (1, t6_11), (2, t8_15), (3, t10_19)] (@hid _ ⟨fun t11_21 w22 =>
 StoreK Tryz.prog 35 t2_3 t11_21 (@hid _ ⟨fun tu_23 w24 =>
 LoadK Tryz.prog 35 t2_3 (@hid _ ⟨fun c25 w26 => w26 = w24 ∧ R c25 w24⟩) w24⟩) w22⟩) w20⟩) w18⟩) w16⟩) w14⟩) w12⟩) w10⟩) w8⟩) w6⟩) w4⟩) w2⟩) w0
def a31 : Ann := (.seq .no (.seq .no .no))
theorem F31_eq (x0 : Value) (R : Value → World → Prop) (w0 : World) : F31 x0 R w0 = vc Tryz.prog (bodyOf Tryz.f31) a31 (retQ Tryz.prog Tryz.f31 R) (envOf 0 [x0]) w0 := by kernel_rfl
theorem F31_calls (x0 : Value) (R : Value → World → Prop) (w0 : World) (h : F31 x0 R w0) : CallK Tryz.prog 31 #[x0] R w0 :=
 calls_vc (c := bodyOf Tryz.f31) Tryz.func31 (by kernel_rfl) (by kernel_rfl) a31 (by kernel_rfl) (by kernel_rfl) [x0] (by rw [Tryz.ntmps31]; exact Nat.le_of_ble_eq_true rfl) w0 R ((F31_eq x0 R w0).mp h)

/-- canton/cantonref7.PutRow, its body as a formula. -/
def F32 (x0 : Value) (R : Value → World → Prop) (w0 : World) : Prop :=
 BoxK Tryz.prog 38 x0 (@hid _ ⟨fun t1_1 w2 =>
 DrawK (@hid _ ⟨fun S3 w4 =>
 TakeS Tryz.prog S3 (Instr.fieldAt 38 t1_1 0) (@hid _ ⟨fun t5_5 =>
 TakeS Tryz.prog S3 (Instr.loadAt 9 t5_5) (@hid _ ⟨fun t6_6 =>
 TakeS Tryz.prog S3 (Instr.fieldAt 38 t1_1 1) (@hid _ ⟨fun t8_7 =>
 TakeS Tryz.prog S3 (Instr.loadAt 35 t8_7) (@hid _ ⟨fun t9_8 =>
 (CallV Tryz.prog (.func (.func 69) #[] #[]) #[t6_6] (@hid _ ⟨fun t7_9 w10 =>
 S3 w10 ∧
 (CallV Tryz.prog (.func (.func 30) #[] #[]) #[t9_8] (@hid _ ⟨fun t10_11 w12 =>
 S3 w12 ∧
 (BuiltinK Tryz.prog .append #[29, 29] 29 #[false, false] #[t7_9, t10_11] (@hid _ ⟨fun t11_13 w14 =>
 S3 w14 ∧
 FieldAtK Tryz.prog 38 t1_1 2 (@hid _ ⟨fun t13_15 w16 =>
 LoadK Tryz.prog 36 t13_15 (@hid _ ⟨fun t14_17 w18 =>
 BuiltinK Tryz.prog .len #[36] 3 #[false] #[t14_17] (@hid _ ⟨fun t15_19 w20 =>
 CallV Tryz.prog (.func (.func 54) #[] #[]) #[t15_19] (@hid _ ⟨fun t16_21 w22 =>
 BuiltinK Tryz.prog .append #[29, 29] 29 #[false, false] #[t11_13, t16_21] (@hid _ ⟨fun t17_23 w24 =>
 LoopK2 t17_23 (.int .i64 0) w24 (@hid _ ⟨fun _ x3_25 x4_26 w27 B28 =>
 FieldAtK Tryz.prog 38 t1_1 2 (@hid _ ⟨fun t19_29 w30 =>
 LoadK Tryz.prog 36 t19_29 (@hid _ ⟨fun t20_31 w32 =>
 BuiltinK Tryz.prog .len #[36] 3 #[false] #[t20_31] (@hid _ ⟨fun t21_33 w34 =>
 BinK Tryz.prog .lss 3 x4_26 t21_33 (@hid _ ⟨fun t22_35 w36 =>
 BrK t22_35 (@hid _ ⟨
 FieldAtK Tryz.prog 38 t1_1 2 (@hid _ ⟨fun t26_37 w38 =>
 LoadK Tryz.prog 36 t26_37 (@hid _ ⟨fun t27_39 w40 =>
 IndexAtK Tryz.prog 36 t27_39 x4_26 (@hid _ ⟨fun t29_41 w42 =>
 FieldAtK Tryz.prog 123 t29_41 0 (@hid _ ⟨fun t30_43 w44 =>
 LoadK Tryz.prog 9 t30_43 (@hid _ ⟨fun t31_45 w46 =>
 CallV Tryz.prog (.func (.func 69) #[] #[]) #[t31_45] (@hid _ ⟨fun t32_47 w48 =>
 BuiltinK Tryz.prog .append #[29, 29] 29 #[false, false] #[x3_25, t32_47] (@hid _ ⟨fun t33_49 w50 =>
 FieldAtK Tryz.prog 38 t1_1 2 (@hid _ ⟨fun t35_51 w52 =>
 LoadK Tryz.prog 36 t35_51 (@hid _ ⟨fun t36_53 w54 =>
 IndexAtK Tryz.prog 36 t36_53 x4_26 (@hid _ ⟨fun t38_55 w56 =>
 FieldAtK Tryz.prog 123 t38_55 1 (@hid _ ⟨fun t39_57 w58 =>
 LoadK Tryz.prog 72 t39_57 (@hid _ ⟨fun t40_59 w60 =>
 CallV Tryz.prog (.func (.func 28) #[] #[]) #[t40_59] (@hid _ ⟨fun t41_61 w62 =>
 BuiltinK Tryz.prog .append #[29, 29] 29 #[false, false] #[t33_49, t41_61] (@hid _ ⟨fun t42_63 w64 =>
 BinK Tryz.prog .add 3 x4_26 (.int .i64 1) (@hid _ ⟨fun t24_65 w66 =>
 B28 t42_63 t24_65 w66⟩) w64⟩) w62⟩) w60⟩) w58⟩) w56⟩) w54⟩) w52⟩) w50⟩) w48⟩) w46⟩) w44⟩) w42⟩) w40⟩) w38⟩) w36⟩) (@hid _ ⟨
 R x3_25 w36⟩)⟩) w34⟩) w32⟩) w30⟩) w27⟩)⟩) w22⟩) w20⟩) w18⟩) w16⟩) w14⟩) w12) ∧
 True⟩) w10) ∧
 True⟩) w4) ∧
 True⟩)⟩)⟩)⟩)⟩) w2⟩) w0
def a32 : Ann := (.seq .no (.seq (.plan (.take 0 (.take 1 (.take 3 (.take 4 (.alt 2 (.alt 5 (.alt 6 (.take 7 .done) .nil) .nil) .nil)))))) (.seq .no (.seq (.seq .no (.block (.loop [3, 4] [(18, 42)] (.seq (.seq .no (.cond .no .no)) (.seq (.block (.seq .no .no)) .no))))) (.seq .no .no)))))
theorem F32_eq (x0 : Value) (R : Value → World → Prop) (w0 : World) : F32 x0 R w0 = vc Tryz.prog (bodyOf Tryz.f32) a32 (retQ Tryz.prog Tryz.f32 R) (envOf 0 [x0]) w0 := by kernel_rfl
theorem F32_calls (x0 : Value) (R : Value → World → Prop) (w0 : World) (h : F32 x0 R w0) : CallK Tryz.prog 32 #[x0] R w0 :=
 calls_vc (c := bodyOf Tryz.f32) Tryz.func32 (by kernel_rfl) (by kernel_rfl) a32 (by kernel_rfl) (by kernel_rfl) [x0] (by rw [Tryz.ntmps32]; exact Nat.le_of_ble_eq_true rfl) w0 R ((F32_eq x0 R w0).mp h)

/-- (*canton/codec.Enc).Bytes, its body as a formula. -/
def F33 (x0 : Value) (R : Value → World → Prop) (w0 : World) : Prop :=
 NilK Tryz.prog x0 (@hid _ ⟨fun t4_1 w2 =>
 FieldAtK Tryz.prog 67 t4_1 0 (@hid _ ⟨fun t5_3 w4 =>
 LoadK Tryz.prog 29 t5_3 (@hid _ ⟨fun t6_5 w6 =>
 CallV Tryz.prog (.func (.func 71) #[] #[]) #[t6_5] (@hid _ ⟨fun t7_7 w8 =>
 CallV Tryz.prog (.func (.func 70) #[] #[]) #[t7_7] (@hid _ ⟨fun t8_9 w10 =>
 R t8_9 w10⟩) w8⟩) w6⟩) w4⟩) w2⟩) w0
def a33 : Ann := (.seq .no (.seq .no .no))
theorem F33_eq (x0 : Value) (R : Value → World → Prop) (w0 : World) : F33 x0 R w0 = vc Tryz.prog (bodyOf Tryz.f33) a33 (retQ Tryz.prog Tryz.f33 R) (envOf 0 [x0]) w0 := by kernel_rfl
theorem F33_calls (x0 : Value) (R : Value → World → Prop) (w0 : World) (h : F33 x0 R w0) : CallK Tryz.prog 33 #[x0] R w0 :=
 calls_vc (c := bodyOf Tryz.f33) Tryz.func33 (by kernel_rfl) (by kernel_rfl) a33 (by kernel_rfl) (by kernel_rfl) [x0] (by rw [Tryz.ntmps33]; exact Nat.le_of_ble_eq_true rfl) w0 R ((F33_eq x0 R w0).mp h)

/-- canton/codec.Of, its body as a formula. -/
def F34 (x0 : Value) (R : Value → World → Prop) (w0 : World) : Prop :=
 CallV Tryz.prog (.func (.func 71) #[] #[]) #[x0] (@hid _ ⟨fun t4_1 w2 =>
 BuildK Tryz.prog 125 #[(0, t4_1)] (@hid _ ⟨fun t5_3 w4 =>
 BoxK Tryz.prog 125 t5_3 (@hid _ ⟨fun t6_5 w6 =>
 R t6_5 w6⟩) w4⟩) w2⟩) w0
def a34 : Ann := (.seq .no (.seq .no .no))
theorem F34_eq (x0 : Value) (R : Value → World → Prop) (w0 : World) : F34 x0 R w0 = vc Tryz.prog (bodyOf Tryz.f34) a34 (retQ Tryz.prog Tryz.f34 R) (envOf 0 [x0]) w0 := by kernel_rfl
theorem F34_calls (x0 : Value) (R : Value → World → Prop) (w0 : World) (h : F34 x0 R w0) : CallK Tryz.prog 34 #[x0] R w0 :=
 calls_vc (c := bodyOf Tryz.f34) Tryz.func34 (by kernel_rfl) (by kernel_rfl) a34 (by kernel_rfl) (by kernel_rfl) [x0] (by rw [Tryz.ntmps34]; exact Nat.le_of_ble_eq_true rfl) w0 R ((F34_eq x0 R w0).mp h)

/-- canton/wire.TakeValue, its body as a formula. -/
def F35 (x0 : Value) (R : Value → World → Prop) (w0 : World) : Prop :=
 AllocK Tryz.prog 61 (@hid _ ⟨fun t2_1 w2 =>
 CallV Tryz.prog (.func (.func 72) #[] #[]) #[x0] (@hid _ ⟨fun t5_3 w4 =>
 BuildK Tryz.prog 61 #[(0, t5_3)] (@hid _ ⟨fun t6_5 w6 =>
 AllocK Tryz.prog 61 (@hid _ ⟨fun t3_7 w8 =>
 StoreK Tryz.prog 61 t3_7 t6_5 (@hid _ ⟨fun tu_9 w10 =>
 CutK0 (@hid _ ⟨fun R11 =>
 FieldAtK Tryz.prog 61 t3_7 0 (@hid _ ⟨fun t7_13 w14 =>
 LoadK Tryz.prog 3 t7_13 (@hid _ ⟨fun t8_15 w16 =>
 BinK Tryz.prog .eql 3 t8_15 (.int .i64 1) (@hid _ ⟨fun t10_17 w18 =>
 BrK t10_17 (@hid _ ⟨
 CallV Tryz.prog (.func (.func 72) #[] #[]) #[x0] (@hid _ ⟨fun t12_19 w20 =>
 FieldAtK Tryz.prog 61 t3_7 1 (@hid _ ⟨fun t13_21 w22 =>
 StoreK Tryz.prog 2 t13_21 t12_19 (@hid _ ⟨fun tu_23 w24 =>
 R11 w24⟩) w22⟩) w20⟩) w18⟩) (@hid _ ⟨
 BinK Tryz.prog .eql 3 t8_15 (.int .i64 2) (@hid _ ⟨fun t15_25 w26 =>
 BrK t15_25 (@hid _ ⟨
 CallV Tryz.prog (.func (.func 73) #[] #[]) #[x0] (@hid _ ⟨fun t17_27 w28 =>
 FieldAtK Tryz.prog 61 t3_7 2 (@hid _ ⟨fun t18_29 w30 =>
 StoreK Tryz.prog 9 t18_29 t17_27 (@hid _ ⟨fun tu_31 w32 =>
 R11 w32⟩) w30⟩) w28⟩) w26⟩) (@hid _ ⟨
 BinK Tryz.prog .eql 3 t8_15 (.int .i64 3) (@hid _ ⟨fun t20_33 w34 =>
 BrK t20_33 (@hid _ ⟨
 CallV Tryz.prog (.func (.func 74) #[] #[]) #[x0, (.int .i64 16), (.func (.func 72) #[] #[])] (@hid _ ⟨fun t22_35 w36 =>
 FieldAtK Tryz.prog 61 t3_7 3 (@hid _ ⟨fun t23_37 w38 =>
 StoreK Tryz.prog 59 t23_37 t22_35 (@hid _ ⟨fun tu_39 w40 =>
 R11 w40⟩) w38⟩) w36⟩) w34⟩) (@hid _ ⟨
 R11 w34⟩)⟩) w26⟩)⟩) w18⟩)⟩) w16⟩) w14⟩) w10⟩)
 (@hid _ ⟨fun _ w12 =>
 LoadK Tryz.prog 61 t3_7 (@hid _ ⟨fun t25_41 w42 =>
 CallV Tryz.prog (.func (.func 75) #[] #[]) #[x0, t25_41] (@hid _ ⟨fun t26_43 w44 =>
 StoreK Tryz.prog 61 t2_1 t26_43 (@hid _ ⟨fun tu_45 w46 =>
 LoadK Tryz.prog 61 t2_1 (@hid _ ⟨fun c47 w48 => w48 = w46 ∧ R c47 w46⟩) w46⟩) w44⟩) w42⟩) w12⟩)⟩) w8⟩) w6⟩) w4⟩) w2⟩) w0
def a35 : Ann := (.seq .no (.seq .no (.cut [] [(7, 23)] (.seq .no (.block (.seq .no (.cond .no (.seq .no (.cond .no (.seq .no (.cond .no .no)))))))) (.seq .no .no))))
theorem F35_eq (x0 : Value) (R : Value → World → Prop) (w0 : World) : F35 x0 R w0 = vc Tryz.prog (bodyOf Tryz.f35) a35 (retQ Tryz.prog Tryz.f35 R) (envOf 0 [x0]) w0 := by kernel_rfl
theorem F35_calls (x0 : Value) (R : Value → World → Prop) (w0 : World) (h : F35 x0 R w0) : CallK Tryz.prog 35 #[x0] R w0 :=
 calls_vc (c := bodyOf Tryz.f35) Tryz.func35 (by kernel_rfl) (by kernel_rfl) a35 (by kernel_rfl) (by kernel_rfl) [x0] (by rw [Tryz.ntmps35]; exact Nat.le_of_ble_eq_true rfl) w0 R ((F35_eq x0 R w0).mp h)

/-- canton/wire.TakeStamp, its body as a formula. -/
def F36 (x0 : Value) (R : Value → World → Prop) (w0 : World) : Prop :=
 AllocK Tryz.prog 23 (@hid _ ⟨fun t2_1 w2 =>
 CallV Tryz.prog (.func (.func 72) #[] #[]) #[x0] (@hid _ ⟨fun t5_3 w4 =>
 CallV Tryz.prog (.func (.func 72) #[] #[]) #[x0] (@hid _ ⟨fun t7_5 w6 =>
 CallV Tryz.prog (.func (.func 72) #[] #[]) #[x0] (@hid _ ⟨fun t9_7 w8 =>
 CallV Tryz.prog (.func (.func 73) #[] #[]) #[x0] (@hid _ ⟨fun t11_9 w10 =>
 BuildK Tryz.prog 23 #[(0, t5_3), (1, t7_5), (2, t9_7), (3, t11_9)] (@hid _ ⟨fun t12_11 w12 =>
 CallV Tryz.prog (.func (.func 76) #[] #[]) #[x0, t12_11] (@hid _ ⟨fun t13_13 w14 =>
 StoreK Tryz.prog 23 t2_1 t13_13 (@hid _ ⟨fun tu_15 w16 =>
 LoadK Tryz.prog 23 t2_1 (@hid _ ⟨fun c17 w18 => w18 = w16 ∧ R c17 w16⟩) w16⟩) w14⟩) w12⟩) w10⟩) w8⟩) w6⟩) w4⟩) w2⟩) w0
def a36 : Ann := (.seq .no (.seq .no .no))
theorem F36_eq (x0 : Value) (R : Value → World → Prop) (w0 : World) : F36 x0 R w0 = vc Tryz.prog (bodyOf Tryz.f36) a36 (retQ Tryz.prog Tryz.f36 R) (envOf 0 [x0]) w0 := by kernel_rfl
theorem F36_calls (x0 : Value) (R : Value → World → Prop) (w0 : World) (h : F36 x0 R w0) : CallK Tryz.prog 36 #[x0] R w0 :=
 calls_vc (c := bodyOf Tryz.f36) Tryz.func36 (by kernel_rfl) (by kernel_rfl) a36 (by kernel_rfl) (by kernel_rfl) [x0] (by rw [Tryz.ntmps36]; exact Nat.le_of_ble_eq_true rfl) w0 R ((F36_eq x0 R w0).mp h)

/-- canton/wire.TakeRow, its body as a formula. -/
def F37 (x0 : Value) (R : Value → World → Prop) (w0 : World) : Prop :=
 AllocK Tryz.prog 26 (@hid _ ⟨fun t2_1 w2 =>
 CallV Tryz.prog (.func (.func 73) #[] #[]) #[x0] (@hid _ ⟨fun t5_3 w4 =>
 CallV Tryz.prog (.func (.func 36) #[] #[]) #[x0] (@hid _ ⟨fun t7_5 w6 =>
 CallV Tryz.prog (.func (.func 78) #[] #[]) #[x0, (.int .i64 32), (.func (.func 79) #[] #[])] (@hid _ ⟨fun t9_7 w8 =>
 BuildK Tryz.prog 26 #[(0, t5_3), (1, t7_5), (2, t9_7)] (@hid _ ⟨fun t10_9 w10 =>
 CallV Tryz.prog (.func (.func 77) #[] #[]) #[x0, t10_9] (@hid _ ⟨fun t11_11 w12 =>
 StoreK Tryz.prog 26 t2_1 t11_11 (@hid _ ⟨fun tu_13 w14 =>
 LoadK Tryz.prog 26 t2_1 (@hid _ ⟨fun c15 w16 => w16 = w14 ∧ R c15 w14⟩) w14⟩) w12⟩) w10⟩) w8⟩) w6⟩) w4⟩) w2⟩) w0
def a37 : Ann := (.seq .no (.seq .no .no))
theorem F37_eq (x0 : Value) (R : Value → World → Prop) (w0 : World) : F37 x0 R w0 = vc Tryz.prog (bodyOf Tryz.f37) a37 (retQ Tryz.prog Tryz.f37 R) (envOf 0 [x0]) w0 := by kernel_rfl
theorem F37_calls (x0 : Value) (R : Value → World → Prop) (w0 : World) (h : F37 x0 R w0) : CallK Tryz.prog 37 #[x0] R w0 :=
 calls_vc (c := bodyOf Tryz.f37) Tryz.func37 (by kernel_rfl) (by kernel_rfl) a37 (by kernel_rfl) (by kernel_rfl) [x0] (by rw [Tryz.ntmps37]; exact Nat.le_of_ble_eq_true rfl) w0 R ((F37_eq x0 R w0).mp h)

/-- canton/cantonref7.CompareValue, its body as a formula. -/
def F38 (x0 x1 : Value) (R : Value → World → Prop) (w0 : World) : Prop :=
 BoxK Tryz.prog 72 x0 (@hid _ ⟨fun t2_1 w2 =>
 BoxK Tryz.prog 72 x1 (@hid _ ⟨fun t3_3 w4 =>
 FieldAtK Tryz.prog 72 t2_1 0 (@hid _ ⟨fun t6_5 w6 =>
 LoadK Tryz.prog 3 t6_5 (@hid _ ⟨fun t7_7 w8 =>
 FieldAtK Tryz.prog 72 t3_3 0 (@hid _ ⟨fun t8_9 w10 =>
 LoadK Tryz.prog 3 t8_9 (@hid _ ⟨fun t9_11 w12 =>
 BinK Tryz.prog .neq 3 t7_7 t9_11 (@hid _ ⟨fun t10_13 w14 =>
 BrK t10_13 (@hid _ ⟨
 FieldAtK Tryz.prog 72 t2_1 0 (@hid _ ⟨fun t11_15 w16 =>
 LoadK Tryz.prog 3 t11_15 (@hid _ ⟨fun t12_17 w18 =>
 FieldAtK Tryz.prog 72 t3_3 0 (@hid _ ⟨fun t13_19 w20 =>
 LoadK Tryz.prog 3 t13_19 (@hid _ ⟨fun t14_21 w22 =>
 CallV Tryz.prog (.func (.func 80) #[] #[]) #[t12_17, t14_21] (@hid _ ⟨fun t15_23 w24 =>
 R t15_23 w24⟩) w22⟩) w20⟩) w18⟩) w16⟩) w14⟩) (@hid _ ⟨
 FieldAtK Tryz.prog 72 t2_1 0 (@hid _ ⟨fun t16_25 w26 =>
 LoadK Tryz.prog 3 t16_25 (@hid _ ⟨fun t17_27 w28 =>
 BinK Tryz.prog .eql 3 t17_27 (.int .i64 1) (@hid _ ⟨fun t19_29 w30 =>
 BrK t19_29 (@hid _ ⟨
 FieldAtK Tryz.prog 72 t2_1 1 (@hid _ ⟨fun t20_31 w32 =>
 LoadK Tryz.prog 2 t20_31 (@hid _ ⟨fun t21_33 w34 =>
 FieldAtK Tryz.prog 72 t3_3 1 (@hid _ ⟨fun t22_35 w36 =>
 LoadK Tryz.prog 2 t22_35 (@hid _ ⟨fun t23_37 w38 =>
 CallV Tryz.prog (.func (.func 80) #[] #[]) #[t21_33, t23_37] (@hid _ ⟨fun t24_39 w40 =>
 R t24_39 w40⟩) w38⟩) w36⟩) w34⟩) w32⟩) w30⟩) (@hid _ ⟨
 BinK Tryz.prog .eql 3 t17_27 (.int .i64 2) (@hid _ ⟨fun t26_41 w42 =>
 BrK t26_41 (@hid _ ⟨
 FieldAtK Tryz.prog 72 t2_1 2 (@hid _ ⟨fun t27_43 w44 =>
 LoadK Tryz.prog 9 t27_43 (@hid _ ⟨fun t28_45 w46 =>
 FieldAtK Tryz.prog 72 t3_3 2 (@hid _ ⟨fun t29_47 w48 =>
 LoadK Tryz.prog 9 t29_47 (@hid _ ⟨fun t30_49 w50 =>
 CallV Tryz.prog (.func (.func 81) #[] #[]) #[t28_45, t30_49] (@hid _ ⟨fun t31_51 w52 =>
 R t31_51 w52⟩) w50⟩) w48⟩) w46⟩) w44⟩) w42⟩) (@hid _ ⟨
 BinK Tryz.prog .eql 3 t17_27 (.int .i64 3) (@hid _ ⟨fun t33_53 w54 =>
 BrK t33_53 (@hid _ ⟨
 LoopK1 (.int .i64 0) w54 (@hid _ ⟨fun _ x5_55 w56 B57 =>
 FieldAtK Tryz.prog 72 t2_1 3 (@hid _ ⟨fun t35_58 w59 =>
 LoadK Tryz.prog 59 t35_58 (@hid _ ⟨fun t36_60 w61 =>
 BuiltinK Tryz.prog .len #[59] 3 #[false] #[t36_60] (@hid _ ⟨fun t37_62 w63 =>
 BinK Tryz.prog .lss 3 x5_55 t37_62 (@hid _ ⟨fun t38_64 w65 =>
 GuardK t38_64 true (fun k w => k x5_55 w) (@hid _ ⟨fun t40_66 w67 =>
 GuardK t38_64 true (fun k w => FieldAtK Tryz.prog 72 t3_3 3 k w) (@hid _ ⟨fun t41_68 w69 =>
 GuardK t38_64 true (fun k w => LoadK Tryz.prog 59 t41_68 k w) (@hid _ ⟨fun t42_70 w71 =>
 GuardK t38_64 true (fun k w => BuiltinK Tryz.prog .len #[59] 3 #[false] #[t42_70] k w) (@hid _ ⟨fun t43_72 w73 =>
 GuardK t38_64 true (fun k w => BinK Tryz.prog .lss 3 t40_66 t43_72 k w) (@hid _ ⟨fun t44_74 w75 =>
 PickK Tryz.prog t38_64 t44_74 (.bool false) (@hid _ ⟨fun t45_76 w77 =>
 BrK t45_76 (@hid _ ⟨
 DrawK (@hid _ ⟨fun S78 w79 =>
 TakeS Tryz.prog S78 (Instr.fieldAt 72 t2_1 3) (@hid _ ⟨fun t48_80 =>
 TakeS Tryz.prog S78 (Instr.loadAt 59 t48_80) (@hid _ ⟨fun t49_81 =>
 TakeS Tryz.prog S78 (Instr.indexAt 59 t49_81 x5_55) (@hid _ ⟨fun t51_82 =>
 TakeS Tryz.prog S78 (Instr.loadAt 2 t51_82) (@hid _ ⟨fun t52_83 =>
 TakeS Tryz.prog S78 (Instr.fieldAt 72 t3_3 3) (@hid _ ⟨fun t53_84 =>
 TakeS Tryz.prog S78 (Instr.loadAt 59 t53_84) (@hid _ ⟨fun t54_85 =>
 TakeS Tryz.prog S78 (Instr.indexAt 59 t54_85 x5_55) (@hid _ ⟨fun t56_86 =>
 TakeS Tryz.prog S78 (Instr.loadAt 2 t56_86) (@hid _ ⟨fun t57_87 =>
 BinT Tryz.prog S78 .neq 2 t52_83 t57_87 (@hid _ ⟨fun t58_88 =>
 BrK t58_88 (@hid _ ⟨
 DrawK (@hid _ ⟨fun S89 w90 =>
 TakeS Tryz.prog S89 (Instr.fieldAt 72 t2_1 3) (@hid _ ⟨fun t59_91 =>
 TakeS Tryz.prog S89 (Instr.loadAt 59 t59_91) (@hid _ ⟨fun t60_92 =>
 TakeS Tryz.prog S89 (Instr.indexAt 59 t60_92 x5_55) (@hid _ ⟨fun t62_93 =>
 TakeS Tryz.prog S89 (Instr.loadAt 2 t62_93) (@hid _ ⟨fun t63_94 =>
 TakeS Tryz.prog S89 (Instr.fieldAt 72 t3_3 3) (@hid _ ⟨fun t64_95 =>
 TakeS Tryz.prog S89 (Instr.loadAt 59 t64_95) (@hid _ ⟨fun t65_96 =>
 TakeS Tryz.prog S89 (Instr.indexAt 59 t65_96 x5_55) (@hid _ ⟨fun t67_97 =>
 TakeS Tryz.prog S89 (Instr.loadAt 2 t67_97) (@hid _ ⟨fun t68_98 =>
 (CallV Tryz.prog (.func (.func 80) #[] #[]) #[t63_94, t68_98] (@hid _ ⟨fun t69_99 w100 =>
 S89 w100 ∧
 R t69_99 w100⟩) w90) ∧
 True⟩)⟩)⟩)⟩)⟩)⟩)⟩)⟩)⟩) w79⟩) (@hid _ ⟨
 BinK Tryz.prog .add 3 x5_55 (.int .i64 1) (@hid _ ⟨fun t47_101 w102 =>
 B57 t47_101 w102⟩) w79⟩)⟩)⟩)⟩)⟩)⟩)⟩)⟩)⟩)⟩)⟩) w77⟩) (@hid _ ⟨
 FieldAtK Tryz.prog 72 t2_1 3 (@hid _ ⟨fun t70_103 w104 =>
 LoadK Tryz.prog 59 t70_103 (@hid _ ⟨fun t71_105 w106 =>
 BuiltinK Tryz.prog .len #[59] 3 #[false] #[t71_105] (@hid _ ⟨fun t72_107 w108 =>
 FieldAtK Tryz.prog 72 t3_3 3 (@hid _ ⟨fun t73_109 w110 =>
 LoadK Tryz.prog 59 t73_109 (@hid _ ⟨fun t74_111 w112 =>
 BuiltinK Tryz.prog .len #[59] 3 #[false] #[t74_111] (@hid _ ⟨fun t75_113 w114 =>
 CallV Tryz.prog (.func (.func 80) #[] #[]) #[t72_107, t75_113] (@hid _ ⟨fun t76_115 w116 =>
 R t76_115 w116⟩) w114⟩) w112⟩) w110⟩) w108⟩) w106⟩) w104⟩) w77⟩)⟩) w75⟩) w73⟩) w71⟩) w69⟩) w67⟩) w65⟩) w63⟩) w61⟩) w59⟩) w56⟩)⟩) (@hid _ ⟨
 R (.int .i64 0) w54⟩)⟩) w42⟩)⟩) w30⟩)⟩) w28⟩) w26⟩) w14⟩)⟩) w12⟩) w10⟩) w8⟩) w6⟩) w4⟩) w2⟩) w0
def a38 : Ann := (.seq .no (.seq (.seq .no (.cond (.seq .no .no) .no)) (.seq (.seq .no (.block (.seq .no (.cond (.seq .no .no) (.seq .no (.cond (.seq .no .no) (.seq .no (.cond (.seq (.seq .no (.block (.loop [5] [(4, 4), (34, 69)] (.seq (.seq .no (.cond .no .no)) (.seq (.block (.seq (.plan (.take 0 (.take 1 (.take 2 (.take 3 (.take 4 (.take 5 (.take 6 (.take 7 (.take 8 (.take 9 (.take 10 .done)))))))))))) (.cond (.seq (.plan (.take 0 (.take 1 (.take 2 (.take 3 (.take 4 (.take 5 (.take 6 (.take 7 (.take 8 (.take 9 (.alt 10 (.take 11 .done) .nil)))))))))))) .no) .no))) .no))))) (.seq .no .no)) .no)))))))) (.seq .no .no))))
theorem F38_eq (x0 x1 : Value) (R : Value → World → Prop) (w0 : World) : F38 x0 x1 R w0 = vc Tryz.prog (bodyOf Tryz.f38) a38 (retQ Tryz.prog Tryz.f38 R) (envOf 0 [x0, x1]) w0 := by kernel_rfl
theorem F38_calls (x0 x1 : Value) (R : Value → World → Prop) (w0 : World) (h : F38 x0 x1 R w0) : CallK Tryz.prog 38 #[x0, x1] R w0 :=
 calls_vc (c := bodyOf Tryz.f38) Tryz.func38 (by kernel_rfl) (by kernel_rfl) a38 (by kernel_rfl) (by kernel_rfl) [x0, x1] (by rw [Tryz.ntmps38]; exact Nat.le_of_ble_eq_true rfl) w0 R ((F38_eq x0 x1 R w0).mp h)

/-- (*canton/codec.Dec).Left, its body as a formula. -/
def F39 (x0 : Value) (R : Value → World → Prop) (w0 : World) : Prop :=
 NilK Tryz.prog x0 (@hid _ ⟨fun t4_1 w2 =>
 FieldAtK Tryz.prog 125 t4_1 1 (@hid _ ⟨fun t5_3 w4 =>
 LoadK Tryz.prog 30 t5_3 (@hid _ ⟨fun t6_5 w6 =>
 BinK Tryz.prog .neq 30 t6_5 (.int .i64 0) (@hid _ ⟨fun t7_7 w8 =>
 BrK t7_7 (@hid _ ⟨
 R (.int .i64 0) w8⟩) (@hid _ ⟨
 NilK Tryz.prog x0 (@hid _ ⟨fun t9_9 w10 =>
 FieldAtK Tryz.prog 125 t9_9 0 (@hid _ ⟨fun t10_11 w12 =>
 LoadK Tryz.prog 29 t10_11 (@hid _ ⟨fun t11_13 w14 =>
 BuiltinK Tryz.prog .len #[29] 3 #[false] #[t11_13] (@hid _ ⟨fun t12_15 w16 =>
 R t12_15 w16⟩) w14⟩) w12⟩) w10⟩) w8⟩)⟩) w6⟩) w4⟩) w2⟩) w0
def a39 : Ann := (.seq .no (.seq (.seq .no (.cond (.seq .no .no) .no)) (.seq .no .no)))
theorem F39_eq (x0 : Value) (R : Value → World → Prop) (w0 : World) : F39 x0 R w0 = vc Tryz.prog (bodyOf Tryz.f39) a39 (retQ Tryz.prog Tryz.f39 R) (envOf 0 [x0]) w0 := by kernel_rfl
theorem F39_calls (x0 : Value) (R : Value → World → Prop) (w0 : World) (h : F39 x0 R w0) : CallK Tryz.prog 39 #[x0] R w0 :=
 calls_vc (c := bodyOf Tryz.f39) Tryz.func39 (by kernel_rfl) (by kernel_rfl) a39 (by kernel_rfl) (by kernel_rfl) [x0] (by rw [Tryz.ntmps39]; exact Nat.le_of_ble_eq_true rfl) w0 R ((F39_eq x0 R w0).mp h)

/-- (*canton/codec.Dec).Err, its body as a formula. -/
def F40 (x0 : Value) (R : Value → World → Prop) (w0 : World) : Prop :=
 NilK Tryz.prog x0 (@hid _ ⟨fun t4_1 w2 =>
 FieldAtK Tryz.prog 125 t4_1 1 (@hid _ ⟨fun t5_3 w4 =>
 LoadK Tryz.prog 30 t5_3 (@hid _ ⟨fun t6_5 w6 =>
 R t6_5 w6⟩) w4⟩) w2⟩) w0
def a40 : Ann := (.seq .no (.seq .no .no))
theorem F40_eq (x0 : Value) (R : Value → World → Prop) (w0 : World) : F40 x0 R w0 = vc Tryz.prog (bodyOf Tryz.f40) a40 (retQ Tryz.prog Tryz.f40 R) (envOf 0 [x0]) w0 := by kernel_rfl
theorem F40_calls (x0 : Value) (R : Value → World → Prop) (w0 : World) (h : F40 x0 R w0) : CallK Tryz.prog 40 #[x0] R w0 :=
 calls_vc (c := bodyOf Tryz.f40) Tryz.func40 (by kernel_rfl) (by kernel_rfl) a40 (by kernel_rfl) (by kernel_rfl) [x0] (by rw [Tryz.ntmps40]; exact Nat.le_of_ble_eq_true rfl) w0 R ((F40_eq x0 R w0).mp h)

/-- canton/cantonref7.Check, its body as a formula. -/
def F41 (x0 : Value) (R : Value → World → Prop) (w0 : World) : Prop :=
 BoxK Tryz.prog 38 x0 (@hid _ ⟨fun t1_1 w2 =>
 FieldAtK Tryz.prog 38 t1_1 0 (@hid _ ⟨fun t5_3 w4 =>
 LoadK Tryz.prog 9 t5_3 (@hid _ ⟨fun t6_5 w6 =>
 CallV Tryz.prog (.func (.func 82) #[] #[]) #[t6_5] (@hid _ ⟨fun t7_7 w8 =>
 UnK Tryz.prog .not t7_7 (@hid _ ⟨fun t8_9 w10 =>
 BrK t8_9 (@hid _ ⟨
 R (.int .i64 5) w10⟩) (@hid _ ⟨
 FieldAtK Tryz.prog 38 t1_1 1 (@hid _ ⟨fun t9_11 w12 =>
 LoadK Tryz.prog 35 t9_11 (@hid _ ⟨fun t10_13 w14 =>
 CallV Tryz.prog (.func (.func 83) #[] #[]) #[t10_13] (@hid _ ⟨fun t11_15 w16 =>
 BinK Tryz.prog .neq 3 t11_15 (.int .i64 0) (@hid _ ⟨fun t13_17 w18 =>
 BrK t13_17 (@hid _ ⟨
 R t11_15 w18⟩) (@hid _ ⟨
 FieldAtK Tryz.prog 38 t1_1 2 (@hid _ ⟨fun t15_19 w20 =>
 LoadK Tryz.prog 36 t15_19 (@hid _ ⟨fun t16_21 w22 =>
 BuiltinK Tryz.prog .len #[36] 3 #[false] #[t16_21] (@hid _ ⟨fun t17_23 w24 =>
 BinK Tryz.prog .gtr 3 t17_23 (.int .i64 32) (@hid _ ⟨fun t18_25 w26 =>
 BrK t18_25 (@hid _ ⟨
 R (.int .i64 4) w26⟩) (@hid _ ⟨
 LoopK1 (.int .i64 0) w26 (@hid _ ⟨fun _ x4_27 w28 B29 =>
 FieldAtK Tryz.prog 38 t1_1 2 (@hid _ ⟨fun t20_30 w31 =>
 LoadK Tryz.prog 36 t20_30 (@hid _ ⟨fun t21_32 w33 =>
 BuiltinK Tryz.prog .len #[36] 3 #[false] #[t21_32] (@hid _ ⟨fun t22_34 w35 =>
 BinK Tryz.prog .lss 3 x4_27 t22_34 (@hid _ ⟨fun t23_36 w37 =>
 BrK t23_36 (@hid _ ⟨
 FieldAtK Tryz.prog 38 t1_1 2 (@hid _ ⟨fun t26_38 w39 =>
 LoadK Tryz.prog 36 t26_38 (@hid _ ⟨fun t27_40 w41 =>
 IndexAtK Tryz.prog 36 t27_40 x4_27 (@hid _ ⟨fun t29_42 w43 =>
 FieldAtK Tryz.prog 123 t29_42 1 (@hid _ ⟨fun t30_44 w45 =>
 LoadK Tryz.prog 72 t30_44 (@hid _ ⟨fun t31_46 w47 =>
 CallV Tryz.prog (.func (.func 84) #[] #[]) #[t31_46] (@hid _ ⟨fun t32_48 w49 =>
 FieldAtK Tryz.prog 38 t1_1 2 (@hid _ ⟨fun t34_50 w51 =>
 LoadK Tryz.prog 36 t34_50 (@hid _ ⟨fun t35_52 w53 =>
 IndexAtK Tryz.prog 36 t35_52 x4_27 (@hid _ ⟨fun t37_54 w55 =>
 FieldAtK Tryz.prog 123 t37_54 0 (@hid _ ⟨fun t38_56 w57 =>
 LoadK Tryz.prog 9 t38_56 (@hid _ ⟨fun t39_58 w59 =>
 CallV Tryz.prog (.func (.func 82) #[] #[]) #[t39_58] (@hid _ ⟨fun t40_60 w61 =>
 UnK Tryz.prog .not t40_60 (@hid _ ⟨fun t41_62 w63 =>
 BrK t41_62 (@hid _ ⟨
 R (.int .i64 5) w63⟩) (@hid _ ⟨
 DrawK (@hid _ ⟨fun S64 w65 =>
 BinT Tryz.prog S64 .gtr 3 x4_27 (.int .i64 0) (@hid _ ⟨fun t44_66 =>
 TakeG t44_66 true (fun k => TakeS Tryz.prog S64 (Instr.fieldAt 38 t1_1 2) k) (@hid _ ⟨fun t46_67 =>
 TakeG t44_66 true (fun k => TakeS Tryz.prog S64 (Instr.loadAt 36 t46_67) k) (@hid _ ⟨fun t47_68 =>
 TakeG t44_66 true (fun k => k x4_27) (@hid _ ⟨fun t48_69 =>
 TakeG t44_66 true (fun k => BinT Tryz.prog S64 .sub 3 t48_69 (.int .i64 1) k) (@hid _ ⟨fun t49_70 =>
 TakeG t44_66 true (fun k => TakeS Tryz.prog S64 (Instr.indexAt 36 t47_68 t49_70) k) (@hid _ ⟨fun t50_71 =>
 TakeG t44_66 true (fun k => TakeS Tryz.prog S64 (Instr.fieldAt 123 t50_71 0) k) (@hid _ ⟨fun t51_72 =>
 TakeG t44_66 true (fun k => TakeS Tryz.prog S64 (Instr.loadAt 9 t51_72) k) (@hid _ ⟨fun t52_73 =>
 TakeG t44_66 true (fun k => TakeS Tryz.prog S64 (Instr.fieldAt 38 t1_1 2) k) (@hid _ ⟨fun t53_74 =>
 TakeG t44_66 true (fun k => TakeS Tryz.prog S64 (Instr.loadAt 36 t53_74) k) (@hid _ ⟨fun t54_75 =>
 TakeG t44_66 true (fun k => k x4_27) (@hid _ ⟨fun t55_76 =>
 TakeG t44_66 true (fun k => TakeS Tryz.prog S64 (Instr.indexAt 36 t54_75 t55_76) k) (@hid _ ⟨fun t56_77 =>
 TakeG t44_66 true (fun k => TakeS Tryz.prog S64 (Instr.fieldAt 123 t56_77 0) k) (@hid _ ⟨fun t57_78 =>
 TakeG t44_66 true (fun k => TakeS Tryz.prog S64 (Instr.loadAt 9 t57_78) k) (@hid _ ⟨fun t58_79 =>
 TakeG t44_66 true (fun k => BinT Tryz.prog S64 .geq 9 t52_73 t58_79 k) (@hid _ ⟨fun t59_80 =>
 PickT t44_66 t59_80 (.bool false) (@hid _ ⟨fun t60_81 =>
 BrK t60_81 (@hid _ ⟨
 R (.int .i64 6) w65⟩) (@hid _ ⟨
 BinK Tryz.prog .neq 3 t32_48 (.int .i64 0) (@hid _ ⟨fun t63_82 w83 =>
 BrK t63_82 (@hid _ ⟨
 R t32_48 w83⟩) (@hid _ ⟨
 BinK Tryz.prog .add 3 x4_27 (.int .i64 1) (@hid _ ⟨fun t25_84 w85 =>
 B29 t25_84 w85⟩) w83⟩)⟩) w65⟩)⟩)⟩)⟩)⟩)⟩)⟩)⟩)⟩)⟩)⟩)⟩)⟩)⟩)⟩)⟩)⟩)⟩) w63⟩)⟩) w61⟩) w59⟩) w57⟩) w55⟩) w53⟩) w51⟩) w49⟩) w47⟩) w45⟩) w43⟩) w41⟩) w39⟩) w37⟩) (@hid _ ⟨
 R (.int .i64 0) w37⟩)⟩) w35⟩) w33⟩) w31⟩) w28⟩)⟩)⟩) w24⟩) w22⟩) w20⟩) w18⟩)⟩) w16⟩) w14⟩) w12⟩) w10⟩)⟩) w8⟩) w6⟩) w4⟩) w2⟩) w0
def a41 : Ann := (.seq .no (.seq (.seq .no (.cond (.seq .no .no) .no)) (.seq .no (.seq (.seq .no (.cond (.seq .no .no) .no)) (.seq (.seq .no (.cond (.seq .no .no) .no)) (.seq (.seq .no (.block (.loop [4] [(2, 3), (19, 64)] (.seq (.seq .no (.cond .no .no)) (.seq (.block (.seq .no (.block (.seq .no (.cond (.seq .no .no) (.seq (.plan (.take 0 (.take 1 (.take 2 (.take 3 (.take 4 (.take 5 (.take 6 (.take 7 (.take 8 (.take 9 (.take 10 (.take 11 (.take 12 (.take 13 (.take 14 (.take 15 (.take 16 (.take 17 (.take 18 .done)))))))))))))))))))) (.cond (.seq .no .no) (.seq .no (.cond (.seq .no .no) .no))))))))) .no))))) (.seq .no .no)))))))
theorem F41_eq (x0 : Value) (R : Value → World → Prop) (w0 : World) : F41 x0 R w0 = vc Tryz.prog (bodyOf Tryz.f41) a41 (retQ Tryz.prog Tryz.f41 R) (envOf 0 [x0]) w0 := by kernel_rfl
theorem F41_calls (x0 : Value) (R : Value → World → Prop) (w0 : World) (h : F41 x0 R w0) : CallK Tryz.prog 41 #[x0] R w0 :=
 calls_vc (c := bodyOf Tryz.f41) Tryz.func41 (by kernel_rfl) (by kernel_rfl) a41 (by kernel_rfl) (by kernel_rfl) [x0] (by rw [Tryz.ntmps41]; exact Nat.le_of_ble_eq_true rfl) w0 R ((F41_eq x0 R w0).mp h)

/-- canton/row.Same, its body as a formula. -/
def F42 (x0 x1 : Value) (R : Value → World → Prop) (w0 : World) : Prop :=
 BoxK Tryz.prog 26 x0 (@hid _ ⟨fun t2_1 w2 =>
 BoxK Tryz.prog 26 x1 (@hid _ ⟨fun t3_3 w4 =>
 FieldAtK Tryz.prog 26 t2_1 0 (@hid _ ⟨fun t5_5 w6 =>
 LoadK Tryz.prog 9 t5_5 (@hid _ ⟨fun t6_7 w8 =>
 FieldAtK Tryz.prog 26 t3_3 0 (@hid _ ⟨fun t7_9 w10 =>
 LoadK Tryz.prog 9 t7_9 (@hid _ ⟨fun t8_11 w12 =>
 BinK Tryz.prog .eql 9 t6_7 t8_11 (@hid _ ⟨fun t9_13 w14 =>
 GuardK t9_13 true (fun k w => FieldAtK Tryz.prog 26 t2_1 1 k w) (@hid _ ⟨fun t11_15 w16 =>
 GuardK t9_13 true (fun k w => LoadK Tryz.prog 23 t11_15 k w) (@hid _ ⟨fun t12_17 w18 =>
 GuardK t9_13 true (fun k w => FieldAtK Tryz.prog 26 t3_3 1 k w) (@hid _ ⟨fun t13_19 w20 =>
 GuardK t9_13 true (fun k w => LoadK Tryz.prog 23 t13_19 k w) (@hid _ ⟨fun t14_21 w22 =>
 GuardK t9_13 true (fun k w => CallV Tryz.prog (.func (.func 85) #[] #[]) #[t12_17, t14_21] k w) (@hid _ ⟨fun t15_23 w24 =>
 GuardK t9_13 true (fun k w => BinK Tryz.prog .eql 3 t15_23 (.int .i64 0) k w) (@hid _ ⟨fun t16_25 w26 =>
 PickK Tryz.prog t9_13 t16_25 (.bool false) (@hid _ ⟨fun t17_27 w28 =>
 GuardK t17_27 true (fun k w => FieldAtK Tryz.prog 26 t2_1 2 k w) (@hid _ ⟨fun t19_29 w30 =>
 GuardK t17_27 true (fun k w => LoadK Tryz.prog 24 t19_29 k w) (@hid _ ⟨fun t20_31 w32 =>
 GuardK t17_27 true (fun k w => FieldAtK Tryz.prog 26 t3_3 2 k w) (@hid _ ⟨fun t21_33 w34 =>
 GuardK t17_27 true (fun k w => LoadK Tryz.prog 24 t21_33 k w) (@hid _ ⟨fun t22_35 w36 =>
 GuardK t17_27 true (fun k w => CallV Tryz.prog (.func (.func 86) #[] #[]) #[t20_31, t22_35] k w) (@hid _ ⟨fun t23_37 w38 =>
 PickK Tryz.prog t17_27 t23_37 (.bool false) (@hid _ ⟨fun t24_39 w40 =>
 R t24_39 w40⟩) w38⟩) w36⟩) w34⟩) w32⟩) w30⟩) w28⟩) w26⟩) w24⟩) w22⟩) w20⟩) w18⟩) w16⟩) w14⟩) w12⟩) w10⟩) w8⟩) w6⟩) w4⟩) w2⟩) w0
def a42 : Ann := (.seq .no (.seq .no .no))
theorem F42_eq (x0 x1 : Value) (R : Value → World → Prop) (w0 : World) : F42 x0 x1 R w0 = vc Tryz.prog (bodyOf Tryz.f42) a42 (retQ Tryz.prog Tryz.f42 R) (envOf 0 [x0, x1]) w0 := by kernel_rfl
theorem F42_calls (x0 x1 : Value) (R : Value → World → Prop) (w0 : World) (h : F42 x0 x1 R w0) : CallK Tryz.prog 42 #[x0, x1] R w0 :=
 calls_vc (c := bodyOf Tryz.f42) Tryz.func42 (by kernel_rfl) (by kernel_rfl) a42 (by kernel_rfl) (by kernel_rfl) [x0, x1] (by rw [Tryz.ntmps42]; exact Nat.le_of_ble_eq_true rfl) w0 R ((F42_eq x0 x1 R w0).mp h)

/-- canton/cantonlaw4.FewAttrs, its body as a formula. -/
def F43 (x0 : Value) (R : Value → World → Prop) (w0 : World) : Prop :=
 BuiltinK Tryz.prog .len #[24] 3 #[false] #[x0] (@hid _ ⟨fun t5_1 w2 =>
 BinK Tryz.prog .gtr 3 t5_1 (.int .i64 40) (@hid _ ⟨fun t6_3 w4 =>
 BrK t6_3 (@hid _ ⟨
 R (.bool false) w4⟩) (@hid _ ⟨
 LoopK1 (.int .i64 0) w4 (@hid _ ⟨fun _ x3_5 w6 B7 =>
 BuiltinK Tryz.prog .len #[24] 3 #[false] #[x0] (@hid _ ⟨fun t9_8 w9 =>
 BinK Tryz.prog .lss 3 x3_5 t9_8 (@hid _ ⟨fun t10_10 w11 =>
 BrK t10_10 (@hid _ ⟨
 IndexAtK Tryz.prog 24 x0 x3_5 (@hid _ ⟨fun t15_12 w13 =>
 FieldAtK Tryz.prog 64 t15_12 0 (@hid _ ⟨fun t16_14 w15 =>
 LoadK Tryz.prog 9 t16_14 (@hid _ ⟨fun t17_16 w17 =>
 BuiltinK Tryz.prog .len #[9] 3 #[false] #[t17_16] (@hid _ ⟨fun t18_18 w19 =>
 BinK Tryz.prog .gtr 3 t18_18 (.int .i64 100) (@hid _ ⟨fun t19_20 w21 =>
 GuardK t19_20 false (fun k w => k x0 w) (@hid _ ⟨fun t21_22 w23 =>
 GuardK t19_20 false (fun k w => k x3_5 w) (@hid _ ⟨fun t22_24 w25 =>
 GuardK t19_20 false (fun k w => IndexAtK Tryz.prog 24 t21_22 t22_24 k w) (@hid _ ⟨fun t23_26 w27 =>
 GuardK t19_20 false (fun k w => FieldAtK Tryz.prog 64 t23_26 1 k w) (@hid _ ⟨fun t24_28 w29 =>
 GuardK t19_20 false (fun k w => LoadK Tryz.prog 61 t24_28 k w) (@hid _ ⟨fun t25_30 w31 =>
 GuardK t19_20 false (fun k w => CallV Tryz.prog (.func (.func 24) #[] #[]) #[t25_30] k w) (@hid _ ⟨fun t26_32 w33 =>
 GuardK t19_20 false (fun k w => UnK Tryz.prog .not t26_32 k w) (@hid _ ⟨fun t27_34 w35 =>
 PickK Tryz.prog t19_20 (.bool true) t27_34 (@hid _ ⟨fun t28_36 w37 =>
 BrK t28_36 (@hid _ ⟨
 R (.bool false) w37⟩) (@hid _ ⟨
 BinK Tryz.prog .add 3 x3_5 (.int .i64 1) (@hid _ ⟨fun t12_38 w39 =>
 B7 t12_38 w39⟩) w37⟩)⟩) w35⟩) w33⟩) w31⟩) w29⟩) w27⟩) w25⟩) w23⟩) w21⟩) w19⟩) w17⟩) w15⟩) w13⟩) w11⟩) (@hid _ ⟨
 R (.bool true) w11⟩)⟩) w9⟩) w6⟩)⟩)⟩) w2⟩) w0
def a43 : Ann := (.seq .no (.seq (.seq .no (.cond (.seq .no .no) .no)) (.seq (.seq .no (.block (.loop [3] [(2, 2), (7, 28)] (.seq (.seq .no (.cond .no .no)) (.seq (.block (.seq .no (.cond (.seq .no .no) .no))) .no))))) (.seq .no .no))))
theorem F43_eq (x0 : Value) (R : Value → World → Prop) (w0 : World) : F43 x0 R w0 = vc Tryz.prog (bodyOf Tryz.f43) a43 (retQ Tryz.prog Tryz.f43 R) (envOf 0 [x0]) w0 := by kernel_rfl
theorem F43_calls (x0 : Value) (R : Value → World → Prop) (w0 : World) (h : F43 x0 R w0) : CallK Tryz.prog 43 #[x0] R w0 :=
 calls_vc (c := bodyOf Tryz.f43) Tryz.func43 (by kernel_rfl) (by kernel_rfl) a43 (by kernel_rfl) (by kernel_rfl) [x0] (by rw [Tryz.ntmps43]; exact Nat.le_of_ble_eq_true rfl) w0 R ((F43_eq x0 R w0).mp h)

/-- canton/row.Check, its body as a formula. -/
def F44 (x0 : Value) (R : Value → World → Prop) (w0 : World) : Prop :=
 BoxK Tryz.prog 26 x0 (@hid _ ⟨fun t1_1 w2 =>
 FieldAtK Tryz.prog 26 t1_1 0 (@hid _ ⟨fun t4_3 w4 =>
 LoadK Tryz.prog 9 t4_3 (@hid _ ⟨fun t5_5 w6 =>
 CallV Tryz.prog (.func (.func 87) #[] #[]) #[t5_5] (@hid _ ⟨fun t6_7 w8 =>
 UnK Tryz.prog .not t6_7 (@hid _ ⟨fun t7_9 w10 =>
 BrK t7_9 (@hid _ ⟨
 R (.int .i64 5) w10⟩) (@hid _ ⟨
 FieldAtK Tryz.prog 26 t1_1 1 (@hid _ ⟨fun t8_11 w12 =>
 LoadK Tryz.prog 23 t8_11 (@hid _ ⟨fun t9_13 w14 =>
 CallV Tryz.prog (.func (.func 88) #[] #[]) #[t9_13] (@hid _ ⟨fun t10_15 w16 =>
 BinK Tryz.prog .neq 30 t10_15 (.int .i64 0) (@hid _ ⟨fun t12_17 w18 =>
 BrK t12_17 (@hid _ ⟨
 R t10_15 w18⟩) (@hid _ ⟨
 FieldAtK Tryz.prog 26 t1_1 2 (@hid _ ⟨fun t14_19 w20 =>
 LoadK Tryz.prog 24 t14_19 (@hid _ ⟨fun t15_21 w22 =>
 CallV Tryz.prog (.func (.func 89) #[] #[]) #[t15_21] (@hid _ ⟨fun t16_23 w24 =>
 R t16_23 w24⟩) w22⟩) w20⟩) w18⟩)⟩) w16⟩) w14⟩) w12⟩) w10⟩)⟩) w8⟩) w6⟩) w4⟩) w2⟩) w0
def a44 : Ann := (.seq .no (.seq (.seq .no (.cond (.seq .no .no) .no)) (.seq (.seq .no (.seq .no (.cond (.seq .no .no) .no))) (.seq .no .no))))
theorem F44_eq (x0 : Value) (R : Value → World → Prop) (w0 : World) : F44 x0 R w0 = vc Tryz.prog (bodyOf Tryz.f44) a44 (retQ Tryz.prog Tryz.f44 R) (envOf 0 [x0]) w0 := by kernel_rfl
theorem F44_calls (x0 : Value) (R : Value → World → Prop) (w0 : World) (h : F44 x0 R w0) : CallK Tryz.prog 44 #[x0] R w0 :=
 calls_vc (c := bodyOf Tryz.f44) Tryz.func44 (by kernel_rfl) (by kernel_rfl) a44 (by kernel_rfl) (by kernel_rfl) [x0] (by rw [Tryz.ntmps44]; exact Nat.le_of_ble_eq_true rfl) w0 R ((F44_eq x0 R w0).mp h)

/-- canton/wire.sealed[canton/row.Row], its body as a formula. -/
def F45 (x0 x1 : Value) (R : Value → World → Prop) (w0 : World) : Prop :=
 BoxK Tryz.prog 26 x0 (@hid _ ⟨fun t2_1 w2 =>
 BuildK Tryz.prog 67 #[] (@hid _ ⟨fun t6_3 w4 =>
 BoxK Tryz.prog 67 t6_3 (@hid _ ⟨fun t7_5 w6 =>
 LoadK Tryz.prog 26 t2_1 (@hid _ ⟨fun t10_7 w8 =>
 CallV Tryz.prog x1 #[t7_5, t10_7] (@hid _ ⟨fun t11_9 w10 =>
 CallV Tryz.prog (.func (.func 33) #[] #[]) #[t7_5] (@hid _ ⟨fun t13_11 w12 =>
 CallV Tryz.prog (.func (.func 90) #[] #[]) #[t13_11] (@hid _ ⟨fun t14_13 w14 =>
 R t14_13 w14⟩) w12⟩) w10⟩) w8⟩) w6⟩) w4⟩) w2⟩) w0
def a45 : Ann := (.seq .no (.seq .no (.seq .no (.seq .no .no))))
theorem F45_eq (x0 x1 : Value) (R : Value → World → Prop) (w0 : World) : F45 x0 x1 R w0 = vc Tryz.prog (bodyOf Tryz.f45) a45 (retQ Tryz.prog Tryz.f45 R) (envOf 0 [x0, x1]) w0 := by kernel_rfl
theorem F45_calls (x0 x1 : Value) (R : Value → World → Prop) (w0 : World) (h : F45 x0 x1 R w0) : CallK Tryz.prog 45 #[x0, x1] R w0 :=
 calls_vc (c := bodyOf Tryz.f45) Tryz.func45 (by kernel_rfl) (by kernel_rfl) a45 (by kernel_rfl) (by kernel_rfl) [x0, x1] (by rw [Tryz.ntmps45]; exact Nat.le_of_ble_eq_true rfl) w0 R ((F45_eq x0 x1 R w0).mp h)

/-- canton/cantonlaw4.OfAttrs, its body as a formula. -/
def F46 (x0 : Value) (R : Value → World → Prop) (w0 : World) : Prop :=
 LoopK2 (.slice none 0 0) (.int .i64 0) w0 (@hid _ ⟨fun _ x3_1 x4_2 w3 B4 =>
 BuiltinK Tryz.prog .len #[24] 3 #[false] #[x0] (@hid _ ⟨fun t7_5 w6 =>
 BinK Tryz.prog .lss 3 x4_2 t7_5 (@hid _ ⟨fun t8_7 w8 =>
 BrK t8_7 (@hid _ ⟨
 DrawK (@hid _ ⟨fun S9 w10 =>
 TakeS Tryz.prog S9 (Instr.indexAt 24 x0 x4_2) (@hid _ ⟨fun t14_11 =>
 TakeS Tryz.prog S9 (Instr.fieldAt 64 t14_11 0) (@hid _ ⟨fun t15_12 =>
 TakeS Tryz.prog S9 (Instr.loadAt 9 t15_12) (@hid _ ⟨fun t16_13 =>
 TakeS Tryz.prog S9 (Instr.indexAt 24 x0 x4_2) (@hid _ ⟨fun t19_14 =>
 TakeS Tryz.prog S9 (Instr.fieldAt 64 t19_14 1) (@hid _ ⟨fun t20_15 =>
 TakeS Tryz.prog S9 (Instr.loadAt 61 t20_15) (@hid _ ⟨fun t21_16 =>
 (CallV Tryz.prog (.func (.func 29) #[] #[]) #[t21_16] (@hid _ ⟨fun t22_17 w18 =>
 S9 w18 ∧
 (BuildK Tryz.prog 123 #[(0, t16_13), (1, t22_17)] (@hid _ ⟨fun t23_19 w20 =>
 S9 w20 ∧
 (BuildSliceK Tryz.prog 36 1 #[(0, t23_19)] (@hid _ ⟨fun t24_21 w22 =>
 S9 w22 ∧
 (BuiltinK Tryz.prog .append #[36, 36] 36 #[false, false] #[x3_1, t24_21] (@hid _ ⟨fun t25_23 w24 =>
 S9 w24 ∧
 BinK Tryz.prog .add 3 x4_2 (.int .i64 1) (@hid _ ⟨fun t10_25 w26 =>
 B4 t25_23 t10_25 w26⟩) w24⟩) w22) ∧
 True⟩) w20) ∧
 True⟩) w18) ∧
 True⟩) w10) ∧
 True⟩)⟩)⟩)⟩)⟩)⟩)⟩) w8⟩) (@hid _ ⟨
 R x3_1 w8⟩)⟩) w6⟩) w3⟩)
def a46 : Ann := (.seq .no (.seq .no (.seq (.seq .no (.block (.loop [3, 4] [(5, 25)] (.seq (.seq .no (.cond .no .no)) (.seq (.block (.plan (.take 0 (.take 1 (.take 2 (.take 3 (.take 4 (.take 5 (.take 6 (.take 7 (.take 8 (.take 9 (.take 10 (.alt 11 (.alt 12 (.alt 13 (.alt 14 (.take 15 .done) .nil) .nil) .nil) .nil)))))))))))))) .no))))) (.seq .no .no))))
theorem F46_eq (x0 : Value) (R : Value → World → Prop) (w0 : World) : F46 x0 R w0 = vc Tryz.prog (bodyOf Tryz.f46) a46 (retQ Tryz.prog Tryz.f46 R) (envOf 0 [x0]) w0 := by kernel_rfl
theorem F46_calls (x0 : Value) (R : Value → World → Prop) (w0 : World) (h : F46 x0 R w0) : CallK Tryz.prog 46 #[x0] R w0 :=
 calls_vc (c := bodyOf Tryz.f46) Tryz.func46 (by kernel_rfl) (by kernel_rfl) a46 (by kernel_rfl) (by kernel_rfl) [x0] (by rw [Tryz.ntmps46]; exact Nat.le_of_ble_eq_true rfl) w0 R ((F46_eq x0 R w0).mp h)

/-- canton/wire.opened[canton/row.Row], its body as a formula. -/
def F47 (x0 x1 : Value) (R : Value → World → Prop) (w0 : World) : Prop :=
 AllocK Tryz.prog 26 (@hid _ ⟨fun t4_1 w2 =>
 AllocK Tryz.prog 26 (@hid _ ⟨fun t6_3 w4 =>
 CallV Tryz.prog (.func (.func 91) #[] #[]) #[x0] (@hid _ ⟨fun t13_5 w6 =>
 ExtractK Tryz.prog t13_5 0 (@hid _ ⟨fun t14_7 w8 =>
 ExtractK Tryz.prog t13_5 1 (@hid _ ⟨fun t15_9 w10 =>
 BinK Tryz.prog .neq 30 t15_9 (.int .i64 0) (@hid _ ⟨fun t17_11 w12 =>
 BrK t17_11 (@hid _ ⟨
 LoadK Tryz.prog 26 t6_3 (@hid _ ⟨fun t18_13 w14 =>
 StoreK Tryz.prog 26 t4_1 t18_13 (@hid _ ⟨fun tu_15 w16 =>
 LoadK Tryz.prog 26 t4_1 (@hid _ ⟨fun c17 w18 => w18 = w16 ∧ R (.tuple #[c17, t15_9]) w16⟩) w16⟩) w14⟩) w12⟩) (@hid _ ⟨
 CallV Tryz.prog (.func (.func 34) #[] #[]) #[t14_7] (@hid _ ⟨fun t21_19 w20 =>
 CallV Tryz.prog x1 #[t21_19] (@hid _ ⟨fun t24_21 w22 =>
 AllocK Tryz.prog 26 (@hid _ ⟨fun t10_23 w24 =>
 StoreK Tryz.prog 26 t10_23 t24_21 (@hid _ ⟨fun tu_25 w26 =>
 CallV Tryz.prog (.func (.func 40) #[] #[]) #[t21_19] (@hid _ ⟨fun t27_27 w28 =>
 BinK Tryz.prog .neq 30 t27_27 (.int .i64 0) (@hid _ ⟨fun t28_29 w30 =>
 BrK t28_29 (@hid _ ⟨
 DrawK (@hid _ ⟨fun S31 w32 =>
 TakeS Tryz.prog S31 (Instr.loadAt 26 t6_3) (@hid _ ⟨fun t29_33 =>
 (CallV Tryz.prog (.func (.func 40) #[] #[]) #[t21_19] (@hid _ ⟨fun t31_34 w35 =>
 S31 w35 ∧
 (StoreK Tryz.prog 26 t4_1 t29_33 (@hid _ ⟨fun tu_36 w37 =>
 S31 w37 ∧
 LoadK Tryz.prog 26 t4_1 (@hid _ ⟨fun c38 w39 => w39 = w37 ∧ R (.tuple #[c38, t31_34]) w37⟩) w37⟩) w35) ∧
 True⟩) w32) ∧
 True⟩)⟩) w30⟩) (@hid _ ⟨
 CallV Tryz.prog (.func (.func 39) #[] #[]) #[t21_19] (@hid _ ⟨fun t34_40 w41 =>
 BinK Tryz.prog .gtr 3 t34_40 (.int .i64 0) (@hid _ ⟨fun t35_42 w43 =>
 BrK t35_42 (@hid _ ⟨
 LoadK Tryz.prog 26 t6_3 (@hid _ ⟨fun t36_44 w45 =>
 StoreK Tryz.prog 26 t4_1 t36_44 (@hid _ ⟨fun tu_46 w47 =>
 LoadK Tryz.prog 26 t4_1 (@hid _ ⟨fun c48 w49 => w49 = w47 ∧ R (.tuple #[c48, (.int .i64 2)]) w47⟩) w47⟩) w45⟩) w43⟩) (@hid _ ⟨
 LoadK Tryz.prog 26 t10_23 (@hid _ ⟨fun t37_50 w51 =>
 StoreK Tryz.prog 26 t4_1 t37_50 (@hid _ ⟨fun tu_52 w53 =>
 LoadK Tryz.prog 26 t4_1 (@hid _ ⟨fun c54 w55 => w55 = w53 ∧ R (.tuple #[c54, (.int .i64 0)]) w53⟩) w53⟩) w51⟩) w43⟩)⟩) w41⟩) w30⟩)⟩) w28⟩) w26⟩) w24⟩) w22⟩) w20⟩) w12⟩)⟩) w10⟩) w8⟩) w6⟩) w4⟩) w2⟩) w0
def a47 : Ann := (.seq .no (.seq .no (.seq .no (.seq (.seq .no (.cond (.seq .no .no) .no)) (.seq .no (.seq .no (.seq (.block (.seq .no (.cond (.seq (.plan (.take 0 (.take 1 (.alt 2 (.alt 3 (.take 4 .done) .nil) .nil)))) .no) (.seq .no (.cond (.seq .no .no) .no))))) (.seq .no .no))))))))
theorem F47_eq (x0 x1 : Value) (R : Value → World → Prop) (w0 : World) : F47 x0 x1 R w0 = vc Tryz.prog (bodyOf Tryz.f47) a47 (retQ Tryz.prog Tryz.f47 R) (envOf 0 [x0, x1]) w0 := by kernel_rfl
theorem F47_calls (x0 x1 : Value) (R : Value → World → Prop) (w0 : World) (h : F47 x0 x1 R w0) : CallK Tryz.prog 47 #[x0, x1] R w0 :=
 calls_vc (c := bodyOf Tryz.f47) Tryz.func47 (by kernel_rfl) (by kernel_rfl) a47 (by kernel_rfl) (by kernel_rfl) [x0, x1] (by rw [Tryz.ntmps47]; exact Nat.le_of_ble_eq_true rfl) w0 R ((F47_eq x0 x1 R w0).mp h)

/-- canton/cantonref7.Compare, its body as a formula. -/
def F48 (x0 x1 : Value) (R : Value → World → Prop) (w0 : World) : Prop :=
 BoxK Tryz.prog 35 x0 (@hid _ ⟨fun t2_1 w2 =>
 BoxK Tryz.prog 35 x1 (@hid _ ⟨fun t3_3 w4 =>
 DrawK (@hid _ ⟨fun S5 w6 =>
 TakeS Tryz.prog S5 (Instr.fieldAt 35 t2_1 0) (@hid _ ⟨fun t7_7 =>
 TakeS Tryz.prog S5 (Instr.loadAt 2 t7_7) (@hid _ ⟨fun t8_8 =>
 TakeS Tryz.prog S5 (Instr.fieldAt 35 t3_3 0) (@hid _ ⟨fun t9_9 =>
 TakeS Tryz.prog S5 (Instr.loadAt 2 t9_9) (@hid _ ⟨fun t10_10 =>
 TakeS Tryz.prog S5 (Instr.fieldAt 35 t2_1 1) (@hid _ ⟨fun t12_11 =>
 TakeS Tryz.prog S5 (Instr.loadAt 2 t12_11) (@hid _ ⟨fun t13_12 =>
 TakeS Tryz.prog S5 (Instr.fieldAt 35 t3_3 1) (@hid _ ⟨fun t14_13 =>
 TakeS Tryz.prog S5 (Instr.loadAt 2 t14_13) (@hid _ ⟨fun t15_14 =>
 TakeS Tryz.prog S5 (Instr.fieldAt 35 t2_1 2) (@hid _ ⟨fun t17_15 =>
 TakeS Tryz.prog S5 (Instr.loadAt 2 t17_15) (@hid _ ⟨fun t18_16 =>
 TakeS Tryz.prog S5 (Instr.fieldAt 35 t3_3 2) (@hid _ ⟨fun t19_17 =>
 TakeS Tryz.prog S5 (Instr.loadAt 2 t19_17) (@hid _ ⟨fun t20_18 =>
 TakeS Tryz.prog S5 (Instr.fieldAt 35 t2_1 3) (@hid _ ⟨fun t22_19 =>
 TakeS Tryz.prog S5 (Instr.loadAt 9 t22_19) (@hid _ ⟨fun t23_20 =>
 TakeS Tryz.prog S5 (Instr.fieldAt 35 t3_3 3) (@hid _ ⟨fun t24_21 =>
 TakeS Tryz.prog S5 (Instr.loadAt 9 t24_21) (@hid _ ⟨fun t25_22 =>
 (CallV Tryz.prog (.func (.func 80) #[] #[]) #[t8_8, t10_10] (@hid _ ⟨fun t11_23 w24 =>
 S5 w24 ∧
 (CallV Tryz.prog (.func (.func 80) #[] #[]) #[t13_12, t15_14] (@hid _ ⟨fun t16_25 w26 =>
 S5 w26 ∧
 (CallV Tryz.prog (.func (.func 80) #[] #[]) #[t18_16, t20_18] (@hid _ ⟨fun t21_27 w28 =>
 S5 w28 ∧
 (CallV Tryz.prog (.func (.func 81) #[] #[]) #[t23_20, t25_22] (@hid _ ⟨fun t26_29 w30 =>
 S5 w30 ∧
 (BuildSliceK Tryz.prog 145 4 #[(0, t11_23), (1, t16_25), (2, t21_27), (3, t26_29)] (@hid _ ⟨fun t27_31 w32 =>
 S5 w32 ∧
 LoopK1 (.int .i64 0) w32 (@hid _ ⟨fun _ x6_33 w34 B35 =>
 BinK Tryz.prog .lss 3 x6_33 (.int .i64 4) (@hid _ ⟨fun t29_36 w37 =>
 BrK t29_36 (@hid _ ⟨
 IndexAtK Tryz.prog 145 t27_31 x6_33 (@hid _ ⟨fun t34_38 w39 =>
 LoadK Tryz.prog 3 t34_38 (@hid _ ⟨fun t35_40 w41 =>
 BinK Tryz.prog .neq 3 t35_40 (.int .i64 0) (@hid _ ⟨fun t36_42 w43 =>
 BrK t36_42 (@hid _ ⟨
 IndexAtK Tryz.prog 145 t27_31 x6_33 (@hid _ ⟨fun t39_44 w45 =>
 LoadK Tryz.prog 3 t39_44 (@hid _ ⟨fun t40_46 w47 =>
 R t40_46 w47⟩) w45⟩) w43⟩) (@hid _ ⟨
 BinK Tryz.prog .add 3 x6_33 (.int .i64 1) (@hid _ ⟨fun t31_48 w49 =>
 B35 t31_48 w49⟩) w43⟩)⟩) w41⟩) w39⟩) w37⟩) (@hid _ ⟨
 R (.int .i64 0) w37⟩)⟩) w34⟩)⟩) w30) ∧
 True⟩) w28) ∧
 True⟩) w26) ∧
 True⟩) w24) ∧
 True⟩) w6) ∧
 True⟩)⟩)⟩)⟩)⟩)⟩)⟩)⟩)⟩)⟩)⟩)⟩)⟩)⟩)⟩)⟩)⟩) w4⟩) w2⟩) w0
def a48 : Ann := (.seq .no (.seq (.plan (.take 0 (.take 1 (.take 2 (.take 3 (.take 5 (.take 6 (.take 7 (.take 8 (.take 10 (.take 11 (.take 12 (.take 13 (.take 15 (.take 16 (.take 17 (.take 18 (.alt 4 (.alt 9 (.alt 14 (.alt 19 (.alt 20 (.take 21 .done) .nil) .nil) .nil) .nil) .nil)))))))))))))))))) (.seq (.seq .no (.block (.loop [6] [(4, 4), (28, 40)] (.seq (.seq .no (.cond .no .no)) (.seq (.block (.seq .no (.cond (.seq .no .no) .no))) .no))))) (.seq .no .no))))
theorem F48_eq (x0 x1 : Value) (R : Value → World → Prop) (w0 : World) : F48 x0 x1 R w0 = vc Tryz.prog (bodyOf Tryz.f48) a48 (retQ Tryz.prog Tryz.f48 R) (envOf 0 [x0, x1]) w0 := by kernel_rfl
theorem F48_calls (x0 x1 : Value) (R : Value → World → Prop) (w0 : World) (h : F48 x0 x1 R w0) : CallK Tryz.prog 48 #[x0, x1] R w0 :=
 calls_vc (c := bodyOf Tryz.f48) Tryz.func48 (by kernel_rfl) (by kernel_rfl) a48 (by kernel_rfl) (by kernel_rfl) [x0, x1] (by rw [Tryz.ntmps48]; exact Nat.le_of_ble_eq_true rfl) w0 R ((F48_eq x0 x1 R w0).mp h)

/-- canton/cantonref7.SameAttrs, its body as a formula. -/
def F49 (x0 x1 : Value) (R : Value → World → Prop) (w0 : World) : Prop :=
 BuiltinK Tryz.prog .len #[36] 3 #[false] #[x0] (@hid _ ⟨fun t7_1 w2 =>
 BuiltinK Tryz.prog .len #[36] 3 #[false] #[x1] (@hid _ ⟨fun t9_3 w4 =>
 BinK Tryz.prog .neq 3 t7_1 t9_3 (@hid _ ⟨fun t10_5 w6 =>
 BrK t10_5 (@hid _ ⟨
 R (.bool false) w6⟩) (@hid _ ⟨
 LoopK1 (.int .i64 0) w6 (@hid _ ⟨fun _ x5_7 w8 B9 =>
 BuiltinK Tryz.prog .len #[36] 3 #[false] #[x0] (@hid _ ⟨fun t13_10 w11 =>
 BinK Tryz.prog .lss 3 x5_7 t13_10 (@hid _ ⟨fun t14_12 w13 =>
 BrK t14_12 (@hid _ ⟨
 DrawK (@hid _ ⟨fun S14 w15 =>
 TakeS Tryz.prog S14 (Instr.indexAt 36 x0 x5_7) (@hid _ ⟨fun t19_16 =>
 TakeS Tryz.prog S14 (Instr.fieldAt 123 t19_16 0) (@hid _ ⟨fun t20_17 =>
 TakeS Tryz.prog S14 (Instr.loadAt 9 t20_17) (@hid _ ⟨fun t21_18 =>
 TakeS Tryz.prog S14 (Instr.indexAt 36 x1 x5_7) (@hid _ ⟨fun t24_19 =>
 TakeS Tryz.prog S14 (Instr.fieldAt 123 t24_19 0) (@hid _ ⟨fun t25_20 =>
 TakeS Tryz.prog S14 (Instr.loadAt 9 t25_20) (@hid _ ⟨fun t26_21 =>
 BinT Tryz.prog S14 .neq 9 t21_18 t26_21 (@hid _ ⟨fun t27_22 =>
 TakeG t27_22 false (fun k => k x0) (@hid _ ⟨fun t29_23 =>
 TakeG t27_22 false (fun k => k x5_7) (@hid _ ⟨fun t30_24 =>
 TakeG t27_22 false (fun k => TakeS Tryz.prog S14 (Instr.indexAt 36 t29_23 t30_24) k) (@hid _ ⟨fun t31_25 =>
 TakeG t27_22 false (fun k => TakeS Tryz.prog S14 (Instr.fieldAt 123 t31_25 1) k) (@hid _ ⟨fun t32_26 =>
 TakeG t27_22 false (fun k => TakeS Tryz.prog S14 (Instr.loadAt 72 t32_26) k) (@hid _ ⟨fun t33_27 =>
 TakeG t27_22 false (fun k => k x1) (@hid _ ⟨fun t34_28 =>
 TakeG t27_22 false (fun k => k x5_7) (@hid _ ⟨fun t35_29 =>
 TakeG t27_22 false (fun k => TakeS Tryz.prog S14 (Instr.indexAt 36 t34_28 t35_29) k) (@hid _ ⟨fun t36_30 =>
 TakeG t27_22 false (fun k => TakeS Tryz.prog S14 (Instr.fieldAt 123 t36_30 1) k) (@hid _ ⟨fun t37_31 =>
 TakeG t27_22 false (fun k => TakeS Tryz.prog S14 (Instr.loadAt 72 t37_31) k) (@hid _ ⟨fun t38_32 =>
 (GuardK t27_22 false (fun k w => CallV Tryz.prog (.func (.func 38) #[] #[]) #[t33_27, t38_32] k w) (@hid _ ⟨fun t39_33 w34 =>
 S14 w34 ∧
 TakeG t27_22 false (fun k => BinT Tryz.prog S14 .neq 3 t39_33 (.int .i64 0) k) (@hid _ ⟨fun t40_35 =>
 PickT t27_22 (.bool true) t40_35 (@hid _ ⟨fun t41_36 =>
 BrK t41_36 (@hid _ ⟨
 R (.bool false) w34⟩) (@hid _ ⟨
 BinK Tryz.prog .add 3 x5_7 (.int .i64 1) (@hid _ ⟨fun t16_37 w38 =>
 B9 t16_37 w38⟩) w34⟩)⟩)⟩)⟩) w15) ∧
 True⟩)⟩)⟩)⟩)⟩)⟩)⟩)⟩)⟩)⟩)⟩)⟩)⟩)⟩)⟩)⟩)⟩)⟩) w13⟩) (@hid _ ⟨
 R (.bool true) w13⟩)⟩) w11⟩) w8⟩)⟩)⟩) w4⟩) w2⟩) w0
def a49 : Ann := (.seq .no (.seq (.seq .no (.cond (.seq .no .no) .no)) (.seq (.seq .no (.block (.loop [5] [(4, 4), (11, 41)] (.seq (.seq .no (.cond .no .no)) (.seq (.block (.seq (.plan (.take 0 (.take 1 (.take 2 (.take 3 (.take 4 (.take 5 (.take 6 (.take 7 (.take 8 (.take 9 (.take 10 (.take 11 (.take 12 (.take 13 (.take 14 (.take 15 (.take 16 (.take 17 (.take 18 (.take 19 (.take 20 (.take 21 (.alt 22 (.take 23 (.take 24 .done)) .nil)))))))))))))))))))))))) (.cond (.seq .no .no) .no))) .no))))) (.seq .no .no))))
theorem F49_eq (x0 x1 : Value) (R : Value → World → Prop) (w0 : World) : F49 x0 x1 R w0 = vc Tryz.prog (bodyOf Tryz.f49) a49 (retQ Tryz.prog Tryz.f49 R) (envOf 0 [x0, x1]) w0 := by kernel_rfl
theorem F49_calls (x0 x1 : Value) (R : Value → World → Prop) (w0 : World) (h : F49 x0 x1 R w0) : CallK Tryz.prog 49 #[x0, x1] R w0 :=
 calls_vc (c := bodyOf Tryz.f49) Tryz.func49 (by kernel_rfl) (by kernel_rfl) a49 (by kernel_rfl) (by kernel_rfl) [x0, x1] (by rw [Tryz.ntmps49]; exact Nat.le_of_ble_eq_true rfl) w0 R ((F49_eq x0 x1 R w0).mp h)

/-- canton/wire.right, its body as a formula. -/
def F50 (x0 : Value) (R : Value → World → Prop) (w0 : World) : Prop :=
 BuiltinK Tryz.prog .len #[43] 3 #[false] #[x0] (@hid _ ⟨fun t7_1 w2 =>
 BinK Tryz.prog .gtr 3 t7_1 (.int .i64 64) (@hid _ ⟨fun t8_3 w4 =>
 BrK t8_3 (@hid _ ⟨
 R (.int .i64 4) w4⟩) (@hid _ ⟨
 BuiltinK Tryz.prog .len #[43] 3 #[false] #[x0] (@hid _ ⟨fun t10_5 w6 =>
 LoopK1 (.int .i64 0) w6 (@hid _ ⟨fun _ x11_7 w8 B9 =>
 BinK Tryz.prog .lss 3 x11_7 t10_5 (@hid _ ⟨fun t12_10 w11 =>
 BrK t12_10 (@hid _ ⟨
 IndexAtK Tryz.prog 43 x0 x11_7 (@hid _ ⟨fun t13_12 w13 =>
 LoadK Tryz.prog 26 t13_12 (@hid _ ⟨fun t14_14 w15 =>
 AllocK Tryz.prog 26 (@hid _ ⟨fun t4_16 w17 =>
 StoreK Tryz.prog 26 t4_16 t14_14 (@hid _ ⟨fun tu_18 w19 =>
 LoadK Tryz.prog 26 t4_16 (@hid _ ⟨fun t15_20 w21 =>
 CallV Tryz.prog (.func (.func 44) #[] #[]) #[t15_20] (@hid _ ⟨fun t16_22 w23 =>
 BinK Tryz.prog .neq 30 t16_22 (.int .i64 0) (@hid _ ⟨fun t18_24 w25 =>
 BrK t18_24 (@hid _ ⟨
 R t16_22 w25⟩) (@hid _ ⟨
 BinK Tryz.prog .add 3 x11_7 (.int .i64 1) (@hid _ ⟨fun t20_26 w27 =>
 B9 t20_26 w27⟩) w25⟩)⟩) w23⟩) w21⟩) w19⟩) w17⟩) w15⟩) w13⟩) w11⟩) (@hid _ ⟨
 R (.int .i64 0) w11⟩)⟩) w8⟩)⟩) w4⟩)⟩) w2⟩) w0
def a50 : Ann := (.seq .no (.seq (.seq .no (.cond (.seq .no .no) .no)) (.seq (.seq .no (.block (.loop [11] [(2, 2), (4, 5), (12, 20)] (.seq .no (.seq (.cond .no .no) (.seq (.block (.seq .no (.seq .no (.seq .no (.cond (.seq .no .no) .no))))) .no)))))) (.seq .no .no))))
theorem F50_eq (x0 : Value) (R : Value → World → Prop) (w0 : World) : F50 x0 R w0 = vc Tryz.prog (bodyOf Tryz.f50) a50 (retQ Tryz.prog Tryz.f50 R) (envOf 0 [x0]) w0 := by kernel_rfl
theorem F50_calls (x0 : Value) (R : Value → World → Prop) (w0 : World) (h : F50 x0 R w0) : CallK Tryz.prog 50 #[x0] R w0 :=
 calls_vc (c := bodyOf Tryz.f50) Tryz.func50 (by kernel_rfl) (by kernel_rfl) a50 (by kernel_rfl) (by kernel_rfl) [x0] (by rw [Tryz.ntmps50]; exact Nat.le_of_ble_eq_true rfl) w0 R ((F50_eq x0 R w0).mp h)

/-- canton/wire.sealed[[]canton/row.Row], its body as a formula. -/
def F51 (x0 x1 : Value) (R : Value → World → Prop) (w0 : World) : Prop :=
 BuildK Tryz.prog 67 #[] (@hid _ ⟨fun t6_1 w2 =>
 BoxK Tryz.prog 67 t6_1 (@hid _ ⟨fun t7_3 w4 =>
 CallV Tryz.prog x1 #[t7_3, x0] (@hid _ ⟨fun t11_5 w6 =>
 CallV Tryz.prog (.func (.func 33) #[] #[]) #[t7_3] (@hid _ ⟨fun t13_7 w8 =>
 CallV Tryz.prog (.func (.func 90) #[] #[]) #[t13_7] (@hid _ ⟨fun t14_9 w10 =>
 R t14_9 w10⟩) w8⟩) w6⟩) w4⟩) w2⟩) w0
def a51 : Ann := (.seq .no (.seq .no (.seq .no (.seq .no .no))))
theorem F51_eq (x0 x1 : Value) (R : Value → World → Prop) (w0 : World) : F51 x0 x1 R w0 = vc Tryz.prog (bodyOf Tryz.f51) a51 (retQ Tryz.prog Tryz.f51 R) (envOf 0 [x0, x1]) w0 := by kernel_rfl
theorem F51_calls (x0 x1 : Value) (R : Value → World → Prop) (w0 : World) (h : F51 x0 x1 R w0) : CallK Tryz.prog 51 #[x0, x1] R w0 :=
 calls_vc (c := bodyOf Tryz.f51) Tryz.func51 (by kernel_rfl) (by kernel_rfl) a51 (by kernel_rfl) (by kernel_rfl) [x0, x1] (by rw [Tryz.ntmps51]; exact Nat.le_of_ble_eq_true rfl) w0 R ((F51_eq x0 x1 R w0).mp h)

/-- canton/wire.All$1, its body as a formula. -/
def F52 (x0 x1 : Value) (R : Value → World → Prop) (w0 : World) : Prop :=
 CallV Tryz.prog (.func (.func 53) #[] #[]) #[x0, x1, (.func (.func 27) #[] #[])] (@hid _ ⟨fun t6_1 w2 =>
 R (.tuple #[]) w2⟩) w0
def a52 : Ann := .no
theorem F52_eq (x0 x1 : Value) (R : Value → World → Prop) (w0 : World) : F52 x0 x1 R w0 = vc Tryz.prog (bodyOf Tryz.f52) a52 (retQ Tryz.prog Tryz.f52 R) (envOf 0 [x0, x1]) w0 := by kernel_rfl
theorem F52_calls (x0 x1 : Value) (R : Value → World → Prop) (w0 : World) (h : F52 x0 x1 R w0) : CallK Tryz.prog 52 #[x0, x1] R w0 :=
 calls_vc (c := bodyOf Tryz.f52) Tryz.func52 (by kernel_rfl) (by kernel_rfl) a52 (by kernel_rfl) (by kernel_rfl) [x0, x1] (by rw [Tryz.ntmps52]; exact Nat.le_of_ble_eq_true rfl) w0 R ((F52_eq x0 x1 R w0).mp h)

/-- canton/wire.many[canton/row.Row], its body as a formula. -/
def F53 (x0 x1 x2 : Value) (R : Value → World → Prop) (w0 : World) : Prop :=
 BuiltinK Tryz.prog .len #[43] 3 #[false] #[x1] (@hid _ ⟨fun t10_1 w2 =>
 BuildSliceK Tryz.prog 59 1 #[(0, t10_1)] (@hid _ ⟨fun t11_3 w4 =>
 CallV Tryz.prog (.func (.func 63) #[] #[]) #[x0, t11_3] (@hid _ ⟨fun t12_5 w6 =>
 BuiltinK Tryz.prog .len #[43] 3 #[false] #[x1] (@hid _ ⟨fun t14_7 w8 =>
 LoopK1 (.int .i64 0) w8 (@hid _ ⟨fun _ x15_9 w10 B11 =>
 BinK Tryz.prog .lss 3 x15_9 t14_7 (@hid _ ⟨fun t16_12 w13 =>
 BrK t16_12 (@hid _ ⟨
 IndexAtK Tryz.prog 43 x1 x15_9 (@hid _ ⟨fun t17_14 w15 =>
 LoadK Tryz.prog 26 t17_14 (@hid _ ⟨fun t18_16 w17 =>
 AllocK Tryz.prog 26 (@hid _ ⟨fun t7_18 w19 =>
 StoreK Tryz.prog 26 t7_18 t18_16 (@hid _ ⟨fun tu_20 w21 =>
 LoadK Tryz.prog 26 t7_18 (@hid _ ⟨fun t21_22 w23 =>
 CallV Tryz.prog x2 #[x0, t21_22] (@hid _ ⟨fun t22_24 w25 =>
 BinK Tryz.prog .add 3 x15_9 (.int .i64 1) (@hid _ ⟨fun t23_26 w27 =>
 B11 t23_26 w27⟩) w25⟩) w23⟩) w21⟩) w19⟩) w17⟩) w15⟩) w13⟩) (@hid _ ⟨
 R (.tuple #[]) w13⟩)⟩) w10⟩)⟩) w6⟩) w4⟩) w2⟩) w0
def a53 : Ann := (.seq .no (.seq .no (.block (.loop [15] [(7, 7), (16, 23)] (.seq .no (.seq (.cond .no .no) (.seq (.block (.seq .no .no)) .no)))))))
theorem F53_eq (x0 x1 x2 : Value) (R : Value → World → Prop) (w0 : World) : F53 x0 x1 x2 R w0 = vc Tryz.prog (bodyOf Tryz.f53) a53 (retQ Tryz.prog Tryz.f53 R) (envOf 0 [x0, x1, x2]) w0 := by kernel_rfl
theorem F53_calls (x0 x1 x2 : Value) (R : Value → World → Prop) (w0 : World) (h : F53 x0 x1 x2 R w0) : CallK Tryz.prog 53 #[x0, x1, x2] R w0 :=
 calls_vc (c := bodyOf Tryz.f53) Tryz.func53 (by kernel_rfl) (by kernel_rfl) a53 (by kernel_rfl) (by kernel_rfl) [x0, x1, x2] (by rw [Tryz.ntmps53]; exact Nat.le_of_ble_eq_true rfl) w0 R ((F53_eq x0 x1 x2 R w0).mp h)

/-- canton/cantonref7.PutInt, its body as a formula. -/
def F54 (x0 : Value) (R : Value → World → Prop) (w0 : World) : Prop :=
 ConvK Tryz.prog 2 146 x0 (@hid _ ⟨fun t6_1 w2 =>
 BinK Tryz.prog .shl 146 t6_1 (.int .u64 1) (@hid _ ⟨fun t7_3 w4 =>
 CutK1 (@hid _ ⟨fun R5 =>
 BinK Tryz.prog .lss 2 x0 (.int .i64 0) (@hid _ ⟨fun t9_8 w9 =>
 BrK t9_8 (@hid _ ⟨
 BinK Tryz.prog .add 2 x0 (.int .i64 1) (@hid _ ⟨fun t11_10 w11 =>
 BinK Tryz.prog .sub 2 (.int .i64 0) t11_10 (@hid _ ⟨fun t12_12 w13 =>
 ConvK Tryz.prog 2 146 t12_12 (@hid _ ⟨fun t13_14 w15 =>
 BinK Tryz.prog .shl 146 t13_14 (.int .u64 1) (@hid _ ⟨fun t14_16 w17 =>
 BinK Tryz.prog .or 146 t14_16 (.int .u64 1) (@hid _ ⟨fun t15_18 w19 =>
 R5 t15_18 w19⟩) w17⟩) w15⟩) w13⟩) w11⟩) w9⟩) (@hid _ ⟨
 R5 t7_3 w9⟩)⟩) w4⟩)
 (@hid _ ⟨fun _ x3_6 w7 =>
 LoopK2 x3_6 (.slice none 0 0) w7 (@hid _ ⟨fun _ x3_20 x4_21 w22 B23 =>
 BinK Tryz.prog .geq 146 x3_20 (.int .u64 128) (@hid _ ⟨fun t17_24 w25 =>
 BrK t17_24 (@hid _ ⟨
 BinK Tryz.prog .and 146 x3_20 (.int .u64 127) (@hid _ ⟨fun t20_26 w27 =>
 BinK Tryz.prog .or 146 t20_26 (.int .u64 128) (@hid _ ⟨fun t21_28 w29 =>
 ConvK Tryz.prog 146 5 t21_28 (@hid _ ⟨fun t22_30 w31 =>
 BuildSliceK Tryz.prog 29 1 #[(0, t22_30)] (@hid _ ⟨fun t23_32 w33 =>
 BuiltinK Tryz.prog .append #[29, 29] 29 #[false, false] #[x4_21, t23_32] (@hid _ ⟨fun t24_34 w35 =>
 BinK Tryz.prog .shr 146 x3_20 (.int .u64 7) (@hid _ ⟨fun t26_36 w37 =>
 B23 t26_36 t24_34 w37⟩) w35⟩) w33⟩) w31⟩) w29⟩) w27⟩) w25⟩) (@hid _ ⟨
 ConvK Tryz.prog 146 5 x3_20 (@hid _ ⟨fun t29_38 w39 =>
 BuildSliceK Tryz.prog 29 1 #[(0, t29_38)] (@hid _ ⟨fun t30_40 w41 =>
 BuiltinK Tryz.prog .append #[29, 29] 29 #[false, false] #[x4_21, t30_40] (@hid _ ⟨fun t31_42 w43 =>
 R t31_42 w43⟩) w41⟩) w39⟩) w25⟩)⟩) w22⟩)⟩)⟩) w2⟩) w0
def a54 : Ann := (.seq .no (.seq .no (.cut [3] [(8, 15)] (.seq .no (.cond .no .no)) (.seq .no (.seq (.block (.loop [3, 4] [(16, 26)] (.seq (.seq .no (.cond .no .no)) (.block (.seq .no .no))))) (.seq .no .no))))))
theorem F54_eq (x0 : Value) (R : Value → World → Prop) (w0 : World) : F54 x0 R w0 = vc Tryz.prog (bodyOf Tryz.f54) a54 (retQ Tryz.prog Tryz.f54 R) (envOf 0 [x0]) w0 := by kernel_rfl
theorem F54_calls (x0 : Value) (R : Value → World → Prop) (w0 : World) (h : F54 x0 R w0) : CallK Tryz.prog 54 #[x0] R w0 :=
 calls_vc (c := bodyOf Tryz.f54) Tryz.func54 (by kernel_rfl) (by kernel_rfl) a54 (by kernel_rfl) (by kernel_rfl) [x0] (by rw [Tryz.ntmps54]; exact Nat.le_of_ble_eq_true rfl) w0 R ((F54_eq x0 R w0).mp h)

/-- canton/wire.opened[[]canton/row.Row], its body as a formula. -/
def F55 (x0 x1 : Value) (R : Value → World → Prop) (w0 : World) : Prop :=
 CallV Tryz.prog (.func (.func 91) #[] #[]) #[x0] (@hid _ ⟨fun t13_1 w2 =>
 ExtractK Tryz.prog t13_1 0 (@hid _ ⟨fun t14_3 w4 =>
 ExtractK Tryz.prog t13_1 1 (@hid _ ⟨fun t15_5 w6 =>
 BinK Tryz.prog .neq 30 t15_5 (.int .i64 0) (@hid _ ⟨fun t17_7 w8 =>
 BrK t17_7 (@hid _ ⟨
 R (.tuple #[(.slice none 0 0), t15_5]) w8⟩) (@hid _ ⟨
 CallV Tryz.prog (.func (.func 34) #[] #[]) #[t14_3] (@hid _ ⟨fun t21_9 w10 =>
 CallV Tryz.prog x1 #[t21_9] (@hid _ ⟨fun t24_11 w12 =>
 CallV Tryz.prog (.func (.func 40) #[] #[]) #[t21_9] (@hid _ ⟨fun t27_13 w14 =>
 BinK Tryz.prog .neq 30 t27_13 (.int .i64 0) (@hid _ ⟨fun t28_15 w16 =>
 BrK t28_15 (@hid _ ⟨
 CallV Tryz.prog (.func (.func 40) #[] #[]) #[t21_9] (@hid _ ⟨fun t31_17 w18 =>
 R (.tuple #[(.slice none 0 0), t31_17]) w18⟩) w16⟩) (@hid _ ⟨
 CallV Tryz.prog (.func (.func 39) #[] #[]) #[t21_9] (@hid _ ⟨fun t34_19 w20 =>
 BinK Tryz.prog .gtr 3 t34_19 (.int .i64 0) (@hid _ ⟨fun t35_21 w22 =>
 BrK t35_21 (@hid _ ⟨
 R (.tuple #[(.slice none 0 0), (.int .i64 2)]) w22⟩) (@hid _ ⟨
 R (.tuple #[t24_11, (.int .i64 0)]) w22⟩)⟩) w20⟩) w16⟩)⟩) w14⟩) w12⟩) w10⟩) w8⟩)⟩) w6⟩) w4⟩) w2⟩) w0
def a55 : Ann := (.seq .no (.seq .no (.seq .no (.seq (.seq .no (.cond (.seq .no .no) .no)) (.seq .no (.seq .no (.seq (.block (.seq .no (.cond (.seq .no .no) (.seq .no (.cond (.seq .no .no) .no))))) (.seq .no .no))))))))
theorem F55_eq (x0 x1 : Value) (R : Value → World → Prop) (w0 : World) : F55 x0 x1 R w0 = vc Tryz.prog (bodyOf Tryz.f55) a55 (retQ Tryz.prog Tryz.f55 R) (envOf 0 [x0, x1]) w0 := by kernel_rfl
theorem F55_calls (x0 x1 : Value) (R : Value → World → Prop) (w0 : World) (h : F55 x0 x1 R w0) : CallK Tryz.prog 55 #[x0, x1] R w0 :=
 calls_vc (c := bodyOf Tryz.f55) Tryz.func55 (by kernel_rfl) (by kernel_rfl) a55 (by kernel_rfl) (by kernel_rfl) [x0, x1] (by rw [Tryz.ntmps55]; exact Nat.le_of_ble_eq_true rfl) w0 R ((F55_eq x0 x1 R w0).mp h)

/-- canton/wire.Rows$1, its body as a formula. -/
def F56 (x0 : Value) (R : Value → World → Prop) (w0 : World) : Prop :=
 CallV Tryz.prog (.func (.func 57) #[] #[]) #[x0, (.int .i64 64), (.func (.func 37) #[] #[])] (@hid _ ⟨fun t4_1 w2 =>
 R t4_1 w2⟩) w0
def a56 : Ann := (.seq .no (.seq .no .no))
theorem F56_eq (x0 : Value) (R : Value → World → Prop) (w0 : World) : F56 x0 R w0 = vc Tryz.prog (bodyOf Tryz.f56) a56 (retQ Tryz.prog Tryz.f56 R) (envOf 0 [x0]) w0 := by kernel_rfl
theorem F56_calls (x0 : Value) (R : Value → World → Prop) (w0 : World) (h : F56 x0 R w0) : CallK Tryz.prog 56 #[x0] R w0 :=
 calls_vc (c := bodyOf Tryz.f56) Tryz.func56 (by kernel_rfl) (by kernel_rfl) a56 (by kernel_rfl) (by kernel_rfl) [x0] (by rw [Tryz.ntmps56]; exact Nat.le_of_ble_eq_true rfl) w0 R ((F56_eq x0 R w0).mp h)

/-- canton/wire.taken[canton/row.Row], its body as a formula. -/
def F57 (x0 x1 x2 : Value) (R : Value → World → Prop) (w0 : World) : Prop :=
 CallV Tryz.prog (.func (.func 92) #[] #[]) #[x0, x1] (@hid _ ⟨fun t10_1 w2 =>
 LoopK2 (.slice none 0 0) (.int .i64 0) w2 (@hid _ ⟨fun _ x7_3 x11_4 w5 B6 =>
 BinK Tryz.prog .lss 3 x11_4 t10_1 (@hid _ ⟨fun t12_7 w8 =>
 BrK t12_7 (@hid _ ⟨
 CallV Tryz.prog x2 #[x0] (@hid _ ⟨fun t16_9 w10 =>
 BuildSliceK Tryz.prog 43 1 #[(0, t16_9)] (@hid _ ⟨fun t17_11 w12 =>
 BuiltinK Tryz.prog .append #[43, 43] 43 #[false, false] #[x7_3, t17_11] (@hid _ ⟨fun t18_13 w14 =>
 BinK Tryz.prog .add 3 x11_4 (.int .i64 1) (@hid _ ⟨fun t19_15 w16 =>
 B6 t18_13 t19_15 w16⟩) w14⟩) w12⟩) w10⟩) w8⟩) (@hid _ ⟨
 CallV Tryz.prog (.func (.func 93) #[] #[]) #[x7_3] (@hid _ ⟨fun t21_17 w18 =>
 R t21_17 w18⟩) w8⟩)⟩) w5⟩)⟩) w0
def a57 : Ann := (.seq .no (.seq .no (.seq (.seq .no (.block (.loop [7, 11] [(12, 19)] (.seq .no (.seq (.cond .no .no) (.seq (.block .no) .no)))))) (.seq .no .no))))
theorem F57_eq (x0 x1 x2 : Value) (R : Value → World → Prop) (w0 : World) : F57 x0 x1 x2 R w0 = vc Tryz.prog (bodyOf Tryz.f57) a57 (retQ Tryz.prog Tryz.f57 R) (envOf 0 [x0, x1, x2]) w0 := by kernel_rfl
theorem F57_calls (x0 x1 x2 : Value) (R : Value → World → Prop) (w0 : World) (h : F57 x0 x1 x2 R w0) : CallK Tryz.prog 57 #[x0, x1, x2] R w0 :=
 calls_vc (c := bodyOf Tryz.f57) Tryz.func57 (by kernel_rfl) (by kernel_rfl) a57 (by kernel_rfl) (by kernel_rfl) [x0, x1, x2] (by rw [Tryz.ntmps57]; exact Nat.le_of_ble_eq_true rfl) w0 R ((F57_eq x0 x1 x2 R w0).mp h)

/-- canton/cantonref7.Sum, its body as a formula. -/
def F58 (x0 : Value) (R : Value → World → Prop) (w0 : World) : Prop :=
 LoopK2 (.int .u32 4294967295) (.int .i64 0) w0 (@hid _ ⟨fun _ x3_1 x4_2 w3 B4 =>
 BuiltinK Tryz.prog .len #[29] 3 #[false] #[x0] (@hid _ ⟨fun t9_5 w6 =>
 BinK Tryz.prog .lss 3 x4_2 t9_5 (@hid _ ⟨fun t10_7 w8 =>
 BrK t10_7 (@hid _ ⟨
 IndexAtK Tryz.prog 29 x0 x4_2 (@hid _ ⟨fun t16_9 w10 =>
 LoadK Tryz.prog 5 t16_9 (@hid _ ⟨fun t17_11 w12 =>
 ConvK Tryz.prog 5 106 t17_11 (@hid _ ⟨fun t18_13 w14 =>
 BinK Tryz.prog .xor 106 x3_1 t18_13 (@hid _ ⟨fun t19_15 w16 =>
 LoopK2 t19_15 (.int .i64 0) w16 (@hid _ ⟨fun _ x3_17 x5_18 w19 B20 =>
 BinK Tryz.prog .lss 3 x5_18 (.int .i64 8) (@hid _ ⟨fun t21_21 w22 =>
 BrK t21_21 (@hid _ ⟨
 BinK Tryz.prog .and 106 x3_17 (.int .u32 1) (@hid _ ⟨fun t25_23 w24 =>
 BinK Tryz.prog .shr 106 x3_17 (.int .u64 1) (@hid _ ⟨fun t27_25 w26 =>
 BinK Tryz.prog .eql 106 t25_23 (.int .u32 1) (@hid _ ⟨fun t29_27 w28 =>
 BrK t29_27 (@hid _ ⟨
 BinK Tryz.prog .xor 106 t27_25 (.int .u32 3988292384) (@hid _ ⟨fun t31_29 w30 =>
 BinK Tryz.prog .add 3 x5_18 (.int .i64 1) (@hid _ ⟨fun t23_31 w32 =>
 B20 t31_29 t23_31 w32⟩) w30⟩) w28⟩) (@hid _ ⟨
 BinK Tryz.prog .add 3 x5_18 (.int .i64 1) (@hid _ ⟨fun t23_33 w34 =>
 B20 t27_25 t23_33 w34⟩) w28⟩)⟩) w26⟩) w24⟩) w22⟩) (@hid _ ⟨
 BinK Tryz.prog .add 3 x4_2 (.int .i64 1) (@hid _ ⟨fun t12_35 w36 =>
 B4 x3_17 t12_35 w36⟩) w22⟩)⟩) w19⟩)⟩) w14⟩) w12⟩) w10⟩) w8⟩) (@hid _ ⟨
 UnK Tryz.prog .xor x3_1 (@hid _ ⟨fun t33_37 w38 =>
 R t33_37 w38⟩) w8⟩)⟩) w6⟩) w3⟩)
def a58 : Ann := (.seq .no (.seq .no (.seq (.seq .no (.block (.loop [3, 4] [(5, 31)] (.seq (.seq .no (.cond .no .no)) (.seq (.block (.seq .no (.seq .no (.block (.loop [3, 5] [(6, 6), (20, 31)] (.seq (.seq .no (.cond .no .no)) (.seq (.block (.seq .no (.seq .no (.seq .no (.cond .no .no))))) .no))))))) .no))))) (.seq .no .no))))
theorem F58_eq (x0 : Value) (R : Value → World → Prop) (w0 : World) : F58 x0 R w0 = vc Tryz.prog (bodyOf Tryz.f58) a58 (retQ Tryz.prog Tryz.f58 R) (envOf 0 [x0]) w0 := by kernel_rfl
theorem F58_calls (x0 : Value) (R : Value → World → Prop) (w0 : World) (h : F58 x0 R w0) : CallK Tryz.prog 58 #[x0] R w0 :=
 calls_vc (c := bodyOf Tryz.f58) Tryz.func58 (by kernel_rfl) (by kernel_rfl) a58 (by kernel_rfl) (by kernel_rfl) [x0] (by rw [Tryz.ntmps58]; exact Nat.le_of_ble_eq_true rfl) w0 R ((F58_eq x0 R w0).mp h)

/-- canton/cantonref7.Open, its body as a formula. -/
def F59 (x0 : Value) (R : Value → World → Prop) (w0 : World) : Prop :=
 BuiltinK Tryz.prog .len #[29] 3 #[false] #[x0] (@hid _ ⟨fun t6_1 w2 =>
 BinK Tryz.prog .sub 3 t6_1 (.int .i64 4) (@hid _ ⟨fun t7_3 w4 =>
 BinK Tryz.prog .lss 3 t7_3 (.int .i64 0) (@hid _ ⟨fun t9_5 w6 =>
 BrK t9_5 (@hid _ ⟨
 R (.tuple #[(.slice none 0 0), (.int .i64 3)]) w6⟩) (@hid _ ⟨
 DrawK (@hid _ ⟨fun S7 w8 =>
 TakeS Tryz.prog S7 (Instr.sliceAt 29 x0 none (some t7_3) none) (@hid _ ⟨fun t12_9 =>
 TakeS Tryz.prog S7 (convert 29 9 x0) (@hid _ ⟨fun t16_10 =>
 (CallV Tryz.prog (.func (.func 21) #[] #[]) #[t12_9] (@hid _ ⟨fun t13_11 w12 =>
 S7 w12 ∧
 (ConvK Tryz.prog 29 9 t13_11 (@hid _ ⟨fun t14_13 w14 =>
 S7 w14 ∧
 BinT Tryz.prog S7 .neq 9 t14_13 t16_10 (@hid _ ⟨fun t17_15 =>
 BrK t17_15 (@hid _ ⟨
 R (.tuple #[(.slice none 0 0), (.int .i64 10)]) w14⟩) (@hid _ ⟨
 BuildSliceK Tryz.prog 29 0 #[] (@hid _ ⟨fun t18_16 w17 =>
 SliceK Tryz.prog 29 x0 none (some t7_3) none (@hid _ ⟨fun t21_18 w19 =>
 BuiltinK Tryz.prog .append #[29, 29] 29 #[false, false] #[t18_16, t21_18] (@hid _ ⟨fun t22_20 w21 =>
 R (.tuple #[t22_20, (.int .i64 0)]) w21⟩) w19⟩) w17⟩) w14⟩)⟩)⟩) w12) ∧
 True⟩) w8) ∧
 True⟩)⟩)⟩) w6⟩)⟩) w4⟩) w2⟩) w0
def a59 : Ann := (.seq .no (.seq .no (.seq (.seq .no (.cond (.seq .no .no) .no)) (.seq (.seq (.plan (.take 0 (.take 1 (.take 2 (.take 5 (.take 6 (.alt 3 (.alt 4 (.take 7 .done) .nil) .nil))))))) (.cond (.seq .no .no) .no)) (.seq .no .no)))))
theorem F59_eq (x0 : Value) (R : Value → World → Prop) (w0 : World) : F59 x0 R w0 = vc Tryz.prog (bodyOf Tryz.f59) a59 (retQ Tryz.prog Tryz.f59 R) (envOf 0 [x0]) w0 := by kernel_rfl
theorem F59_calls (x0 : Value) (R : Value → World → Prop) (w0 : World) (h : F59 x0 R w0) : CallK Tryz.prog 59 #[x0] R w0 :=
 calls_vc (c := bodyOf Tryz.f59) Tryz.func59 (by kernel_rfl) (by kernel_rfl) a59 (by kernel_rfl) (by kernel_rfl) [x0] (by rw [Tryz.ntmps59]; exact Nat.le_of_ble_eq_true rfl) w0 R ((F59_eq x0 R w0).mp h)

/-- (*canton/cantonref7.Dec).Row, its body as a formula. -/
def F60 (x0 : Value) (R : Value → World → Prop) (w0 : World) : Prop :=
 AllocK Tryz.prog 38 (@hid _ ⟨fun t2_1 w2 =>
 CallV Tryz.prog (.func (.func 94) #[] #[]) #[x0] (@hid _ ⟨fun t8_3 w4 =>
 BuildK Tryz.prog 38 #[(0, t8_3)] (@hid _ ⟨fun t9_5 w6 =>
 AllocK Tryz.prog 38 (@hid _ ⟨fun t3_7 w8 =>
 StoreK Tryz.prog 38 t3_7 t9_5 (@hid _ ⟨fun tu_9 w10 =>
 CallV Tryz.prog (.func (.func 95) #[] #[]) #[x0] (@hid _ ⟨fun t11_11 w12 =>
 FieldAtK Tryz.prog 38 t3_7 1 (@hid _ ⟨fun t12_13 w14 =>
 StoreK Tryz.prog 35 t12_13 t11_11 (@hid _ ⟨fun tu_15 w16 =>
 CallV Tryz.prog (.func (.func 62) #[] #[]) #[x0, (.int .i64 32)] (@hid _ ⟨fun t14_17 w18 =>
 LoopK1 (.int .i64 0) w18 (@hid _ ⟨fun _ x5_19 w20 B21 =>
 BinK Tryz.prog .lss 3 x5_19 t14_17 (@hid _ ⟨fun t17_22 w23 =>
 BrK t17_22 (@hid _ ⟨
 CallV Tryz.prog (.func (.func 94) #[] #[]) #[x0] (@hid _ ⟨fun t21_24 w25 =>
 BuildK Tryz.prog 123 #[(0, t21_24)] (@hid _ ⟨fun t22_26 w27 =>
 AllocK Tryz.prog 123 (@hid _ ⟨fun t6_28 w29 =>
 StoreK Tryz.prog 123 t6_28 t22_26 (@hid _ ⟨fun tu_30 w31 =>
 CallV Tryz.prog (.func (.func 96) #[] #[]) #[x0] (@hid _ ⟨fun t24_32 w33 =>
 FieldAtK Tryz.prog 123 t6_28 1 (@hid _ ⟨fun t25_34 w35 =>
 StoreK Tryz.prog 72 t25_34 t24_32 (@hid _ ⟨fun tu_36 w37 =>
 FieldAtK Tryz.prog 38 t3_7 2 (@hid _ ⟨fun t26_38 w39 =>
 LoadK Tryz.prog 36 t26_38 (@hid _ ⟨fun t27_40 w41 =>
 LoadK Tryz.prog 123 t6_28 (@hid _ ⟨fun t28_42 w43 =>
 BuildSliceK Tryz.prog 36 1 #[(0, t28_42)] (@hid _ ⟨fun t29_44 w45 =>
 BuiltinK Tryz.prog .append #[36, 36] 36 #[false, false] #[t27_40, t29_44] (@hid _ ⟨fun t30_46 w47 =>
 FieldAtK Tryz.prog 38 t3_7 2 (@hid _ ⟨fun t31_48 w49 =>
 StoreK Tryz.prog 36 t31_48 t30_46 (@hid _ ⟨fun tu_50 w51 =>
 BinK Tryz.prog .add 3 x5_19 (.int .i64 1) (@hid _ ⟨fun t19_52 w53 =>
 B21 t19_52 w53⟩) w51⟩) w49⟩) w47⟩) w45⟩) w43⟩) w41⟩) w39⟩) w37⟩) w35⟩) w33⟩) w31⟩) w29⟩) w27⟩) w25⟩) w23⟩) (@hid _ ⟨
 NilK Tryz.prog x0 (@hid _ ⟨fun t33_54 w55 =>
 FieldAtK Tryz.prog 112 t33_54 2 (@hid _ ⟨fun t34_56 w57 =>
 LoadK Tryz.prog 3 t34_56 (@hid _ ⟨fun t35_58 w59 =>
 BinK Tryz.prog .neq 3 t35_58 (.int .i64 0) (@hid _ ⟨fun t36_60 w61 =>
 BrK t36_60 (@hid _ ⟨
 BuildK Tryz.prog 38 #[] (@hid _ ⟨fun t37_62 w63 =>
 StoreK Tryz.prog 38 t2_1 t37_62 (@hid _ ⟨fun tu_64 w65 =>
 LoadK Tryz.prog 38 t2_1 (@hid _ ⟨fun c66 w67 => w67 = w65 ∧ R c66 w65⟩) w65⟩) w63⟩) w61⟩) (@hid _ ⟨
 LoadK Tryz.prog 38 t3_7 (@hid _ ⟨fun t38_68 w69 =>
 StoreK Tryz.prog 38 t2_1 t38_68 (@hid _ ⟨fun tu_70 w71 =>
 LoadK Tryz.prog 38 t2_1 (@hid _ ⟨fun c72 w73 => w73 = w71 ∧ R c72 w71⟩) w71⟩) w69⟩) w61⟩)⟩) w59⟩) w57⟩) w55⟩) w23⟩)⟩) w20⟩)⟩) w16⟩) w14⟩) w12⟩) w10⟩) w8⟩) w6⟩) w4⟩) w2⟩) w0
def a60 : Ann := (.seq .no (.seq .no (.seq .no (.seq .no (.seq (.seq .no (.block (.loop [5] [(6, 6), (15, 31)] (.seq (.seq .no (.cond .no .no)) (.seq (.block (.seq .no (.seq .no .no))) .no))))) (.seq (.seq .no (.cond (.seq .no .no) .no)) (.seq .no .no)))))))
theorem F60_eq (x0 : Value) (R : Value → World → Prop) (w0 : World) : F60 x0 R w0 = vc Tryz.prog (bodyOf Tryz.f60) a60 (retQ Tryz.prog Tryz.f60 R) (envOf 0 [x0]) w0 := by kernel_rfl
theorem F60_calls (x0 : Value) (R : Value → World → Prop) (w0 : World) (h : F60 x0 R w0) : CallK Tryz.prog 60 #[x0] R w0 :=
 calls_vc (c := bodyOf Tryz.f60) Tryz.func60 (by kernel_rfl) (by kernel_rfl) a60 (by kernel_rfl) (by kernel_rfl) [x0] (by rw [Tryz.ntmps60]; exact Nat.le_of_ble_eq_true rfl) w0 R ((F60_eq x0 R w0).mp h)

/-- (*canton/cantonref7.Dec).Left, its body as a formula. -/
def F61 (x0 : Value) (R : Value → World → Prop) (w0 : World) : Prop :=
 NilK Tryz.prog x0 (@hid _ ⟨fun t4_1 w2 =>
 FieldAtK Tryz.prog 112 t4_1 2 (@hid _ ⟨fun t5_3 w4 =>
 LoadK Tryz.prog 3 t5_3 (@hid _ ⟨fun t6_5 w6 =>
 BinK Tryz.prog .neq 3 t6_5 (.int .i64 0) (@hid _ ⟨fun t7_7 w8 =>
 BrK t7_7 (@hid _ ⟨
 R (.int .i64 0) w8⟩) (@hid _ ⟨
 DrawK (@hid _ ⟨fun S9 w10 =>
 TakeO Tryz.prog S9 (nilSem x0) (@hid _ ⟨fun t9_11 =>
 TakeS Tryz.prog S9 (Instr.fieldAt 112 t9_11 0) (@hid _ ⟨fun t10_12 =>
 TakeS Tryz.prog S9 (Instr.loadAt 29 t10_12) (@hid _ ⟨fun t11_13 =>
 TakeO Tryz.prog S9 (builtin .len #[29] 3 #[false] #[t11_13]) (@hid _ ⟨fun t12_14 =>
 TakeO Tryz.prog S9 (nilSem x0) (@hid _ ⟨fun t14_15 =>
 TakeS Tryz.prog S9 (Instr.fieldAt 112 t14_15 1) (@hid _ ⟨fun t15_16 =>
 TakeS Tryz.prog S9 (Instr.loadAt 3 t15_16) (@hid _ ⟨fun t16_17 =>
 BinT Tryz.prog S9 .sub 3 t12_14 t16_17 (@hid _ ⟨fun t17_18 =>
 R t17_18 w10⟩)⟩)⟩)⟩)⟩)⟩)⟩)⟩)⟩) w8⟩)⟩) w6⟩) w4⟩) w2⟩) w0
def a61 : Ann := (.seq .no (.seq (.seq .no (.cond (.seq .no .no) .no)) (.seq (.plan (.take 0 (.take 1 (.take 2 (.take 3 (.take 4 (.take 5 (.take 6 (.take 7 (.take 8 (.take 9 (.take 10 .done)))))))))))) .no)))
theorem F61_eq (x0 : Value) (R : Value → World → Prop) (w0 : World) : F61 x0 R w0 = vc Tryz.prog (bodyOf Tryz.f61) a61 (retQ Tryz.prog Tryz.f61 R) (envOf 0 [x0]) w0 := by kernel_rfl
theorem F61_calls (x0 : Value) (R : Value → World → Prop) (w0 : World) (h : F61 x0 R w0) : CallK Tryz.prog 61 #[x0] R w0 :=
 calls_vc (c := bodyOf Tryz.f61) Tryz.func61 (by kernel_rfl) (by kernel_rfl) a61 (by kernel_rfl) (by kernel_rfl) [x0] (by rw [Tryz.ntmps61]; exact Nat.le_of_ble_eq_true rfl) w0 R ((F61_eq x0 R w0).mp h)

/-- (*canton/cantonref7.Dec).Many, its body as a formula. -/
def F62 (x0 x1 : Value) (R : Value → World → Prop) (w0 : World) : Prop :=
 CallV Tryz.prog (.func (.func 97) #[] #[]) #[x0] (@hid _ ⟨fun t7_1 w2 =>
 CutK0 (@hid _ ⟨fun R3 =>
 NilK Tryz.prog x0 (@hid _ ⟨fun t9_5 w6 =>
 FieldAtK Tryz.prog 112 t9_5 2 (@hid _ ⟨fun t10_7 w8 =>
 LoadK Tryz.prog 3 t10_7 (@hid _ ⟨fun t11_9 w10 =>
 BinK Tryz.prog .eql 3 t11_9 (.int .i64 0) (@hid _ ⟨fun t12_11 w12 =>
 GuardK t12_11 true (fun k w => k t7_1 w) (@hid _ ⟨fun t14_13 w14 =>
 GuardK t12_11 true (fun k w => BinK Tryz.prog .lss 2 t14_13 (.int .i64 0) k w) (@hid _ ⟨fun t15_15 w16 =>
 GuardK t12_11 true (fun k w => k t15_15 w) (@hid _ ⟨fun t16_17 w18 =>
 GuardK t16_17 false (fun k w => k t7_1 w) (@hid _ ⟨fun t17_19 w20 =>
 GuardK t16_17 false (fun k w => k x1 w) (@hid _ ⟨fun t18_21 w22 =>
 GuardK t16_17 false (fun k w => BinK Tryz.prog .gtr 2 t17_19 t18_21 k w) (@hid _ ⟨fun t19_23 w24 =>
 GuardK t12_11 true (fun k w => PickK Tryz.prog t16_17 (.bool true) t19_23 k w) (@hid _ ⟨fun t20_25 w26 =>
 PickK Tryz.prog t12_11 t20_25 (.bool false) (@hid _ ⟨fun t21_27 w28 =>
 BrK t21_27 (@hid _ ⟨
 NilK Tryz.prog x0 (@hid _ ⟨fun t23_29 w30 =>
 FieldAtK Tryz.prog 112 t23_29 2 (@hid _ ⟨fun t24_31 w32 =>
 StoreK Tryz.prog 3 t24_31 (.int .i64 2) (@hid _ ⟨fun tu_33 w34 =>
 R3 w34⟩) w32⟩) w30⟩) w28⟩) (@hid _ ⟨
 R3 w28⟩)⟩) w26⟩) w24⟩) w22⟩) w20⟩) w18⟩) w16⟩) w14⟩) w12⟩) w10⟩) w8⟩) w6⟩) w2⟩)
 (@hid _ ⟨fun _ w4 =>
 NilK Tryz.prog x0 (@hid _ ⟨fun t26_35 w36 =>
 FieldAtK Tryz.prog 112 t26_35 2 (@hid _ ⟨fun t27_37 w38 =>
 LoadK Tryz.prog 3 t27_37 (@hid _ ⟨fun t28_39 w40 =>
 BinK Tryz.prog .neq 3 t28_39 (.int .i64 0) (@hid _ ⟨fun t29_41 w42 =>
 BrK t29_41 (@hid _ ⟨
 R (.int .i64 0) w42⟩) (@hid _ ⟨
 R t7_1 w42⟩)⟩) w40⟩) w38⟩) w36⟩) w4⟩)⟩) w0
def a62 : Ann := (.seq .no (.seq .no (.cut [] [(8, 24)] (.seq .no (.cond .no .no)) (.seq (.seq .no (.cond (.seq .no .no) .no)) (.seq .no .no)))))
theorem F62_eq (x0 x1 : Value) (R : Value → World → Prop) (w0 : World) : F62 x0 x1 R w0 = vc Tryz.prog (bodyOf Tryz.f62) a62 (retQ Tryz.prog Tryz.f62 R) (envOf 0 [x0, x1]) w0 := by kernel_rfl
theorem F62_calls (x0 x1 : Value) (R : Value → World → Prop) (w0 : World) (h : F62 x0 x1 R w0) : CallK Tryz.prog 62 #[x0, x1] R w0 :=
 calls_vc (c := bodyOf Tryz.f62) Tryz.func62 (by kernel_rfl) (by kernel_rfl) a62 (by kernel_rfl) (by kernel_rfl) [x0, x1] (by rw [Tryz.ntmps62]; exact Nat.le_of_ble_eq_true rfl) w0 R ((F62_eq x0 x1 R w0).mp h)

/-- (*canton/codec.Enc).Int, its body as a formula. -/
def F63 (x0 x1 : Value) (R : Value → World → Prop) (w0 : World) : Prop :=
 BuiltinK Tryz.prog .len #[59] 3 #[false] #[x1] (@hid _ ⟨fun t8_1 w2 =>
 LoopK1 (.int .i64 0) w2 (@hid _ ⟨fun _ x9_3 w4 B5 =>
 BinK Tryz.prog .lss 3 x9_3 t8_1 (@hid _ ⟨fun t10_6 w7 =>
 BrK t10_6 (@hid _ ⟨
 IndexAtK Tryz.prog 59 x1 x9_3 (@hid _ ⟨fun t11_8 w9 =>
 LoadK Tryz.prog 2 t11_8 (@hid _ ⟨fun t12_10 w11 =>
 ConvK Tryz.prog 2 146 t12_10 (@hid _ ⟨fun t14_12 w13 =>
 BinK Tryz.prog .shl 146 t14_12 (.int .u64 1) (@hid _ ⟨fun t15_14 w15 =>
 BinK Tryz.prog .shr 2 t12_10 (.int .u64 63) (@hid _ ⟨fun t17_16 w17 =>
 ConvK Tryz.prog 2 146 t17_16 (@hid _ ⟨fun t18_18 w19 =>
 BinK Tryz.prog .xor 146 t15_14 t18_18 (@hid _ ⟨fun t19_20 w21 =>
 LoopK1 t19_20 w21 (@hid _ ⟨fun _ x6_22 w23 B24 =>
 BinK Tryz.prog .geq 146 x6_22 (.int .u64 128) (@hid _ ⟨fun t21_25 w26 =>
 BrK t21_25 (@hid _ ⟨
 NilK Tryz.prog x0 (@hid _ ⟨fun t24_27 w28 =>
 FieldAtK Tryz.prog 67 t24_27 0 (@hid _ ⟨fun t25_29 w30 =>
 LoadK Tryz.prog 29 t25_29 (@hid _ ⟨fun t26_31 w32 =>
 ConvK Tryz.prog 146 5 x6_22 (@hid _ ⟨fun t28_33 w34 =>
 BinK Tryz.prog .or 5 t28_33 (.int .u8 128) (@hid _ ⟨fun t29_35 w36 =>
 BuildSliceK Tryz.prog 29 1 #[(0, t29_35)] (@hid _ ⟨fun t30_37 w38 =>
 BuiltinK Tryz.prog .append #[29, 29] 29 #[false, false] #[t26_31, t30_37] (@hid _ ⟨fun t31_39 w40 =>
 NilK Tryz.prog x0 (@hid _ ⟨fun t32_41 w42 =>
 FieldAtK Tryz.prog 67 t32_41 0 (@hid _ ⟨fun t33_43 w44 =>
 StoreK Tryz.prog 29 t33_43 t31_39 (@hid _ ⟨fun tu_45 w46 =>
 BinK Tryz.prog .shr 146 x6_22 (.int .u64 7) (@hid _ ⟨fun t35_47 w48 =>
 B24 t35_47 w48⟩) w46⟩) w44⟩) w42⟩) w40⟩) w38⟩) w36⟩) w34⟩) w32⟩) w30⟩) w28⟩) w26⟩) (@hid _ ⟨
 NilK Tryz.prog x0 (@hid _ ⟨fun t38_49 w50 =>
 FieldAtK Tryz.prog 67 t38_49 0 (@hid _ ⟨fun t39_51 w52 =>
 LoadK Tryz.prog 29 t39_51 (@hid _ ⟨fun t40_53 w54 =>
 ConvK Tryz.prog 146 5 x6_22 (@hid _ ⟨fun t42_55 w56 =>
 BuildSliceK Tryz.prog 29 1 #[(0, t42_55)] (@hid _ ⟨fun t43_57 w58 =>
 BuiltinK Tryz.prog .append #[29, 29] 29 #[false, false] #[t40_53, t43_57] (@hid _ ⟨fun t44_59 w60 =>
 NilK Tryz.prog x0 (@hid _ ⟨fun t45_61 w62 =>
 FieldAtK Tryz.prog 67 t45_61 0 (@hid _ ⟨fun t46_63 w64 =>
 StoreK Tryz.prog 29 t46_63 t44_59 (@hid _ ⟨fun tu_65 w66 =>
 BinK Tryz.prog .add 3 x9_3 (.int .i64 1) (@hid _ ⟨fun t47_67 w68 =>
 B5 t47_67 w68⟩) w66⟩) w64⟩) w62⟩) w60⟩) w58⟩) w56⟩) w54⟩) w52⟩) w50⟩) w26⟩)⟩) w23⟩)⟩) w19⟩) w17⟩) w15⟩) w13⟩) w11⟩) w9⟩) w7⟩) (@hid _ ⟨
 R (.tuple #[]) w7⟩)⟩) w4⟩)⟩) w0
def a63 : Ann := (.seq .no (.block (.loop [9] [(5, 6), (10, 47)] (.seq .no (.seq (.cond .no .no) (.seq (.block (.seq .no (.seq .no (.seq (.block (.loop [6] [(20, 35)] (.seq (.seq .no (.cond .no .no)) (.block (.seq .no .no))))) .no)))) .no))))))
theorem F63_eq (x0 x1 : Value) (R : Value → World → Prop) (w0 : World) : F63 x0 x1 R w0 = vc Tryz.prog (bodyOf Tryz.f63) a63 (retQ Tryz.prog Tryz.f63 R) (envOf 0 [x0, x1]) w0 := by kernel_rfl
theorem F63_calls (x0 x1 : Value) (R : Value → World → Prop) (w0 : World) (h : F63 x0 x1 R w0) : CallK Tryz.prog 63 #[x0, x1] R w0 :=
 calls_vc (c := bodyOf Tryz.f63) Tryz.func63 (by kernel_rfl) (by kernel_rfl) a63 (by kernel_rfl) (by kernel_rfl) [x0, x1] (by rw [Tryz.ntmps63]; exact Nat.le_of_ble_eq_true rfl) w0 R ((F63_eq x0 x1 R w0).mp h)

/-- (*canton/codec.Enc).Text, its body as a formula. -/
def F64 (x0 x1 : Value) (R : Value → World → Prop) (w0 : World) : Prop :=
 BuiltinK Tryz.prog .len #[150] 3 #[false] #[x1] (@hid _ ⟨fun t7_1 w2 =>
 LoopK1 (.int .i64 0) w2 (@hid _ ⟨fun _ x8_3 w4 B5 =>
 BinK Tryz.prog .lss 3 x8_3 t7_1 (@hid _ ⟨fun t9_6 w7 =>
 BrK t9_6 (@hid _ ⟨
 IndexAtK Tryz.prog 150 x1 x8_3 (@hid _ ⟨fun t10_8 w9 =>
 LoadK Tryz.prog 9 t10_8 (@hid _ ⟨fun t11_10 w11 =>
 BuiltinK Tryz.prog .len #[9] 3 #[false] #[t11_10] (@hid _ ⟨fun t14_12 w13 =>
 BuildSliceK Tryz.prog 59 1 #[(0, t14_12)] (@hid _ ⟨fun t15_14 w15 =>
 CallV Tryz.prog (.func (.func 63) #[] #[]) #[x0, t15_14] (@hid _ ⟨fun t16_16 w17 =>
 NilK Tryz.prog x0 (@hid _ ⟨fun t19_18 w19 =>
 FieldAtK Tryz.prog 67 t19_18 0 (@hid _ ⟨fun t20_20 w21 =>
 LoadK Tryz.prog 29 t20_20 (@hid _ ⟨fun t21_22 w23 =>
 BuiltinK Tryz.prog .append #[29, 9] 29 #[false, false] #[t21_22, t11_10] (@hid _ ⟨fun t23_24 w25 =>
 NilK Tryz.prog x0 (@hid _ ⟨fun t24_26 w27 =>
 FieldAtK Tryz.prog 67 t24_26 0 (@hid _ ⟨fun t25_28 w29 =>
 StoreK Tryz.prog 29 t25_28 t23_24 (@hid _ ⟨fun tu_30 w31 =>
 BinK Tryz.prog .add 3 x8_3 (.int .i64 1) (@hid _ ⟨fun t26_32 w33 =>
 B5 t26_32 w33⟩) w31⟩) w29⟩) w27⟩) w25⟩) w23⟩) w21⟩) w19⟩) w17⟩) w15⟩) w13⟩) w11⟩) w9⟩) w7⟩) (@hid _ ⟨
 R (.tuple #[]) w7⟩)⟩) w4⟩)⟩) w0
def a64 : Ann := (.seq .no (.block (.loop [8] [(5, 5), (9, 26)] (.seq .no (.seq (.cond .no .no) (.seq (.block (.seq .no (.seq .no .no))) .no))))))
theorem F64_eq (x0 x1 : Value) (R : Value → World → Prop) (w0 : World) : F64 x0 x1 R w0 = vc Tryz.prog (bodyOf Tryz.f64) a64 (retQ Tryz.prog Tryz.f64 R) (envOf 0 [x0, x1]) w0 := by kernel_rfl
theorem F64_calls (x0 x1 : Value) (R : Value → World → Prop) (w0 : World) (h : F64 x0 x1 R w0) : CallK Tryz.prog 64 #[x0, x1] R w0 :=
 calls_vc (c := bodyOf Tryz.f64) Tryz.func64 (by kernel_rfl) (by kernel_rfl) a64 (by kernel_rfl) (by kernel_rfl) [x0, x1] (by rw [Tryz.ntmps64]; exact Nat.le_of_ble_eq_true rfl) w0 R ((F64_eq x0 x1 R w0).mp h)

/-- canton/wire.many[int64], its body as a formula. -/
def F65 (x0 x1 x2 : Value) (R : Value → World → Prop) (w0 : World) : Prop :=
 BuiltinK Tryz.prog .len #[59] 3 #[false] #[x1] (@hid _ ⟨fun t10_1 w2 =>
 BuildSliceK Tryz.prog 59 1 #[(0, t10_1)] (@hid _ ⟨fun t11_3 w4 =>
 CallV Tryz.prog (.func (.func 63) #[] #[]) #[x0, t11_3] (@hid _ ⟨fun t12_5 w6 =>
 BuiltinK Tryz.prog .len #[59] 3 #[false] #[x1] (@hid _ ⟨fun t14_7 w8 =>
 LoopK1 (.int .i64 0) w8 (@hid _ ⟨fun _ x15_9 w10 B11 =>
 BinK Tryz.prog .lss 3 x15_9 t14_7 (@hid _ ⟨fun t16_12 w13 =>
 BrK t16_12 (@hid _ ⟨
 IndexAtK Tryz.prog 59 x1 x15_9 (@hid _ ⟨fun t17_14 w15 =>
 LoadK Tryz.prog 2 t17_14 (@hid _ ⟨fun t18_16 w17 =>
 CallV Tryz.prog x2 #[x0, t18_16] (@hid _ ⟨fun t22_18 w19 =>
 BinK Tryz.prog .add 3 x15_9 (.int .i64 1) (@hid _ ⟨fun t23_20 w21 =>
 B11 t23_20 w21⟩) w19⟩) w17⟩) w15⟩) w13⟩) (@hid _ ⟨
 R (.tuple #[]) w13⟩)⟩) w10⟩)⟩) w6⟩) w4⟩) w2⟩) w0
def a65 : Ann := (.seq .no (.seq .no (.block (.loop [15] [(7, 7), (16, 23)] (.seq .no (.seq (.cond .no .no) (.seq (.block (.seq .no .no)) .no)))))))
theorem F65_eq (x0 x1 x2 : Value) (R : Value → World → Prop) (w0 : World) : F65 x0 x1 x2 R w0 = vc Tryz.prog (bodyOf Tryz.f65) a65 (retQ Tryz.prog Tryz.f65 R) (envOf 0 [x0, x1, x2]) w0 := by kernel_rfl
theorem F65_calls (x0 x1 x2 : Value) (R : Value → World → Prop) (w0 : World) (h : F65 x0 x1 x2 R w0) : CallK Tryz.prog 65 #[x0, x1, x2] R w0 :=
 calls_vc (c := bodyOf Tryz.f65) Tryz.func65 (by kernel_rfl) (by kernel_rfl) a65 (by kernel_rfl) (by kernel_rfl) [x0, x1, x2] (by rw [Tryz.ntmps65]; exact Nat.le_of_ble_eq_true rfl) w0 R ((F65_eq x0 x1 x2 R w0).mp h)

/-- canton/wire.PutValue$1, its body as a formula. -/
def F66 (x0 x1 : Value) (R : Value → World → Prop) (w0 : World) : Prop :=
 BuildSliceK Tryz.prog 59 1 #[(0, x1)] (@hid _ ⟨fun t6_1 w2 =>
 CallV Tryz.prog (.func (.func 63) #[] #[]) #[x0, t6_1] (@hid _ ⟨fun t7_3 w4 =>
 R (.tuple #[]) w4⟩) w2⟩) w0
def a66 : Ann := .no
theorem F66_eq (x0 x1 : Value) (R : Value → World → Prop) (w0 : World) : F66 x0 x1 R w0 = vc Tryz.prog (bodyOf Tryz.f66) a66 (retQ Tryz.prog Tryz.f66 R) (envOf 0 [x0, x1]) w0 := by kernel_rfl
theorem F66_calls (x0 x1 : Value) (R : Value → World → Prop) (w0 : World) (h : F66 x0 x1 R w0) : CallK Tryz.prog 66 #[x0, x1] R w0 :=
 calls_vc (c := bodyOf Tryz.f66) Tryz.func66 (by kernel_rfl) (by kernel_rfl) a66 (by kernel_rfl) (by kernel_rfl) [x0, x1] (by rw [Tryz.ntmps66]; exact Nat.le_of_ble_eq_true rfl) w0 R ((F66_eq x0 x1 R w0).mp h)

/-- canton/wire.many[canton/row.Attr], its body as a formula. -/
def F67 (x0 x1 x2 : Value) (R : Value → World → Prop) (w0 : World) : Prop :=
 BuiltinK Tryz.prog .len #[24] 3 #[false] #[x1] (@hid _ ⟨fun t10_1 w2 =>
 BuildSliceK Tryz.prog 59 1 #[(0, t10_1)] (@hid _ ⟨fun t11_3 w4 =>
 CallV Tryz.prog (.func (.func 63) #[] #[]) #[x0, t11_3] (@hid _ ⟨fun t12_5 w6 =>
 BuiltinK Tryz.prog .len #[24] 3 #[false] #[x1] (@hid _ ⟨fun t14_7 w8 =>
 LoopK1 (.int .i64 0) w8 (@hid _ ⟨fun _ x15_9 w10 B11 =>
 BinK Tryz.prog .lss 3 x15_9 t14_7 (@hid _ ⟨fun t16_12 w13 =>
 BrK t16_12 (@hid _ ⟨
 IndexAtK Tryz.prog 24 x1 x15_9 (@hid _ ⟨fun t17_14 w15 =>
 LoadK Tryz.prog 64 t17_14 (@hid _ ⟨fun t18_16 w17 =>
 AllocK Tryz.prog 64 (@hid _ ⟨fun t7_18 w19 =>
 StoreK Tryz.prog 64 t7_18 t18_16 (@hid _ ⟨fun tu_20 w21 =>
 LoadK Tryz.prog 64 t7_18 (@hid _ ⟨fun t21_22 w23 =>
 CallV Tryz.prog x2 #[x0, t21_22] (@hid _ ⟨fun t22_24 w25 =>
 BinK Tryz.prog .add 3 x15_9 (.int .i64 1) (@hid _ ⟨fun t23_26 w27 =>
 B11 t23_26 w27⟩) w25⟩) w23⟩) w21⟩) w19⟩) w17⟩) w15⟩) w13⟩) (@hid _ ⟨
 R (.tuple #[]) w13⟩)⟩) w10⟩)⟩) w6⟩) w4⟩) w2⟩) w0
def a67 : Ann := (.seq .no (.seq .no (.block (.loop [15] [(7, 7), (16, 23)] (.seq .no (.seq (.cond .no .no) (.seq (.block (.seq .no .no)) .no)))))))
theorem F67_eq (x0 x1 x2 : Value) (R : Value → World → Prop) (w0 : World) : F67 x0 x1 x2 R w0 = vc Tryz.prog (bodyOf Tryz.f67) a67 (retQ Tryz.prog Tryz.f67 R) (envOf 0 [x0, x1, x2]) w0 := by kernel_rfl
theorem F67_calls (x0 x1 x2 : Value) (R : Value → World → Prop) (w0 : World) (h : F67 x0 x1 x2 R w0) : CallK Tryz.prog 67 #[x0, x1, x2] R w0 :=
 calls_vc (c := bodyOf Tryz.f67) Tryz.func67 (by kernel_rfl) (by kernel_rfl) a67 (by kernel_rfl) (by kernel_rfl) [x0, x1, x2] (by rw [Tryz.ntmps67]; exact Nat.le_of_ble_eq_true rfl) w0 R ((F67_eq x0 x1 x2 R w0).mp h)

/-- canton/wire.PutRow$1, its body as a formula. -/
def F68 (x0 x1 : Value) (R : Value → World → Prop) (w0 : World) : Prop :=
 BoxK Tryz.prog 64 x1 (@hid _ ⟨fun t3_1 w2 =>
 FieldAtK Tryz.prog 64 t3_1 0 (@hid _ ⟨fun t5_3 w4 =>
 LoadK Tryz.prog 9 t5_3 (@hid _ ⟨fun t6_5 w6 =>
 BuildSliceK Tryz.prog 150 1 #[(0, t6_5)] (@hid _ ⟨fun t7_7 w8 =>
 CallV Tryz.prog (.func (.func 64) #[] #[]) #[x0, t7_7] (@hid _ ⟨fun t8_9 w10 =>
 FieldAtK Tryz.prog 64 t3_1 1 (@hid _ ⟨fun t10_11 w12 =>
 LoadK Tryz.prog 61 t10_11 (@hid _ ⟨fun t11_13 w14 =>
 CallV Tryz.prog (.func (.func 25) #[] #[]) #[x0, t11_13] (@hid _ ⟨fun t12_15 w16 =>
 R (.tuple #[]) w16⟩) w14⟩) w12⟩) w10⟩) w8⟩) w6⟩) w4⟩) w2⟩) w0
def a68 : Ann := (.seq .no (.seq .no .no))
theorem F68_eq (x0 x1 : Value) (R : Value → World → Prop) (w0 : World) : F68 x0 x1 R w0 = vc Tryz.prog (bodyOf Tryz.f68) a68 (retQ Tryz.prog Tryz.f68 R) (envOf 0 [x0, x1]) w0 := by kernel_rfl
theorem F68_calls (x0 x1 : Value) (R : Value → World → Prop) (w0 : World) (h : F68 x0 x1 R w0) : CallK Tryz.prog 68 #[x0, x1] R w0 :=
 calls_vc (c := bodyOf Tryz.f68) Tryz.func68 (by kernel_rfl) (by kernel_rfl) a68 (by kernel_rfl) (by kernel_rfl) [x0, x1] (by rw [Tryz.ntmps68]; exact Nat.le_of_ble_eq_true rfl) w0 R ((F68_eq x0 x1 R w0).mp h)

/-- canton/cantonref7.PutText, its body as a formula. -/
def F69 (x0 : Value) (R : Value → World → Prop) (w0 : World) : Prop :=
 BuiltinK Tryz.prog .len #[9] 3 #[false] #[x0] (@hid _ ⟨fun t4_1 w2 =>
 CallV Tryz.prog (.func (.func 54) #[] #[]) #[t4_1] (@hid _ ⟨fun t5_3 w4 =>
 BuiltinK Tryz.prog .append #[29, 9] 29 #[false, false] #[t5_3, x0] (@hid _ ⟨fun t7_5 w6 =>
 R t7_5 w6⟩) w4⟩) w2⟩) w0
def a69 : Ann := (.seq .no (.seq .no .no))
theorem F69_eq (x0 : Value) (R : Value → World → Prop) (w0 : World) : F69 x0 R w0 = vc Tryz.prog (bodyOf Tryz.f69) a69 (retQ Tryz.prog Tryz.f69 R) (envOf 0 [x0]) w0 := by kernel_rfl
theorem F69_calls (x0 : Value) (R : Value → World → Prop) (w0 : World) (h : F69 x0 R w0) : CallK Tryz.prog 69 #[x0] R w0 :=
 calls_vc (c := bodyOf Tryz.f69) Tryz.func69 (by kernel_rfl) (by kernel_rfl) a69 (by kernel_rfl) (by kernel_rfl) [x0] (by rw [Tryz.ntmps69]; exact Nat.le_of_ble_eq_true rfl) w0 R ((F69_eq x0 R w0).mp h)

/-- slices.Clip[[]byte,byte], its body as a formula. -/
def F70 (x0 : Value) (R : Value → World → Prop) (w0 : World) : Prop :=
 BuiltinK Tryz.prog .len #[29] 3 #[false] #[x0] (@hid _ ⟨fun t5_1 w2 =>
 BuiltinK Tryz.prog .len #[29] 3 #[false] #[x0] (@hid _ ⟨fun t7_3 w4 =>
 SliceK Tryz.prog 29 x0 none (some t5_1) (some t7_3) (@hid _ ⟨fun t8_5 w6 =>
 R t8_5 w6⟩) w4⟩) w2⟩) w0
def a70 : Ann := (.seq .no (.seq .no .no))
theorem F70_eq (x0 : Value) (R : Value → World → Prop) (w0 : World) : F70 x0 R w0 = vc Tryz.prog (bodyOf Tryz.f70) a70 (retQ Tryz.prog Tryz.f70 R) (envOf 0 [x0]) w0 := by kernel_rfl
theorem F70_calls (x0 : Value) (R : Value → World → Prop) (w0 : World) (h : F70 x0 R w0) : CallK Tryz.prog 70 #[x0] R w0 :=
 calls_vc (c := bodyOf Tryz.f70) Tryz.func70 (by kernel_rfl) (by kernel_rfl) a70 (by kernel_rfl) (by kernel_rfl) [x0] (by rw [Tryz.ntmps70]; exact Nat.le_of_ble_eq_true rfl) w0 R ((F70_eq x0 R w0).mp h)

/-- slices.Clone[[]byte,byte], its body as a formula. -/
def F71 (x0 : Value) (R : Value → World → Prop) (w0 : World) : Prop :=
 BinK Tryz.prog .eql 29 x0 (.slice none 0 0) (@hid _ ⟨fun t4_1 w2 =>
 BrK t4_1 (@hid _ ⟨
 R (.slice none 0 0) w2⟩) (@hid _ ⟨
 BuildSliceK Tryz.prog 29 0 #[] (@hid _ ⟨fun t5_3 w4 =>
 BuiltinK Tryz.prog .append #[29, 29] 29 #[false, false] #[t5_3, x0] (@hid _ ⟨fun t7_5 w6 =>
 R t7_5 w6⟩) w4⟩) w2⟩)⟩) w0
def a71 : Ann := (.seq .no (.seq (.seq .no (.cond (.seq .no .no) .no)) (.seq .no .no)))
theorem F71_eq (x0 : Value) (R : Value → World → Prop) (w0 : World) : F71 x0 R w0 = vc Tryz.prog (bodyOf Tryz.f71) a71 (retQ Tryz.prog Tryz.f71 R) (envOf 0 [x0]) w0 := by kernel_rfl
theorem F71_calls (x0 : Value) (R : Value → World → Prop) (w0 : World) (h : F71 x0 R w0) : CallK Tryz.prog 71 #[x0] R w0 :=
 calls_vc (c := bodyOf Tryz.f71) Tryz.func71 (by kernel_rfl) (by kernel_rfl) a71 (by kernel_rfl) (by kernel_rfl) [x0] (by rw [Tryz.ntmps71]; exact Nat.le_of_ble_eq_true rfl) w0 R ((F71_eq x0 R w0).mp h)

/-- (*canton/codec.Dec).Int, its body as a formula. -/
def F72 (x0 : Value) (R : Value → World → Prop) (w0 : World) : Prop :=
 NilK Tryz.prog x0 (@hid _ ⟨fun t6_1 w2 =>
 FieldAtK Tryz.prog 125 t6_1 1 (@hid _ ⟨fun t7_3 w4 =>
 LoadK Tryz.prog 30 t7_3 (@hid _ ⟨fun t8_5 w6 =>
 BinK Tryz.prog .neq 30 t8_5 (.int .i64 0) (@hid _ ⟨fun t9_7 w8 =>
 BrK t9_7 (@hid _ ⟨
 R (.int .i64 0) w8⟩) (@hid _ ⟨
 CallV Tryz.prog (.func (.func 98) #[] #[]) #[x0] (@hid _ ⟨fun t12_9 w10 =>
 ExtractK Tryz.prog t12_9 0 (@hid _ ⟨fun t13_11 w12 =>
 ExtractK Tryz.prog t12_9 1 (@hid _ ⟨fun t14_13 w14 =>
 BinK Tryz.prog .neq 30 t14_13 (.int .i64 0) (@hid _ ⟨fun t16_15 w16 =>
 BrK t16_15 (@hid _ ⟨
 NilK Tryz.prog x0 (@hid _ ⟨fun t19_17 w18 =>
 FieldAtK Tryz.prog 125 t19_17 1 (@hid _ ⟨fun t20_19 w20 =>
 StoreK Tryz.prog 30 t20_19 t14_13 (@hid _ ⟨fun tu_21 w22 =>
 R (.int .i64 0) w22⟩) w20⟩) w18⟩) w16⟩) (@hid _ ⟨
 BinK Tryz.prog .shr 146 t13_11 (.int .u64 1) (@hid _ ⟨fun t22_23 w24 =>
 ConvK Tryz.prog 146 2 t22_23 (@hid _ ⟨fun t23_25 w26 =>
 BinK Tryz.prog .and 146 t13_11 (.int .u64 1) (@hid _ ⟨fun t25_27 w28 =>
 ConvK Tryz.prog 146 2 t25_27 (@hid _ ⟨fun t26_29 w30 =>
 UnK Tryz.prog .neg t26_29 (@hid _ ⟨fun t27_31 w32 =>
 BinK Tryz.prog .xor 2 t23_25 t27_31 (@hid _ ⟨fun t28_33 w34 =>
 R t28_33 w34⟩) w32⟩) w30⟩) w28⟩) w26⟩) w24⟩) w16⟩)⟩) w14⟩) w12⟩) w10⟩) w8⟩)⟩) w6⟩) w4⟩) w2⟩) w0
def a72 : Ann := (.seq .no (.seq (.seq .no (.cond (.seq .no .no) .no)) (.seq .no (.seq (.seq .no (.cond (.seq .no (.seq .no .no)) .no)) (.seq .no .no)))))
theorem F72_eq (x0 : Value) (R : Value → World → Prop) (w0 : World) : F72 x0 R w0 = vc Tryz.prog (bodyOf Tryz.f72) a72 (retQ Tryz.prog Tryz.f72 R) (envOf 0 [x0]) w0 := by kernel_rfl
theorem F72_calls (x0 : Value) (R : Value → World → Prop) (w0 : World) (h : F72 x0 R w0) : CallK Tryz.prog 72 #[x0] R w0 :=
 calls_vc (c := bodyOf Tryz.f72) Tryz.func72 (by kernel_rfl) (by kernel_rfl) a72 (by kernel_rfl) (by kernel_rfl) [x0] (by rw [Tryz.ntmps72]; exact Nat.le_of_ble_eq_true rfl) w0 R ((F72_eq x0 R w0).mp h)

/-- (*canton/codec.Dec).Text, its body as a formula. -/
def F73 (x0 : Value) (R : Value → World → Prop) (w0 : World) : Prop :=
 CallV Tryz.prog (.func (.func 72) #[] #[]) #[x0] (@hid _ ⟨fun t6_1 w2 =>
 NilK Tryz.prog x0 (@hid _ ⟨fun t9_3 w4 =>
 FieldAtK Tryz.prog 125 t9_3 1 (@hid _ ⟨fun t10_5 w6 =>
 LoadK Tryz.prog 30 t10_5 (@hid _ ⟨fun t11_7 w8 =>
 BinK Tryz.prog .neq 30 t11_7 (.int .i64 0) (@hid _ ⟨fun t12_9 w10 =>
 BrK t12_9 (@hid _ ⟨
 R (.string { data := #[] }) w10⟩) (@hid _ ⟨
 BinK Tryz.prog .lss 2 t6_1 (.int .i64 0) (@hid _ ⟨fun t15_11 w12 =>
 BrK t15_11 (@hid _ ⟨
 NilK Tryz.prog x0 (@hid _ ⟨fun t17_13 w14 =>
 FieldAtK Tryz.prog 125 t17_13 1 (@hid _ ⟨fun t18_15 w16 =>
 StoreK Tryz.prog 30 t18_15 (.int .i64 2) (@hid _ ⟨fun tu_17 w18 =>
 R (.string { data := #[] }) w18⟩) w16⟩) w14⟩) w12⟩) (@hid _ ⟨
 NilK Tryz.prog x0 (@hid _ ⟨fun t22_19 w20 =>
 FieldAtK Tryz.prog 125 t22_19 0 (@hid _ ⟨fun t23_21 w22 =>
 LoadK Tryz.prog 29 t23_21 (@hid _ ⟨fun t24_23 w24 =>
 BuiltinK Tryz.prog .len #[29] 3 #[false] #[t24_23] (@hid _ ⟨fun t25_25 w26 =>
 BinK Tryz.prog .gtr 2 t6_1 t25_25 (@hid _ ⟨fun t26_27 w28 =>
 BrK t26_27 (@hid _ ⟨
 NilK Tryz.prog x0 (@hid _ ⟨fun t28_29 w30 =>
 FieldAtK Tryz.prog 125 t28_29 1 (@hid _ ⟨fun t29_31 w32 =>
 StoreK Tryz.prog 30 t29_31 (.int .i64 3) (@hid _ ⟨fun tu_33 w34 =>
 R (.string { data := #[] }) w34⟩) w32⟩) w30⟩) w28⟩) (@hid _ ⟨
 NilK Tryz.prog x0 (@hid _ ⟨fun t31_35 w36 =>
 FieldAtK Tryz.prog 125 t31_35 0 (@hid _ ⟨fun t32_37 w38 =>
 LoadK Tryz.prog 29 t32_37 (@hid _ ⟨fun t33_39 w40 =>
 SliceK Tryz.prog 29 t33_39 none (some t6_1) none (@hid _ ⟨fun t35_41 w42 =>
 ConvK Tryz.prog 29 9 t35_41 (@hid _ ⟨fun t36_43 w44 =>
 NilK Tryz.prog x0 (@hid _ ⟨fun t39_45 w46 =>
 FieldAtK Tryz.prog 125 t39_45 0 (@hid _ ⟨fun t40_47 w48 =>
 LoadK Tryz.prog 29 t40_47 (@hid _ ⟨fun t41_49 w50 =>
 SliceK Tryz.prog 29 t41_49 (some t6_1) none none (@hid _ ⟨fun t43_51 w52 =>
 NilK Tryz.prog x0 (@hid _ ⟨fun t44_53 w54 =>
 FieldAtK Tryz.prog 125 t44_53 0 (@hid _ ⟨fun t45_55 w56 =>
 StoreK Tryz.prog 29 t45_55 t43_51 (@hid _ ⟨fun tu_57 w58 =>
 R t36_43 w58⟩) w56⟩) w54⟩) w52⟩) w50⟩) w48⟩) w46⟩) w44⟩) w42⟩) w40⟩) w38⟩) w36⟩) w28⟩)⟩) w26⟩) w24⟩) w22⟩) w20⟩) w12⟩)⟩) w10⟩)⟩) w8⟩) w6⟩) w4⟩) w2⟩) w0
def a73 : Ann := (.seq .no (.seq .no (.seq (.block (.seq .no (.cond (.seq .no .no) (.seq .no (.cond (.seq .no (.seq .no .no)) (.seq .no (.cond (.seq .no (.seq .no .no)) .no))))))) (.seq .no (.seq .no (.seq .no .no))))))
theorem F73_eq (x0 : Value) (R : Value → World → Prop) (w0 : World) : F73 x0 R w0 = vc Tryz.prog (bodyOf Tryz.f73) a73 (retQ Tryz.prog Tryz.f73 R) (envOf 0 [x0]) w0 := by kernel_rfl
theorem F73_calls (x0 : Value) (R : Value → World → Prop) (w0 : World) (h : F73 x0 R w0) : CallK Tryz.prog 73 #[x0] R w0 :=
 calls_vc (c := bodyOf Tryz.f73) Tryz.func73 (by kernel_rfl) (by kernel_rfl) a73 (by kernel_rfl) (by kernel_rfl) [x0] (by rw [Tryz.ntmps73]; exact Nat.le_of_ble_eq_true rfl) w0 R ((F73_eq x0 R w0).mp h)

/-- canton/wire.taken[int64], its body as a formula. -/
def F74 (x0 x1 x2 : Value) (R : Value → World → Prop) (w0 : World) : Prop :=
 CallV Tryz.prog (.func (.func 92) #[] #[]) #[x0, x1] (@hid _ ⟨fun t10_1 w2 =>
 LoopK2 (.slice none 0 0) (.int .i64 0) w2 (@hid _ ⟨fun _ x7_3 x11_4 w5 B6 =>
 BinK Tryz.prog .lss 3 x11_4 t10_1 (@hid _ ⟨fun t12_7 w8 =>
 BrK t12_7 (@hid _ ⟨
 CallV Tryz.prog x2 #[x0] (@hid _ ⟨fun t16_9 w10 =>
 BuildSliceK Tryz.prog 59 1 #[(0, t16_9)] (@hid _ ⟨fun t17_11 w12 =>
 BuiltinK Tryz.prog .append #[59, 59] 59 #[false, false] #[x7_3, t17_11] (@hid _ ⟨fun t18_13 w14 =>
 BinK Tryz.prog .add 3 x11_4 (.int .i64 1) (@hid _ ⟨fun t19_15 w16 =>
 B6 t18_13 t19_15 w16⟩) w14⟩) w12⟩) w10⟩) w8⟩) (@hid _ ⟨
 CallV Tryz.prog (.func (.func 99) #[] #[]) #[x7_3] (@hid _ ⟨fun t21_17 w18 =>
 R t21_17 w18⟩) w8⟩)⟩) w5⟩)⟩) w0
def a74 : Ann := (.seq .no (.seq .no (.seq (.seq .no (.block (.loop [7, 11] [(12, 19)] (.seq .no (.seq (.cond .no .no) (.seq (.block .no) .no)))))) (.seq .no .no))))
theorem F74_eq (x0 x1 x2 : Value) (R : Value → World → Prop) (w0 : World) : F74 x0 x1 x2 R w0 = vc Tryz.prog (bodyOf Tryz.f74) a74 (retQ Tryz.prog Tryz.f74 R) (envOf 0 [x0, x1, x2]) w0 := by kernel_rfl
theorem F74_calls (x0 x1 x2 : Value) (R : Value → World → Prop) (w0 : World) (h : F74 x0 x1 x2 R w0) : CallK Tryz.prog 74 #[x0, x1, x2] R w0 :=
 calls_vc (c := bodyOf Tryz.f74) Tryz.func74 (by kernel_rfl) (by kernel_rfl) a74 (by kernel_rfl) (by kernel_rfl) [x0, x1, x2] (by rw [Tryz.ntmps74]; exact Nat.le_of_ble_eq_true rfl) w0 R ((F74_eq x0 x1 x2 R w0).mp h)

/-- canton/wire.whole[canton/value.Value], its body as a formula. -/
def F75 (x0 x1 : Value) (R : Value → World → Prop) (w0 : World) : Prop :=
 BoxK Tryz.prog 61 x1 (@hid _ ⟨fun t3_1 w2 =>
 AllocK Tryz.prog 61 (@hid _ ⟨fun t4_3 w4 =>
 CallV Tryz.prog (.func (.func 40) #[] #[]) #[x0] (@hid _ ⟨fun t7_5 w6 =>
 BinK Tryz.prog .neq 30 t7_5 (.int .i64 0) (@hid _ ⟨fun t8_7 w8 =>
 BrK t8_7 (@hid _ ⟨
 AllocK Tryz.prog 61 (@hid _ ⟨fun t5_9 w10 =>
 LoadK Tryz.prog 61 t5_9 (@hid _ ⟨fun t9_11 w12 =>
 StoreK Tryz.prog 61 t4_3 t9_11 (@hid _ ⟨fun tu_13 w14 =>
 LoadK Tryz.prog 61 t4_3 (@hid _ ⟨fun c15 w16 => w16 = w14 ∧ R c15 w14⟩) w14⟩) w12⟩) w10⟩) w8⟩) (@hid _ ⟨
 LoadK Tryz.prog 61 t3_1 (@hid _ ⟨fun t10_17 w18 =>
 StoreK Tryz.prog 61 t4_3 t10_17 (@hid _ ⟨fun tu_19 w20 =>
 LoadK Tryz.prog 61 t4_3 (@hid _ ⟨fun c21 w22 => w22 = w20 ∧ R c21 w20⟩) w20⟩) w18⟩) w8⟩)⟩) w6⟩) w4⟩) w2⟩) w0
def a75 : Ann := (.seq .no (.seq (.seq .no (.cond (.seq .no (.seq .no .no)) .no)) (.seq .no .no)))
theorem F75_eq (x0 x1 : Value) (R : Value → World → Prop) (w0 : World) : F75 x0 x1 R w0 = vc Tryz.prog (bodyOf Tryz.f75) a75 (retQ Tryz.prog Tryz.f75 R) (envOf 0 [x0, x1]) w0 := by kernel_rfl
theorem F75_calls (x0 x1 : Value) (R : Value → World → Prop) (w0 : World) (h : F75 x0 x1 R w0) : CallK Tryz.prog 75 #[x0, x1] R w0 :=
 calls_vc (c := bodyOf Tryz.f75) Tryz.func75 (by kernel_rfl) (by kernel_rfl) a75 (by kernel_rfl) (by kernel_rfl) [x0, x1] (by rw [Tryz.ntmps75]; exact Nat.le_of_ble_eq_true rfl) w0 R ((F75_eq x0 x1 R w0).mp h)

/-- canton/wire.whole[canton/stamp.Stamp], its body as a formula. -/
def F76 (x0 x1 : Value) (R : Value → World → Prop) (w0 : World) : Prop :=
 BoxK Tryz.prog 23 x1 (@hid _ ⟨fun t3_1 w2 =>
 AllocK Tryz.prog 23 (@hid _ ⟨fun t4_3 w4 =>
 CallV Tryz.prog (.func (.func 40) #[] #[]) #[x0] (@hid _ ⟨fun t7_5 w6 =>
 BinK Tryz.prog .neq 30 t7_5 (.int .i64 0) (@hid _ ⟨fun t8_7 w8 =>
 BrK t8_7 (@hid _ ⟨
 AllocK Tryz.prog 23 (@hid _ ⟨fun t5_9 w10 =>
 LoadK Tryz.prog 23 t5_9 (@hid _ ⟨fun t9_11 w12 =>
 StoreK Tryz.prog 23 t4_3 t9_11 (@hid _ ⟨fun tu_13 w14 =>
 LoadK Tryz.prog 23 t4_3 (@hid _ ⟨fun c15 w16 => w16 = w14 ∧ R c15 w14⟩) w14⟩) w12⟩) w10⟩) w8⟩) (@hid _ ⟨
 LoadK Tryz.prog 23 t3_1 (@hid _ ⟨fun t10_17 w18 =>
 StoreK Tryz.prog 23 t4_3 t10_17 (@hid _ ⟨fun tu_19 w20 =>
 LoadK Tryz.prog 23 t4_3 (@hid _ ⟨fun c21 w22 => w22 = w20 ∧ R c21 w20⟩) w20⟩) w18⟩) w8⟩)⟩) w6⟩) w4⟩) w2⟩) w0
def a76 : Ann := (.seq .no (.seq (.seq .no (.cond (.seq .no (.seq .no .no)) .no)) (.seq .no .no)))
theorem F76_eq (x0 x1 : Value) (R : Value → World → Prop) (w0 : World) : F76 x0 x1 R w0 = vc Tryz.prog (bodyOf Tryz.f76) a76 (retQ Tryz.prog Tryz.f76 R) (envOf 0 [x0, x1]) w0 := by kernel_rfl
theorem F76_calls (x0 x1 : Value) (R : Value → World → Prop) (w0 : World) (h : F76 x0 x1 R w0) : CallK Tryz.prog 76 #[x0, x1] R w0 :=
 calls_vc (c := bodyOf Tryz.f76) Tryz.func76 (by kernel_rfl) (by kernel_rfl) a76 (by kernel_rfl) (by kernel_rfl) [x0, x1] (by rw [Tryz.ntmps76]; exact Nat.le_of_ble_eq_true rfl) w0 R ((F76_eq x0 x1 R w0).mp h)

/-- canton/wire.whole[canton/row.Row], its body as a formula. -/
def F77 (x0 x1 : Value) (R : Value → World → Prop) (w0 : World) : Prop :=
 BoxK Tryz.prog 26 x1 (@hid _ ⟨fun t3_1 w2 =>
 AllocK Tryz.prog 26 (@hid _ ⟨fun t4_3 w4 =>
 CallV Tryz.prog (.func (.func 40) #[] #[]) #[x0] (@hid _ ⟨fun t7_5 w6 =>
 BinK Tryz.prog .neq 30 t7_5 (.int .i64 0) (@hid _ ⟨fun t8_7 w8 =>
 BrK t8_7 (@hid _ ⟨
 AllocK Tryz.prog 26 (@hid _ ⟨fun t5_9 w10 =>
 LoadK Tryz.prog 26 t5_9 (@hid _ ⟨fun t9_11 w12 =>
 StoreK Tryz.prog 26 t4_3 t9_11 (@hid _ ⟨fun tu_13 w14 =>
 LoadK Tryz.prog 26 t4_3 (@hid _ ⟨fun c15 w16 => w16 = w14 ∧ R c15 w14⟩) w14⟩) w12⟩) w10⟩) w8⟩) (@hid _ ⟨
 LoadK Tryz.prog 26 t3_1 (@hid _ ⟨fun t10_17 w18 =>
 StoreK Tryz.prog 26 t4_3 t10_17 (@hid _ ⟨fun tu_19 w20 =>
 LoadK Tryz.prog 26 t4_3 (@hid _ ⟨fun c21 w22 => w22 = w20 ∧ R c21 w20⟩) w20⟩) w18⟩) w8⟩)⟩) w6⟩) w4⟩) w2⟩) w0
def a77 : Ann := (.seq .no (.seq (.seq .no (.cond (.seq .no (.seq .no .no)) .no)) (.seq .no .no)))
theorem F77_eq (x0 x1 : Value) (R : Value → World → Prop) (w0 : World) : F77 x0 x1 R w0 = vc Tryz.prog (bodyOf Tryz.f77) a77 (retQ Tryz.prog Tryz.f77 R) (envOf 0 [x0, x1]) w0 := by kernel_rfl
theorem F77_calls (x0 x1 : Value) (R : Value → World → Prop) (w0 : World) (h : F77 x0 x1 R w0) : CallK Tryz.prog 77 #[x0, x1] R w0 :=
 calls_vc (c := bodyOf Tryz.f77) Tryz.func77 (by kernel_rfl) (by kernel_rfl) a77 (by kernel_rfl) (by kernel_rfl) [x0, x1] (by rw [Tryz.ntmps77]; exact Nat.le_of_ble_eq_true rfl) w0 R ((F77_eq x0 x1 R w0).mp h)

/-- canton/wire.taken[canton/row.Attr], its body as a formula. -/
def F78 (x0 x1 x2 : Value) (R : Value → World → Prop) (w0 : World) : Prop :=
 CallV Tryz.prog (.func (.func 92) #[] #[]) #[x0, x1] (@hid _ ⟨fun t10_1 w2 =>
 LoopK2 (.slice none 0 0) (.int .i64 0) w2 (@hid _ ⟨fun _ x7_3 x11_4 w5 B6 =>
 BinK Tryz.prog .lss 3 x11_4 t10_1 (@hid _ ⟨fun t12_7 w8 =>
 BrK t12_7 (@hid _ ⟨
 CallV Tryz.prog x2 #[x0] (@hid _ ⟨fun t16_9 w10 =>
 BuildSliceK Tryz.prog 24 1 #[(0, t16_9)] (@hid _ ⟨fun t17_11 w12 =>
 BuiltinK Tryz.prog .append #[24, 24] 24 #[false, false] #[x7_3, t17_11] (@hid _ ⟨fun t18_13 w14 =>
 BinK Tryz.prog .add 3 x11_4 (.int .i64 1) (@hid _ ⟨fun t19_15 w16 =>
 B6 t18_13 t19_15 w16⟩) w14⟩) w12⟩) w10⟩) w8⟩) (@hid _ ⟨
 CallV Tryz.prog (.func (.func 100) #[] #[]) #[x7_3] (@hid _ ⟨fun t21_17 w18 =>
 R t21_17 w18⟩) w8⟩)⟩) w5⟩)⟩) w0
def a78 : Ann := (.seq .no (.seq .no (.seq (.seq .no (.block (.loop [7, 11] [(12, 19)] (.seq .no (.seq (.cond .no .no) (.seq (.block .no) .no)))))) (.seq .no .no))))
theorem F78_eq (x0 x1 x2 : Value) (R : Value → World → Prop) (w0 : World) : F78 x0 x1 x2 R w0 = vc Tryz.prog (bodyOf Tryz.f78) a78 (retQ Tryz.prog Tryz.f78 R) (envOf 0 [x0, x1, x2]) w0 := by kernel_rfl
theorem F78_calls (x0 x1 x2 : Value) (R : Value → World → Prop) (w0 : World) (h : F78 x0 x1 x2 R w0) : CallK Tryz.prog 78 #[x0, x1, x2] R w0 :=
 calls_vc (c := bodyOf Tryz.f78) Tryz.func78 (by kernel_rfl) (by kernel_rfl) a78 (by kernel_rfl) (by kernel_rfl) [x0, x1, x2] (by rw [Tryz.ntmps78]; exact Nat.le_of_ble_eq_true rfl) w0 R ((F78_eq x0 x1 x2 R w0).mp h)

/-- canton/wire.TakeRow$1, its body as a formula. -/
def F79 (x0 : Value) (R : Value → World → Prop) (w0 : World) : Prop :=
 AllocK Tryz.prog 64 (@hid _ ⟨fun t2_1 w2 =>
 CallV Tryz.prog (.func (.func 73) #[] #[]) #[x0] (@hid _ ⟨fun t4_3 w4 =>
 CallV Tryz.prog (.func (.func 35) #[] #[]) #[x0] (@hid _ ⟨fun t6_5 w6 =>
 BuildK Tryz.prog 64 #[(0, t4_3), (1, t6_5)] (@hid _ ⟨fun t7_7 w8 =>
 StoreK Tryz.prog 64 t2_1 t7_7 (@hid _ ⟨fun tu_9 w10 =>
 LoadK Tryz.prog 64 t2_1 (@hid _ ⟨fun c11 w12 => w12 = w10 ∧ R c11 w10⟩) w10⟩) w8⟩) w6⟩) w4⟩) w2⟩) w0
def a79 : Ann := (.seq .no (.seq .no .no))
theorem F79_eq (x0 : Value) (R : Value → World → Prop) (w0 : World) : F79 x0 R w0 = vc Tryz.prog (bodyOf Tryz.f79) a79 (retQ Tryz.prog Tryz.f79 R) (envOf 0 [x0]) w0 := by kernel_rfl
theorem F79_calls (x0 : Value) (R : Value → World → Prop) (w0 : World) (h : F79 x0 R w0) : CallK Tryz.prog 79 #[x0] R w0 :=
 calls_vc (c := bodyOf Tryz.f79) Tryz.func79 (by kernel_rfl) (by kernel_rfl) a79 (by kernel_rfl) (by kernel_rfl) [x0] (by rw [Tryz.ntmps79]; exact Nat.le_of_ble_eq_true rfl) w0 R ((F79_eq x0 R w0).mp h)

/-- canton/cantonref7.Order, its body as a formula. -/
def F80 (x0 x1 : Value) (R : Value → World → Prop) (w0 : World) : Prop :=
 BinK Tryz.prog .lss 2 x0 x1 (@hid _ ⟨fun t8_1 w2 =>
 BrK t8_1 (@hid _ ⟨
 R (.int .i64 (-1)) w2⟩) (@hid _ ⟨
 BinK Tryz.prog .gtr 2 x0 x1 (@hid _ ⟨fun t12_3 w4 =>
 BrK t12_3 (@hid _ ⟨
 R (.int .i64 1) w4⟩) (@hid _ ⟨
 R (.int .i64 0) w4⟩)⟩) w2⟩)⟩) w0
def a80 : Ann := (.seq .no (.seq (.block (.seq .no (.cond (.seq .no .no) (.seq .no (.cond (.seq .no .no) .no))))) (.seq .no .no)))
theorem F80_eq (x0 x1 : Value) (R : Value → World → Prop) (w0 : World) : F80 x0 x1 R w0 = vc Tryz.prog (bodyOf Tryz.f80) a80 (retQ Tryz.prog Tryz.f80 R) (envOf 0 [x0, x1]) w0 := by kernel_rfl
theorem F80_calls (x0 x1 : Value) (R : Value → World → Prop) (w0 : World) (h : F80 x0 x1 R w0) : CallK Tryz.prog 80 #[x0, x1] R w0 :=
 calls_vc (c := bodyOf Tryz.f80) Tryz.func80 (by kernel_rfl) (by kernel_rfl) a80 (by kernel_rfl) (by kernel_rfl) [x0, x1] (by rw [Tryz.ntmps80]; exact Nat.le_of_ble_eq_true rfl) w0 R ((F80_eq x0 x1 R w0).mp h)

/-- canton/cantonref7.OrderText, its body as a formula. -/
def F81 (x0 x1 : Value) (R : Value → World → Prop) (w0 : World) : Prop :=
 BinK Tryz.prog .lss 9 x0 x1 (@hid _ ⟨fun t8_1 w2 =>
 BrK t8_1 (@hid _ ⟨
 R (.int .i64 (-1)) w2⟩) (@hid _ ⟨
 BinK Tryz.prog .gtr 9 x0 x1 (@hid _ ⟨fun t12_3 w4 =>
 BrK t12_3 (@hid _ ⟨
 R (.int .i64 1) w4⟩) (@hid _ ⟨
 R (.int .i64 0) w4⟩)⟩) w2⟩)⟩) w0
def a81 : Ann := (.seq .no (.seq (.block (.seq .no (.cond (.seq .no .no) (.seq .no (.cond (.seq .no .no) .no))))) (.seq .no .no)))
theorem F81_eq (x0 x1 : Value) (R : Value → World → Prop) (w0 : World) : F81 x0 x1 R w0 = vc Tryz.prog (bodyOf Tryz.f81) a81 (retQ Tryz.prog Tryz.f81 R) (envOf 0 [x0, x1]) w0 := by kernel_rfl
theorem F81_calls (x0 x1 : Value) (R : Value → World → Prop) (w0 : World) (h : F81 x0 x1 R w0) : CallK Tryz.prog 81 #[x0, x1] R w0 :=
 calls_vc (c := bodyOf Tryz.f81) Tryz.func81 (by kernel_rfl) (by kernel_rfl) a81 (by kernel_rfl) (by kernel_rfl) [x0, x1] (by rw [Tryz.ntmps81]; exact Nat.le_of_ble_eq_true rfl) w0 R ((F81_eq x0 x1 R w0).mp h)

end Go.Proofs.YtpjeohellehgjaaGreatDoor