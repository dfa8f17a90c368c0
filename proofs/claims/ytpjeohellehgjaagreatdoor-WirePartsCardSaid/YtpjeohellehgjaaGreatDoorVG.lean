import Derived.Test.YtpjeohellehgjaaGreatDoorVF
set_option linter.unusedVariables false
set_option linter.unusedSimpArgs false
set_option maxRecDepth 100000
namespace Go.Proofs.YtpjeohellehgjaaGreatDoor
open Go.RowKit Go.Cn
/-- canton/cantonref7.Name, its body as a formula. -/
def F82 (x0 : Value) (R : Value → World → Prop) (w0 : World) : Prop :=
 BuiltinK Tryz.prog .len #[9] 3 #[false] #[x0] (@hid _ ⟨fun t5_1 w2 =>
 BinK Tryz.prog .lss 3 t5_1 (.int .i64 1) (@hid _ ⟨fun t6_3 w4 =>
 GuardK t6_3 false (fun k w => k x0 w) (@hid _ ⟨fun t8_5 w6 =>
 GuardK t6_3 false (fun k w => BuiltinK Tryz.prog .len #[9] 3 #[false] #[t8_5] k w) (@hid _ ⟨fun t9_7 w8 =>
 GuardK t6_3 false (fun k w => BinK Tryz.prog .gtr 3 t9_7 (.int .i64 8) k w) (@hid _ ⟨fun t10_9 w10 =>
 PickK Tryz.prog t6_3 (.bool true) t10_9 (@hid _ ⟨fun t11_11 w12 =>
 GuardK t11_11 false (fun k w => k x0 w) (@hid _ ⟨fun t13_13 w14 =>
 GuardK t11_11 false (fun k w => ValK Tryz.prog (Instr.index 9 t13_13 (.int .i64 0)) k w) (@hid _ ⟨fun t14_15 w16 =>
 GuardK t11_11 false (fun k w => BinK Tryz.prog .lss 5 t14_15 (.int .u8 97) k w) (@hid _ ⟨fun t15_17 w18 =>
 PickK Tryz.prog t11_11 (.bool true) t15_17 (@hid _ ⟨fun t16_19 w20 =>
 GuardK t16_19 false (fun k w => k x0 w) (@hid _ ⟨fun t18_21 w22 =>
 GuardK t16_19 false (fun k w => ValK Tryz.prog (Instr.index 9 t18_21 (.int .i64 0)) k w) (@hid _ ⟨fun t19_23 w24 =>
 GuardK t16_19 false (fun k w => BinK Tryz.prog .gtr 5 t19_23 (.int .u8 122) k w) (@hid _ ⟨fun t20_25 w26 =>
 PickK Tryz.prog t16_19 (.bool true) t20_25 (@hid _ ⟨fun t21_27 w28 =>
 BrK t21_27 (@hid _ ⟨
 R (.bool false) w28⟩) (@hid _ ⟨
 LoopK1 (.int .i64 0) w28 (@hid _ ⟨fun _ x3_29 w30 B31 =>
 BuiltinK Tryz.prog .len #[9] 3 #[false] #[x0] (@hid _ ⟨fun t24_32 w33 =>
 BinK Tryz.prog .lss 3 x3_29 t24_32 (@hid _ ⟨fun t25_34 w35 =>
 BrK t25_34 (@hid _ ⟨
 ValK Tryz.prog (Instr.index 9 x0 x3_29) (@hid _ ⟨fun t30_36 w37 =>
 BinK Tryz.prog .lss 5 t30_36 (.int .u8 97) (@hid _ ⟨fun t31_38 w39 =>
 GuardK t31_38 false (fun k w => k x0 w) (@hid _ ⟨fun t33_40 w41 =>
 GuardK t31_38 false (fun k w => k x3_29 w) (@hid _ ⟨fun t34_42 w43 =>
 GuardK t31_38 false (fun k w => ValK Tryz.prog (Instr.index 9 t33_40 t34_42) k w) (@hid _ ⟨fun t35_44 w45 =>
 GuardK t31_38 false (fun k w => BinK Tryz.prog .gtr 5 t35_44 (.int .u8 122) k w) (@hid _ ⟨fun t36_46 w47 =>
 PickK Tryz.prog t31_38 (.bool true) t36_46 (@hid _ ⟨fun t37_48 w49 =>
 GuardK t37_48 true (fun k w => k x0 w) (@hid _ ⟨fun t39_50 w51 =>
 GuardK t37_48 true (fun k w => k x3_29 w) (@hid _ ⟨fun t40_52 w53 =>
 GuardK t37_48 true (fun k w => ValK Tryz.prog (Instr.index 9 t39_50 t40_52) k w) (@hid _ ⟨fun t41_54 w55 =>
 GuardK t37_48 true (fun k w => BinK Tryz.prog .lss 5 t41_54 (.int .u8 48) k w) (@hid _ ⟨fun t42_56 w57 =>
 GuardK t37_48 true (fun k w => k t42_56 w) (@hid _ ⟨fun t43_58 w59 =>
 GuardK t43_58 false (fun k w => k x0 w) (@hid _ ⟨fun t44_60 w61 =>
 GuardK t43_58 false (fun k w => k x3_29 w) (@hid _ ⟨fun t45_62 w63 =>
 GuardK t43_58 false (fun k w => ValK Tryz.prog (Instr.index 9 t44_60 t45_62) k w) (@hid _ ⟨fun t46_64 w65 =>
 GuardK t43_58 false (fun k w => BinK Tryz.prog .gtr 5 t46_64 (.int .u8 57) k w) (@hid _ ⟨fun t47_66 w67 =>
 GuardK t37_48 true (fun k w => PickK Tryz.prog t43_58 (.bool true) t47_66 k w) (@hid _ ⟨fun t48_68 w69 =>
 PickK Tryz.prog t37_48 t48_68 (.bool false) (@hid _ ⟨fun t49_70 w71 =>
 BrK t49_70 (@hid _ ⟨
 R (.bool false) w71⟩) (@hid _ ⟨
 BinK Tryz.prog .add 3 x3_29 (.int .i64 1) (@hid _ ⟨fun t27_72 w73 =>
 B31 t27_72 w73⟩) w71⟩)⟩) w69⟩) w67⟩) w65⟩) w63⟩) w61⟩) w59⟩) w57⟩) w55⟩) w53⟩) w51⟩) w49⟩) w47⟩) w45⟩) w43⟩) w41⟩) w39⟩) w37⟩) w35⟩) (@hid _ ⟨
 R (.bool true) w35⟩)⟩) w33⟩) w30⟩)⟩)⟩) w26⟩) w24⟩) w22⟩) w20⟩) w18⟩) w16⟩) w14⟩) w12⟩) w10⟩) w8⟩) w6⟩) w4⟩) w2⟩) w0
def a82 : Ann := (.seq .no (.seq (.seq .no (.cond (.seq .no .no) .no)) (.seq (.seq .no (.block (.loop [3] [(2, 2), (22, 49)] (.seq (.seq .no (.cond .no .no)) (.seq (.block (.seq .no (.cond (.seq .no .no) .no))) .no))))) (.seq .no .no))))
theorem F82_eq (x0 : Value) (R : Value → World → Prop) (w0 : World) : F82 x0 R w0 = vc Tryz.prog (bodyOf Tryz.f82) a82 (retQ Tryz.prog Tryz.f82 R) (envOf 0 [x0]) w0 := by kernel_rfl
theorem F82_calls (x0 : Value) (R : Value → World → Prop) (w0 : World) (h : F82 x0 R w0) : CallK Tryz.prog 82 #[x0] R w0 :=
 calls_vc (c := bodyOf Tryz.f82) Tryz.func82 (by kernel_rfl) (by kernel_rfl) a82 (by kernel_rfl) (by kernel_rfl) [x0] (by rw [Tryz.ntmps82]; exact Nat.le_of_ble_eq_true rfl) w0 R ((F82_eq x0 R w0).mp h)

/-- canton/cantonref7.CheckStamp, its body as a formula. -/
def F83 (x0 : Value) (R : Value → World → Prop) (w0 : World) : Prop :=
 BoxK Tryz.prog 35 x0 (@hid _ ⟨fun t1_1 w2 =>
 FieldAtK Tryz.prog 35 t1_1 0 (@hid _ ⟨fun t4_3 w4 =>
 LoadK Tryz.prog 2 t4_3 (@hid _ ⟨fun t5_5 w6 =>
 CallV Tryz.prog (.func (.func 101) #[] #[]) #[t5_5] (@hid _ ⟨fun t6_7 w8 =>
 UnK Tryz.prog .not t6_7 (@hid _ ⟨fun t7_9 w10 =>
 GuardK t7_9 false (fun k w => FieldAtK Tryz.prog 35 t1_1 1 k w) (@hid _ ⟨fun t9_11 w12 =>
 GuardK t7_9 false (fun k w => LoadK Tryz.prog 2 t9_11 k w) (@hid _ ⟨fun t10_13 w14 =>
 GuardK t7_9 false (fun k w => CallV Tryz.prog (.func (.func 101) #[] #[]) #[t10_13] k w) (@hid _ ⟨fun t11_15 w16 =>
 GuardK t7_9 false (fun k w => UnK Tryz.prog .not t11_15 k w) (@hid _ ⟨fun t12_17 w18 =>
 PickK Tryz.prog t7_9 (.bool true) t12_17 (@hid _ ⟨fun t13_19 w20 =>
 GuardK t13_19 false (fun k w => FieldAtK Tryz.prog 35 t1_1 2 k w) (@hid _ ⟨fun t15_21 w22 =>
 GuardK t13_19 false (fun k w => LoadK Tryz.prog 2 t15_21 k w) (@hid _ ⟨fun t16_23 w24 =>
 GuardK t13_19 false (fun k w => CallV Tryz.prog (.func (.func 101) #[] #[]) #[t16_23] k w) (@hid _ ⟨fun t17_25 w26 =>
 GuardK t13_19 false (fun k w => UnK Tryz.prog .not t17_25 k w) (@hid _ ⟨fun t18_27 w28 =>
 PickK Tryz.prog t13_19 (.bool true) t18_27 (@hid _ ⟨fun t19_29 w30 =>
 BrK t19_29 (@hid _ ⟨
 R (.int .i64 1) w30⟩) (@hid _ ⟨
 FieldAtK Tryz.prog 35 t1_1 3 (@hid _ ⟨fun t21_31 w32 =>
 LoadK Tryz.prog 9 t21_31 (@hid _ ⟨fun t22_33 w34 =>
 CallV Tryz.prog (.func (.func 102) #[] #[]) #[t22_33] (@hid _ ⟨fun t23_35 w36 =>
 UnK Tryz.prog .not t23_35 (@hid _ ⟨fun t24_37 w38 =>
 BrK t24_37 (@hid _ ⟨
 R (.int .i64 5) w38⟩) (@hid _ ⟨
 R (.int .i64 0) w38⟩)⟩) w36⟩) w34⟩) w32⟩) w30⟩)⟩) w28⟩) w26⟩) w24⟩) w22⟩) w20⟩) w18⟩) w16⟩) w14⟩) w12⟩) w10⟩) w8⟩) w6⟩) w4⟩) w2⟩) w0
def a83 : Ann := (.seq .no (.seq (.block (.seq .no (.cond (.seq .no .no) (.seq .no (.cond (.seq .no .no) .no))))) (.seq .no .no)))
theorem F83_eq (x0 : Value) (R : Value → World → Prop) (w0 : World) : F83 x0 R w0 = vc Tryz.prog (bodyOf Tryz.f83) a83 (retQ Tryz.prog Tryz.f83 R) (envOf 0 [x0]) w0 := by kernel_rfl
theorem F83_calls (x0 : Value) (R : Value → World → Prop) (w0 : World) (h : F83 x0 R w0) : CallK Tryz.prog 83 #[x0] R w0 :=
 calls_vc (c := bodyOf Tryz.f83) Tryz.func83 (by kernel_rfl) (by kernel_rfl) a83 (by kernel_rfl) (by kernel_rfl) [x0] (by rw [Tryz.ntmps83]; exact Nat.le_of_ble_eq_true rfl) w0 R ((F83_eq x0 R w0).mp h)

/-- canton/cantonref7.CheckValue, its body as a formula. -/
def F84 (x0 : Value) (R : Value → World → Prop) (w0 : World) : Prop :=
 BoxK Tryz.prog 72 x0 (@hid _ ⟨fun t1_1 w2 =>
 FieldAtK Tryz.prog 72 t1_1 0 (@hid _ ⟨fun t5_3 w4 =>
 LoadK Tryz.prog 3 t5_3 (@hid _ ⟨fun t6_5 w6 =>
 BinK Tryz.prog .eql 3 t6_5 (.int .i64 1) (@hid _ ⟨fun t8_7 w8 =>
 BrK t8_7 (@hid _ ⟨
 R (.int .i64 0) w8⟩) (@hid _ ⟨
 BinK Tryz.prog .eql 3 t6_5 (.int .i64 2) (@hid _ ⟨fun t10_9 w10 =>
 BrK t10_9 (@hid _ ⟨
 FieldAtK Tryz.prog 72 t1_1 2 (@hid _ ⟨fun t11_11 w12 =>
 LoadK Tryz.prog 9 t11_11 (@hid _ ⟨fun t12_13 w14 =>
 BuiltinK Tryz.prog .len #[9] 3 #[false] #[t12_13] (@hid _ ⟨fun t13_15 w16 =>
 BinK Tryz.prog .gtr 3 t13_15 (.int .i64 64) (@hid _ ⟨fun t14_17 w18 =>
 BrK t14_17 (@hid _ ⟨
 R (.int .i64 4) w18⟩) (@hid _ ⟨
 LoopK1 (.int .i64 0) w18 (@hid _ ⟨fun _ x3_19 w20 B21 =>
 FieldAtK Tryz.prog 72 t1_1 2 (@hid _ ⟨fun t16_22 w23 =>
 LoadK Tryz.prog 9 t16_22 (@hid _ ⟨fun t17_24 w25 =>
 BuiltinK Tryz.prog .len #[9] 3 #[false] #[t17_24] (@hid _ ⟨fun t18_26 w27 =>
 BinK Tryz.prog .lss 3 x3_19 t18_26 (@hid _ ⟨fun t19_28 w29 =>
 BrK t19_28 (@hid _ ⟨
 FieldAtK Tryz.prog 72 t1_1 2 (@hid _ ⟨fun t22_30 w31 =>
 LoadK Tryz.prog 9 t22_30 (@hid _ ⟨fun t23_32 w33 =>
 ValK Tryz.prog (Instr.index 9 t23_32 x3_19) (@hid _ ⟨fun t25_34 w35 =>
 BinK Tryz.prog .lss 5 t25_34 (.int .u8 32) (@hid _ ⟨fun t26_36 w37 =>
 GuardK t26_36 false (fun k w => FieldAtK Tryz.prog 72 t1_1 2 k w) (@hid _ ⟨fun t28_38 w39 =>
 GuardK t26_36 false (fun k w => LoadK Tryz.prog 9 t28_38 k w) (@hid _ ⟨fun t29_40 w41 =>
 GuardK t26_36 false (fun k w => k x3_19 w) (@hid _ ⟨fun t30_42 w43 =>
 GuardK t26_36 false (fun k w => ValK Tryz.prog (Instr.index 9 t29_40 t30_42) k w) (@hid _ ⟨fun t31_44 w45 =>
 GuardK t26_36 false (fun k w => BinK Tryz.prog .gtr 5 t31_44 (.int .u8 126) k w) (@hid _ ⟨fun t32_46 w47 =>
 PickK Tryz.prog t26_36 (.bool true) t32_46 (@hid _ ⟨fun t33_48 w49 =>
 GuardK t33_48 false (fun k w => FieldAtK Tryz.prog 72 t1_1 2 k w) (@hid _ ⟨fun t35_50 w51 =>
 GuardK t33_48 false (fun k w => LoadK Tryz.prog 9 t35_50 k w) (@hid _ ⟨fun t36_52 w53 =>
 GuardK t33_48 false (fun k w => k x3_19 w) (@hid _ ⟨fun t37_54 w55 =>
 GuardK t33_48 false (fun k w => ValK Tryz.prog (Instr.index 9 t36_52 t37_54) k w) (@hid _ ⟨fun t38_56 w57 =>
 GuardK t33_48 false (fun k w => BinK Tryz.prog .eql 5 t38_56 (.int .u8 34) k w) (@hid _ ⟨fun t39_58 w59 =>
 PickK Tryz.prog t33_48 (.bool true) t39_58 (@hid _ ⟨fun t40_60 w61 =>
 BrK t40_60 (@hid _ ⟨
 R (.int .i64 2) w61⟩) (@hid _ ⟨
 BinK Tryz.prog .add 3 x3_19 (.int .i64 1) (@hid _ ⟨fun t21_62 w63 =>
 B21 t21_62 w63⟩) w61⟩)⟩) w59⟩) w57⟩) w55⟩) w53⟩) w51⟩) w49⟩) w47⟩) w45⟩) w43⟩) w41⟩) w39⟩) w37⟩) w35⟩) w33⟩) w31⟩) w29⟩) (@hid _ ⟨
 R (.int .i64 0) w29⟩)⟩) w27⟩) w25⟩) w23⟩) w20⟩)⟩)⟩) w16⟩) w14⟩) w12⟩) w10⟩) (@hid _ ⟨
 BinK Tryz.prog .eql 3 t6_5 (.int .i64 3) (@hid _ ⟨fun t42_64 w65 =>
 BrK t42_64 (@hid _ ⟨
 FieldAtK Tryz.prog 72 t1_1 3 (@hid _ ⟨fun t43_66 w67 =>
 LoadK Tryz.prog 59 t43_66 (@hid _ ⟨fun t44_68 w69 =>
 BuiltinK Tryz.prog .len #[59] 3 #[false] #[t44_68] (@hid _ ⟨fun t45_70 w71 =>
 BinK Tryz.prog .gtr 3 t45_70 (.int .i64 16) (@hid _ ⟨fun t46_72 w73 =>
 BrK t46_72 (@hid _ ⟨
 R (.int .i64 4) w73⟩) (@hid _ ⟨
 LoopK1 (.int .i64 1) w73 (@hid _ ⟨fun _ x4_74 w75 B76 =>
 FieldAtK Tryz.prog 72 t1_1 3 (@hid _ ⟨fun t48_77 w78 =>
 LoadK Tryz.prog 59 t48_77 (@hid _ ⟨fun t49_79 w80 =>
 BuiltinK Tryz.prog .len #[59] 3 #[false] #[t49_79] (@hid _ ⟨fun t50_81 w82 =>
 BinK Tryz.prog .lss 3 x4_74 t50_81 (@hid _ ⟨fun t51_83 w84 =>
 BrK t51_83 (@hid _ ⟨
 DrawK (@hid _ ⟨fun S85 w86 =>
 TakeS Tryz.prog S85 (Instr.fieldAt 72 t1_1 3) (@hid _ ⟨fun t54_87 =>
 TakeS Tryz.prog S85 (Instr.loadAt 59 t54_87) (@hid _ ⟨fun t55_88 =>
 BinT Tryz.prog S85 .sub 3 x4_74 (.int .i64 1) (@hid _ ⟨fun t57_89 =>
 TakeS Tryz.prog S85 (Instr.indexAt 59 t55_88 t57_89) (@hid _ ⟨fun t58_90 =>
 TakeS Tryz.prog S85 (Instr.loadAt 2 t58_90) (@hid _ ⟨fun t59_91 =>
 TakeS Tryz.prog S85 (Instr.fieldAt 72 t1_1 3) (@hid _ ⟨fun t60_92 =>
 TakeS Tryz.prog S85 (Instr.loadAt 59 t60_92) (@hid _ ⟨fun t61_93 =>
 TakeS Tryz.prog S85 (Instr.indexAt 59 t61_93 x4_74) (@hid _ ⟨fun t63_94 =>
 TakeS Tryz.prog S85 (Instr.loadAt 2 t63_94) (@hid _ ⟨fun t64_95 =>
 BinT Tryz.prog S85 .geq 2 t59_91 t64_95 (@hid _ ⟨fun t65_96 =>
 BrK t65_96 (@hid _ ⟨
 R (.int .i64 2) w86⟩) (@hid _ ⟨
 BinK Tryz.prog .add 3 x4_74 (.int .i64 1) (@hid _ ⟨fun t53_97 w98 =>
 B76 t53_97 w98⟩) w86⟩)⟩)⟩)⟩)⟩)⟩)⟩)⟩)⟩)⟩)⟩)⟩) w84⟩) (@hid _ ⟨
 R (.int .i64 0) w84⟩)⟩) w82⟩) w80⟩) w78⟩) w75⟩)⟩)⟩) w71⟩) w69⟩) w67⟩) w65⟩) (@hid _ ⟨
 R (.int .i64 7) w65⟩)⟩) w10⟩)⟩) w8⟩)⟩) w6⟩) w4⟩) w2⟩) w0
def a84 : Ann := (.seq .no (.seq (.seq .no (.block (.seq .no (.cond (.seq .no .no) (.seq .no (.cond (.seq (.seq .no (.cond (.seq .no .no) .no)) (.seq (.seq .no (.block (.loop [3] [(2, 2), (15, 40)] (.seq (.seq .no (.cond .no .no)) (.seq (.block (.seq .no (.cond (.seq .no .no) .no))) .no))))) (.seq .no .no))) (.seq .no (.cond (.seq (.seq .no (.cond (.seq .no .no) .no)) (.seq (.seq .no (.block (.loop [4] [(2, 2), (47, 65)] (.seq (.seq .no (.cond .no .no)) (.seq (.block (.seq (.plan (.take 0 (.take 1 (.take 2 (.take 3 (.take 4 (.take 5 (.take 6 (.take 7 (.take 8 (.take 9 (.take 10 (.take 11 .done))))))))))))) (.cond (.seq .no .no) .no))) .no))))) (.seq .no .no))) .no)))))))) (.seq .no .no)))
theorem F84_eq (x0 : Value) (R : Value → World → Prop) (w0 : World) : F84 x0 R w0 = vc Tryz.prog (bodyOf Tryz.f84) a84 (retQ Tryz.prog Tryz.f84 R) (envOf 0 [x0]) w0 := by kernel_rfl
theorem F84_calls (x0 : Value) (R : Value → World → Prop) (w0 : World) (h : F84 x0 R w0) : CallK Tryz.prog 84 #[x0] R w0 :=
 calls_vc (c := bodyOf Tryz.f84) Tryz.func84 (by kernel_rfl) (by kernel_rfl) a84 (by kernel_rfl) (by kernel_rfl) [x0] (by rw [Tryz.ntmps84]; exact Nat.le_of_ble_eq_true rfl) w0 R ((F84_eq x0 R w0).mp h)

/-- canton/stamp.Compare, its body as a formula. -/
def F85 (x0 x1 : Value) (R : Value → World → Prop) (w0 : World) : Prop :=
 BoxK Tryz.prog 23 x0 (@hid _ ⟨fun t2_1 w2 =>
 BoxK Tryz.prog 23 x1 (@hid _ ⟨fun t3_3 w4 =>
 DrawK (@hid _ ⟨fun S5 w6 =>
 TakeS Tryz.prog S5 (Instr.fieldAt 23 t2_1 0) (@hid _ ⟨fun t5_7 =>
 TakeS Tryz.prog S5 (Instr.loadAt 2 t5_7) (@hid _ ⟨fun t6_8 =>
 TakeS Tryz.prog S5 (Instr.fieldAt 23 t3_3 0) (@hid _ ⟨fun t7_9 =>
 TakeS Tryz.prog S5 (Instr.loadAt 2 t7_9) (@hid _ ⟨fun t8_10 =>
 TakeS Tryz.prog S5 (Instr.fieldAt 23 t2_1 1) (@hid _ ⟨fun t10_11 =>
 TakeS Tryz.prog S5 (Instr.loadAt 2 t10_11) (@hid _ ⟨fun t11_12 =>
 TakeS Tryz.prog S5 (Instr.fieldAt 23 t3_3 1) (@hid _ ⟨fun t12_13 =>
 TakeS Tryz.prog S5 (Instr.loadAt 2 t12_13) (@hid _ ⟨fun t13_14 =>
 TakeS Tryz.prog S5 (Instr.fieldAt 23 t2_1 2) (@hid _ ⟨fun t15_15 =>
 TakeS Tryz.prog S5 (Instr.loadAt 2 t15_15) (@hid _ ⟨fun t16_16 =>
 TakeS Tryz.prog S5 (Instr.fieldAt 23 t3_3 2) (@hid _ ⟨fun t17_17 =>
 TakeS Tryz.prog S5 (Instr.loadAt 2 t17_17) (@hid _ ⟨fun t18_18 =>
 TakeS Tryz.prog S5 (Instr.fieldAt 23 t2_1 3) (@hid _ ⟨fun t20_19 =>
 TakeS Tryz.prog S5 (Instr.loadAt 9 t20_19) (@hid _ ⟨fun t21_20 =>
 TakeS Tryz.prog S5 (Instr.fieldAt 23 t3_3 3) (@hid _ ⟨fun t22_21 =>
 TakeS Tryz.prog S5 (Instr.loadAt 9 t22_21) (@hid _ ⟨fun t23_22 =>
 (CallV Tryz.prog (.func (.func 104) #[] #[]) #[t6_8, t8_10] (@hid _ ⟨fun t9_23 w24 =>
 S5 w24 ∧
 (CallV Tryz.prog (.func (.func 104) #[] #[]) #[t11_12, t13_14] (@hid _ ⟨fun t14_25 w26 =>
 S5 w26 ∧
 (CallV Tryz.prog (.func (.func 104) #[] #[]) #[t16_16, t18_18] (@hid _ ⟨fun t19_27 w28 =>
 S5 w28 ∧
 (CallV Tryz.prog (.func (.func 105) #[] #[]) #[t21_20, t23_22] (@hid _ ⟨fun t24_29 w30 =>
 S5 w30 ∧
 (BuildSliceK Tryz.prog 145 4 #[(0, t9_23), (1, t14_25), (2, t19_27), (3, t24_29)] (@hid _ ⟨fun t25_31 w32 =>
 S5 w32 ∧
 (CallV Tryz.prog (.func (.func 103) #[] #[]) #[t25_31] (@hid _ ⟨fun t26_33 w34 =>
 S5 w34 ∧
 R t26_33 w34⟩) w32) ∧
 True⟩) w30) ∧
 True⟩) w28) ∧
 True⟩) w26) ∧
 True⟩) w24) ∧
 True⟩) w6) ∧
 True⟩)⟩)⟩)⟩)⟩)⟩)⟩)⟩)⟩)⟩)⟩)⟩)⟩)⟩)⟩)⟩)⟩) w4⟩) w2⟩) w0
def a85 : Ann := (.seq .no (.seq (.plan (.take 0 (.take 1 (.take 2 (.take 3 (.take 5 (.take 6 (.take 7 (.take 8 (.take 10 (.take 11 (.take 12 (.take 13 (.take 15 (.take 16 (.take 17 (.take 18 (.alt 4 (.alt 9 (.alt 14 (.alt 19 (.alt 20 (.alt 21 (.take 22 .done) .nil) .nil) .nil) .nil) .nil) .nil)))))))))))))))))) .no))
theorem F85_eq (x0 x1 : Value) (R : Value → World → Prop) (w0 : World) : F85 x0 x1 R w0 = vc Tryz.prog (bodyOf Tryz.f85) a85 (retQ Tryz.prog Tryz.f85 R) (envOf 0 [x0, x1]) w0 := by kernel_rfl
theorem F85_calls (x0 x1 : Value) (R : Value → World → Prop) (w0 : World) (h : F85 x0 x1 R w0) : CallK Tryz.prog 85 #[x0, x1] R w0 :=
 calls_vc (c := bodyOf Tryz.f85) Tryz.func85 (by kernel_rfl) (by kernel_rfl) a85 (by kernel_rfl) (by kernel_rfl) [x0, x1] (by rw [Tryz.ntmps85]; exact Nat.le_of_ble_eq_true rfl) w0 R ((F85_eq x0 x1 R w0).mp h)

/-- canton/row.SameAttrs, its body as a formula. -/
def F86 (x0 x1 : Value) (R : Value → World → Prop) (w0 : World) : Prop :=
 CallV Tryz.prog (.func (.func 106) #[] #[]) #[x0, x1, (.func (.func 107) #[] #[])] (@hid _ ⟨fun t7_1 w2 =>
 R t7_1 w2⟩) w0
def a86 : Ann := (.seq .no (.seq .no .no))
theorem F86_eq (x0 x1 : Value) (R : Value → World → Prop) (w0 : World) : F86 x0 x1 R w0 = vc Tryz.prog (bodyOf Tryz.f86) a86 (retQ Tryz.prog Tryz.f86 R) (envOf 0 [x0, x1]) w0 := by kernel_rfl
theorem F86_calls (x0 x1 : Value) (R : Value → World → Prop) (w0 : World) (h : F86 x0 x1 R w0) : CallK Tryz.prog 86 #[x0, x1] R w0 :=
 calls_vc (c := bodyOf Tryz.f86) Tryz.func86 (by kernel_rfl) (by kernel_rfl) a86 (by kernel_rfl) (by kernel_rfl) [x0, x1] (by rw [Tryz.ntmps86]; exact Nat.le_of_ble_eq_true rfl) w0 R ((F86_eq x0 x1 R w0).mp h)

/-- canton/row.Name, its body as a formula. -/
def F87 (x0 : Value) (R : Value → World → Prop) (w0 : World) : Prop :=
 BinK Tryz.prog .eql 9 x0 (.string { data := #[] }) (@hid _ ⟨fun t5_1 w2 =>
 GuardK t5_1 false (fun k w => k x0 w) (@hid _ ⟨fun t7_3 w4 =>
 GuardK t5_1 false (fun k w => BuiltinK Tryz.prog .len #[9] 3 #[false] #[t7_3] k w) (@hid _ ⟨fun t8_5 w6 =>
 GuardK t5_1 false (fun k w => BinK Tryz.prog .gtr 3 t8_5 (.int .i64 8) k w) (@hid _ ⟨fun t9_7 w8 =>
 PickK Tryz.prog t5_1 (.bool true) t9_7 (@hid _ ⟨fun t10_9 w10 =>
 GuardK t10_9 false (fun k w => k x0 w) (@hid _ ⟨fun t12_11 w12 =>
 GuardK t10_9 false (fun k w => ValK Tryz.prog (Instr.index 9 t12_11 (.int .i64 0)) k w) (@hid _ ⟨fun t13_13 w14 =>
 GuardK t10_9 false (fun k w => BinK Tryz.prog .lss 5 t13_13 (.int .u8 97) k w) (@hid _ ⟨fun t14_15 w16 =>
 PickK Tryz.prog t10_9 (.bool true) t14_15 (@hid _ ⟨fun t15_17 w18 =>
 BrK t15_17 (@hid _ ⟨
 R (.bool false) w18⟩) (@hid _ ⟨
 BuiltinK Tryz.prog .len #[9] 3 #[false] #[x0] (@hid _ ⟨fun t17_19 w20 =>
 LoopK1 (.int .i64 0) w20 (@hid _ ⟨fun _ x18_21 w22 B23 =>
 BinK Tryz.prog .lss 3 x18_21 t17_19 (@hid _ ⟨fun t19_24 w25 =>
 BrK t19_24 (@hid _ ⟨
 ValK Tryz.prog (Instr.index 9 x0 x18_21) (@hid _ ⟨fun t23_26 w27 =>
 BinK Tryz.prog .lss 5 t23_26 (.int .u8 97) (@hid _ ⟨fun t24_28 w29 =>
 GuardK t24_28 false (fun k w => k x0 w) (@hid _ ⟨fun t26_30 w31 =>
 GuardK t24_28 false (fun k w => k x18_21 w) (@hid _ ⟨fun t27_32 w33 =>
 GuardK t24_28 false (fun k w => ValK Tryz.prog (Instr.index 9 t26_30 t27_32) k w) (@hid _ ⟨fun t28_34 w35 =>
 GuardK t24_28 false (fun k w => BinK Tryz.prog .gtr 5 t28_34 (.int .u8 122) k w) (@hid _ ⟨fun t29_36 w37 =>
 PickK Tryz.prog t24_28 (.bool true) t29_36 (@hid _ ⟨fun t30_38 w39 =>
 GuardK t30_38 true (fun k w => k x0 w) (@hid _ ⟨fun t32_40 w41 =>
 GuardK t30_38 true (fun k w => k x18_21 w) (@hid _ ⟨fun t33_42 w43 =>
 GuardK t30_38 true (fun k w => ValK Tryz.prog (Instr.index 9 t32_40 t33_42) k w) (@hid _ ⟨fun t34_44 w45 =>
 GuardK t30_38 true (fun k w => BinK Tryz.prog .lss 5 t34_44 (.int .u8 48) k w) (@hid _ ⟨fun t35_46 w47 =>
 GuardK t30_38 true (fun k w => k t35_46 w) (@hid _ ⟨fun t36_48 w49 =>
 GuardK t36_48 false (fun k w => k x0 w) (@hid _ ⟨fun t37_50 w51 =>
 GuardK t36_48 false (fun k w => k x18_21 w) (@hid _ ⟨fun t38_52 w53 =>
 GuardK t36_48 false (fun k w => ValK Tryz.prog (Instr.index 9 t37_50 t38_52) k w) (@hid _ ⟨fun t39_54 w55 =>
 GuardK t36_48 false (fun k w => BinK Tryz.prog .gtr 5 t39_54 (.int .u8 57) k w) (@hid _ ⟨fun t40_56 w57 =>
 GuardK t30_38 true (fun k w => PickK Tryz.prog t36_48 (.bool true) t40_56 k w) (@hid _ ⟨fun t41_58 w59 =>
 PickK Tryz.prog t30_38 t41_58 (.bool false) (@hid _ ⟨fun t42_60 w61 =>
 BrK t42_60 (@hid _ ⟨
 R (.bool false) w61⟩) (@hid _ ⟨
 BinK Tryz.prog .add 3 x18_21 (.int .i64 1) (@hid _ ⟨fun t43_62 w63 =>
 B23 t43_62 w63⟩) w61⟩)⟩) w59⟩) w57⟩) w55⟩) w53⟩) w51⟩) w49⟩) w47⟩) w45⟩) w43⟩) w41⟩) w39⟩) w37⟩) w35⟩) w33⟩) w31⟩) w29⟩) w27⟩) w25⟩) (@hid _ ⟨
 R (.bool true) w25⟩)⟩) w22⟩)⟩) w18⟩)⟩) w16⟩) w14⟩) w12⟩) w10⟩) w8⟩) w6⟩) w4⟩) w2⟩) w0
def a87 : Ann := (.seq .no (.seq (.seq .no (.cond (.seq .no .no) .no)) (.seq (.seq .no (.block (.loop [18] [(2, 3), (19, 43)] (.seq .no (.seq (.cond .no .no) (.seq (.block (.seq .no (.seq .no (.cond (.seq .no .no) .no)))) .no)))))) (.seq .no .no))))
theorem F87_eq (x0 : Value) (R : Value → World → Prop) (w0 : World) : F87 x0 R w0 = vc Tryz.prog (bodyOf Tryz.f87) a87 (retQ Tryz.prog Tryz.f87 R) (envOf 0 [x0]) w0 := by kernel_rfl
theorem F87_calls (x0 : Value) (R : Value → World → Prop) (w0 : World) (h : F87 x0 R w0) : CallK Tryz.prog 87 #[x0] R w0 :=
 calls_vc (c := bodyOf Tryz.f87) Tryz.func87 (by kernel_rfl) (by kernel_rfl) a87 (by kernel_rfl) (by kernel_rfl) [x0] (by rw [Tryz.ntmps87]; exact Nat.le_of_ble_eq_true rfl) w0 R ((F87_eq x0 R w0).mp h)

/-- canton/stamp.Check, its body as a formula. -/
def F88 (x0 : Value) (R : Value → World → Prop) (w0 : World) : Prop :=
 BoxK Tryz.prog 23 x0 (@hid _ ⟨fun t1_1 w2 =>
 FieldAtK Tryz.prog 23 t1_1 0 (@hid _ ⟨fun t4_3 w4 =>
 LoadK Tryz.prog 2 t4_3 (@hid _ ⟨fun t5_5 w6 =>
 CallV Tryz.prog (.func (.func 109) #[] #[]) #[t5_5] (@hid _ ⟨fun t6_7 w8 =>
 UnK Tryz.prog .not t6_7 (@hid _ ⟨fun t7_9 w10 =>
 GuardK t7_9 false (fun k w => FieldAtK Tryz.prog 23 t1_1 1 k w) (@hid _ ⟨fun t9_11 w12 =>
 GuardK t7_9 false (fun k w => LoadK Tryz.prog 2 t9_11 k w) (@hid _ ⟨fun t10_13 w14 =>
 GuardK t7_9 false (fun k w => CallV Tryz.prog (.func (.func 109) #[] #[]) #[t10_13] k w) (@hid _ ⟨fun t11_15 w16 =>
 GuardK t7_9 false (fun k w => UnK Tryz.prog .not t11_15 k w) (@hid _ ⟨fun t12_17 w18 =>
 PickK Tryz.prog t7_9 (.bool true) t12_17 (@hid _ ⟨fun t13_19 w20 =>
 GuardK t13_19 false (fun k w => FieldAtK Tryz.prog 23 t1_1 2 k w) (@hid _ ⟨fun t15_21 w22 =>
 GuardK t13_19 false (fun k w => LoadK Tryz.prog 2 t15_21 k w) (@hid _ ⟨fun t16_23 w24 =>
 GuardK t13_19 false (fun k w => CallV Tryz.prog (.func (.func 109) #[] #[]) #[t16_23] k w) (@hid _ ⟨fun t17_25 w26 =>
 GuardK t13_19 false (fun k w => UnK Tryz.prog .not t17_25 k w) (@hid _ ⟨fun t18_27 w28 =>
 PickK Tryz.prog t13_19 (.bool true) t18_27 (@hid _ ⟨fun t19_29 w30 =>
 BrK t19_29 (@hid _ ⟨
 R (.int .i64 1) w30⟩) (@hid _ ⟨
 FieldAtK Tryz.prog 23 t1_1 3 (@hid _ ⟨fun t21_31 w32 =>
 LoadK Tryz.prog 9 t21_31 (@hid _ ⟨fun t22_33 w34 =>
 CallV Tryz.prog (.func (.func 110) #[] #[]) #[t22_33] (@hid _ ⟨fun t23_35 w36 =>
 UnK Tryz.prog .not t23_35 (@hid _ ⟨fun t24_37 w38 =>
 BrK t24_37 (@hid _ ⟨
 R (.int .i64 5) w38⟩) (@hid _ ⟨
 R (.int .i64 0) w38⟩)⟩) w36⟩) w34⟩) w32⟩) w30⟩)⟩) w28⟩) w26⟩) w24⟩) w22⟩) w20⟩) w18⟩) w16⟩) w14⟩) w12⟩) w10⟩) w8⟩) w6⟩) w4⟩) w2⟩) w0
def a88 : Ann := (.seq .no (.seq (.block (.seq .no (.cond (.seq .no .no) (.seq .no (.cond (.seq .no .no) .no))))) (.seq .no .no)))
theorem F88_eq (x0 : Value) (R : Value → World → Prop) (w0 : World) : F88 x0 R w0 = vc Tryz.prog (bodyOf Tryz.f88) a88 (retQ Tryz.prog Tryz.f88 R) (envOf 0 [x0]) w0 := by kernel_rfl
theorem F88_calls (x0 : Value) (R : Value → World → Prop) (w0 : World) (h : F88 x0 R w0) : CallK Tryz.prog 88 #[x0] R w0 :=
 calls_vc (c := bodyOf Tryz.f88) Tryz.func88 (by kernel_rfl) (by kernel_rfl) a88 (by kernel_rfl) (by kernel_rfl) [x0] (by rw [Tryz.ntmps88]; exact Nat.le_of_ble_eq_true rfl) w0 R ((F88_eq x0 R w0).mp h)

/-- canton/row.attrs, its body as a formula. -/
def F89 (x0 : Value) (R : Value → World → Prop) (w0 : World) : Prop :=
 BuiltinK Tryz.prog .len #[24] 3 #[false] #[x0] (@hid _ ⟨fun t7_1 w2 =>
 BinK Tryz.prog .gtr 3 t7_1 (.int .i64 32) (@hid _ ⟨fun t8_3 w4 =>
 BrK t8_3 (@hid _ ⟨
 R (.int .i64 4) w4⟩) (@hid _ ⟨
 BuiltinK Tryz.prog .len #[24] 3 #[false] #[x0] (@hid _ ⟨fun t10_5 w6 =>
 LoopK1 (.int .i64 0) w6 (@hid _ ⟨fun _ x11_7 w8 B9 =>
 BinK Tryz.prog .lss 3 x11_7 t10_5 (@hid _ ⟨fun t12_10 w11 =>
 BrK t12_10 (@hid _ ⟨
 IndexAtK Tryz.prog 24 x0 x11_7 (@hid _ ⟨fun t14_12 w13 =>
 LoadK Tryz.prog 64 t14_12 (@hid _ ⟨fun t15_14 w15 =>
 AllocK Tryz.prog 64 (@hid _ ⟨fun t4_16 w17 =>
 StoreK Tryz.prog 64 t4_16 t15_14 (@hid _ ⟨fun tu_18 w19 =>
 FieldAtK Tryz.prog 64 t4_16 0 (@hid _ ⟨fun t17_20 w21 =>
 LoadK Tryz.prog 9 t17_20 (@hid _ ⟨fun t18_22 w23 =>
 CallV Tryz.prog (.func (.func 87) #[] #[]) #[t18_22] (@hid _ ⟨fun t19_24 w25 =>
 UnK Tryz.prog .not t19_24 (@hid _ ⟨fun t20_26 w27 =>
 BrK t20_26 (@hid _ ⟨
 R (.int .i64 5) w27⟩) (@hid _ ⟨
 DrawK (@hid _ ⟨fun S28 w29 =>
 BinT Tryz.prog S28 .gtr 3 x11_7 (.int .i64 0) (@hid _ ⟨fun t23_30 =>
 TakeG t23_30 true (fun k => k x0) (@hid _ ⟨fun t25_31 =>
 TakeG t23_30 true (fun k => k x11_7) (@hid _ ⟨fun t26_32 =>
 TakeG t23_30 true (fun k => BinT Tryz.prog S28 .sub 3 t26_32 (.int .i64 1) k) (@hid _ ⟨fun t27_33 =>
 TakeG t23_30 true (fun k => TakeS Tryz.prog S28 (Instr.indexAt 24 t25_31 t27_33) k) (@hid _ ⟨fun t28_34 =>
 TakeG t23_30 true (fun k => TakeS Tryz.prog S28 (Instr.fieldAt 64 t28_34 0) k) (@hid _ ⟨fun t29_35 =>
 TakeG t23_30 true (fun k => TakeS Tryz.prog S28 (Instr.loadAt 9 t29_35) k) (@hid _ ⟨fun t30_36 =>
 TakeG t23_30 true (fun k => TakeS Tryz.prog S28 (Instr.fieldAt 64 t4_16 0) k) (@hid _ ⟨fun t31_37 =>
 TakeG t23_30 true (fun k => TakeS Tryz.prog S28 (Instr.loadAt 9 t31_37) k) (@hid _ ⟨fun t32_38 =>
 TakeG t23_30 true (fun k => BinT Tryz.prog S28 .geq 9 t30_36 t32_38 k) (@hid _ ⟨fun t33_39 =>
 PickT t23_30 t33_39 (.bool false) (@hid _ ⟨fun t34_40 =>
 BrK t34_40 (@hid _ ⟨
 R (.int .i64 6) w29⟩) (@hid _ ⟨
 FieldAtK Tryz.prog 64 t4_16 1 (@hid _ ⟨fun t35_41 w42 =>
 LoadK Tryz.prog 61 t35_41 (@hid _ ⟨fun t36_43 w44 =>
 CallV Tryz.prog (.func (.func 111) #[] #[]) #[t36_43] (@hid _ ⟨fun t37_45 w46 =>
 BinK Tryz.prog .neq 30 t37_45 (.int .i64 0) (@hid _ ⟨fun t39_47 w48 =>
 BrK t39_47 (@hid _ ⟨
 R t37_45 w48⟩) (@hid _ ⟨
 BinK Tryz.prog .add 3 x11_7 (.int .i64 1) (@hid _ ⟨fun t41_49 w50 =>
 B9 t41_49 w50⟩) w48⟩)⟩) w46⟩) w44⟩) w42⟩) w29⟩)⟩)⟩)⟩)⟩)⟩)⟩)⟩)⟩)⟩)⟩)⟩)⟩) w27⟩)⟩) w25⟩) w23⟩) w21⟩) w19⟩) w17⟩) w15⟩) w13⟩) w11⟩) (@hid _ ⟨
 R (.int .i64 0) w11⟩)⟩) w8⟩)⟩) w4⟩)⟩) w2⟩) w0
def a89 : Ann := (.seq .no (.seq (.seq .no (.cond (.seq .no .no) .no)) (.seq (.seq .no (.block (.loop [11] [(2, 5), (12, 41)] (.seq .no (.seq (.cond .no .no) (.seq (.block (.seq .no (.seq (.block (.seq .no (.cond (.seq .no .no) (.seq (.plan (.take 0 (.take 1 (.take 2 (.take 3 (.take 4 (.take 5 (.take 6 (.take 7 (.take 8 (.take 9 (.take 10 (.take 11 (.take 12 (.take 13 .done))))))))))))))) (.cond (.seq .no .no) .no))))) (.seq .no (.seq .no (.cond (.seq .no .no) .no)))))) .no)))))) (.seq .no .no))))
theorem F89_eq (x0 : Value) (R : Value → World → Prop) (w0 : World) : F89 x0 R w0 = vc Tryz.prog (bodyOf Tryz.f89) a89 (retQ Tryz.prog Tryz.f89 R) (envOf 0 [x0]) w0 := by kernel_rfl
theorem F89_calls (x0 : Value) (R : Value → World → Prop) (w0 : World) (h : F89 x0 R w0) : CallK Tryz.prog 89 #[x0] R w0 :=
 calls_vc (c := bodyOf Tryz.f89) Tryz.func89 (by kernel_rfl) (by kernel_rfl) a89 (by kernel_rfl) (by kernel_rfl) [x0] (by rw [Tryz.ntmps89]; exact Nat.le_of_ble_eq_true rfl) w0 R ((F89_eq x0 R w0).mp h)

/-- canton/codec.Seal, its body as a formula. -/
def F90 (x0 : Value) (R : Value → World → Prop) (w0 : World) : Prop :=
 CallV Tryz.prog (.func (.func 71) #[] #[]) #[x0] (@hid _ ⟨fun t7_1 w2 =>
 CallV Tryz.prog (.func (.func 112) #[] #[]) #[x0] (@hid _ ⟨fun t9_3 w4 =>
 LoopK2 t7_1 (.int .i64 0) w4 (@hid _ ⟨fun _ x3_5 x10_6 w7 B8 =>
 BinK Tryz.prog .lss 3 x10_6 (.int .i64 4) (@hid _ ⟨fun t11_9 w10 =>
 BrK t11_9 (@hid _ ⟨
 BinK Tryz.prog .mul 3 (.int .i64 8) x10_6 (@hid _ ⟨fun t16_11 w12 =>
 BinK Tryz.prog .shr 106 t9_3 t16_11 (@hid _ ⟨fun t17_13 w14 =>
 ConvK Tryz.prog 106 5 t17_13 (@hid _ ⟨fun t18_15 w16 =>
 BuildSliceK Tryz.prog 29 1 #[(0, t18_15)] (@hid _ ⟨fun t19_17 w18 =>
 BuiltinK Tryz.prog .append #[29, 29] 29 #[false, false] #[x3_5, t19_17] (@hid _ ⟨fun t20_19 w20 =>
 BinK Tryz.prog .add 3 x10_6 (.int .i64 1) (@hid _ ⟨fun t21_21 w22 =>
 B8 t20_19 t21_21 w22⟩) w20⟩) w18⟩) w16⟩) w14⟩) w12⟩) w10⟩) (@hid _ ⟨
 CallV Tryz.prog (.func (.func 70) #[] #[]) #[x3_5] (@hid _ ⟨fun t23_23 w24 =>
 R t23_23 w24⟩) w10⟩)⟩) w7⟩)⟩) w2⟩) w0
def a90 : Ann := (.seq .no (.seq .no (.seq (.seq .no (.block (.loop [3, 10] [(5, 5), (11, 21)] (.seq .no (.seq (.cond .no .no) (.seq (.block (.seq .no .no)) .no)))))) (.seq .no .no))))
theorem F90_eq (x0 : Value) (R : Value → World → Prop) (w0 : World) : F90 x0 R w0 = vc Tryz.prog (bodyOf Tryz.f90) a90 (retQ Tryz.prog Tryz.f90 R) (envOf 0 [x0]) w0 := by kernel_rfl
theorem F90_calls (x0 : Value) (R : Value → World → Prop) (w0 : World) (h : F90 x0 R w0) : CallK Tryz.prog 90 #[x0] R w0 :=
 calls_vc (c := bodyOf Tryz.f90) Tryz.func90 (by kernel_rfl) (by kernel_rfl) a90 (by kernel_rfl) (by kernel_rfl) [x0] (by rw [Tryz.ntmps90]; exact Nat.le_of_ble_eq_true rfl) w0 R ((F90_eq x0 R w0).mp h)

/-- canton/codec.Open, its body as a formula. -/
def F91 (x0 : Value) (R : Value → World → Prop) (w0 : World) : Prop :=
 BuiltinK Tryz.prog .len #[29] 3 #[false] #[x0] (@hid _ ⟨fun t6_1 w2 =>
 BinK Tryz.prog .lss 3 t6_1 (.int .i64 4) (@hid _ ⟨fun t7_3 w4 =>
 BrK t7_3 (@hid _ ⟨
 R (.tuple #[(.slice none 0 0), (.int .i64 3)]) w4⟩) (@hid _ ⟨
 BuiltinK Tryz.prog .len #[29] 3 #[false] #[x0] (@hid _ ⟨fun t10_5 w6 =>
 BinK Tryz.prog .sub 3 t10_5 (.int .i64 4) (@hid _ ⟨fun t11_7 w8 =>
 SliceK Tryz.prog 29 x0 none (some t11_7) none (@hid _ ⟨fun t12_9 w10 =>
 DrawK (@hid _ ⟨fun S11 w12 =>
 TakeS Tryz.prog S11 (convert 29 9 x0) (@hid _ ⟨fun t17_13 =>
 (CallV Tryz.prog (.func (.func 90) #[] #[]) #[t12_9] (@hid _ ⟨fun t14_14 w15 =>
 S11 w15 ∧
 (ConvK Tryz.prog 29 9 t14_14 (@hid _ ⟨fun t15_16 w17 =>
 S11 w17 ∧
 BinT Tryz.prog S11 .neq 9 t15_16 t17_13 (@hid _ ⟨fun t18_18 =>
 BrK t18_18 (@hid _ ⟨
 R (.tuple #[(.slice none 0 0), (.int .i64 10)]) w17⟩) (@hid _ ⟨
 CallV Tryz.prog (.func (.func 71) #[] #[]) #[t12_9] (@hid _ ⟨fun t20_19 w20 =>
 CallV Tryz.prog (.func (.func 70) #[] #[]) #[t20_19] (@hid _ ⟨fun t21_21 w22 =>
 R (.tuple #[t21_21, (.int .i64 0)]) w22⟩) w20⟩) w17⟩)⟩)⟩) w15) ∧
 True⟩) w12) ∧
 True⟩)⟩) w10⟩) w8⟩) w6⟩) w4⟩)⟩) w2⟩) w0
def a91 : Ann := (.seq .no (.seq (.seq .no (.cond (.seq .no .no) .no)) (.seq .no (.seq (.seq (.plan (.take 0 (.take 3 (.take 4 (.alt 1 (.alt 2 (.take 5 .done) .nil) .nil))))) (.cond (.seq .no .no) .no)) (.seq .no .no)))))
theorem F91_eq (x0 : Value) (R : Value → World → Prop) (w0 : World) : F91 x0 R w0 = vc Tryz.prog (bodyOf Tryz.f91) a91 (retQ Tryz.prog Tryz.f91 R) (envOf 0 [x0]) w0 := by kernel_rfl
theorem F91_calls (x0 : Value) (R : Value → World → Prop) (w0 : World) (h : F91 x0 R w0) : CallK Tryz.prog 91 #[x0] R w0 :=
 calls_vc (c := bodyOf Tryz.f91) Tryz.func91 (by kernel_rfl) (by kernel_rfl) a91 (by kernel_rfl) (by kernel_rfl) [x0] (by rw [Tryz.ntmps91]; exact Nat.le_of_ble_eq_true rfl) w0 R ((F91_eq x0 R w0).mp h)

/-- (*canton/codec.Dec).Many, its body as a formula. -/
def F92 (x0 x1 : Value) (R : Value → World → Prop) (w0 : World) : Prop :=
 CallV Tryz.prog (.func (.func 72) #[] #[]) #[x0] (@hid _ ⟨fun t7_1 w2 =>
 CutK0 (@hid _ ⟨fun R3 =>
 NilK Tryz.prog x0 (@hid _ ⟨fun t9_5 w6 =>
 FieldAtK Tryz.prog 125 t9_5 1 (@hid _ ⟨fun t10_7 w8 =>
 LoadK Tryz.prog 30 t10_7 (@hid _ ⟨fun t11_9 w10 =>
 BinK Tryz.prog .eql 30 t11_9 (.int .i64 0) (@hid _ ⟨fun t12_11 w12 =>
 GuardK t12_11 true (fun k w => k t7_1 w) (@hid _ ⟨fun t14_13 w14 =>
 GuardK t12_11 true (fun k w => BinK Tryz.prog .lss 2 t14_13 (.int .i64 0) k w) (@hid _ ⟨fun t15_15 w16 =>
 GuardK t12_11 true (fun k w => k t15_15 w) (@hid _ ⟨fun t16_17 w18 =>
 GuardK t16_17 false (fun k w => k t7_1 w) (@hid _ ⟨fun t17_19 w20 =>
 GuardK t16_17 false (fun k w => k x1 w) (@hid _ ⟨fun t18_21 w22 =>
 GuardK t16_17 false (fun k w => BinK Tryz.prog .gtr 2 t17_19 t18_21 k w) (@hid _ ⟨fun t19_23 w24 =>
 GuardK t12_11 true (fun k w => PickK Tryz.prog t16_17 (.bool true) t19_23 k w) (@hid _ ⟨fun t20_25 w26 =>
 PickK Tryz.prog t12_11 t20_25 (.bool false) (@hid _ ⟨fun t21_27 w28 =>
 BrK t21_27 (@hid _ ⟨
 NilK Tryz.prog x0 (@hid _ ⟨fun t23_29 w30 =>
 FieldAtK Tryz.prog 125 t23_29 1 (@hid _ ⟨fun t24_31 w32 =>
 StoreK Tryz.prog 30 t24_31 (.int .i64 2) (@hid _ ⟨fun tu_33 w34 =>
 R3 w34⟩) w32⟩) w30⟩) w28⟩) (@hid _ ⟨
 R3 w28⟩)⟩) w26⟩) w24⟩) w22⟩) w20⟩) w18⟩) w16⟩) w14⟩) w12⟩) w10⟩) w8⟩) w6⟩) w2⟩)
 (@hid _ ⟨fun _ w4 =>
 NilK Tryz.prog x0 (@hid _ ⟨fun t26_35 w36 =>
 FieldAtK Tryz.prog 125 t26_35 1 (@hid _ ⟨fun t27_37 w38 =>
 LoadK Tryz.prog 30 t27_37 (@hid _ ⟨fun t28_39 w40 =>
 BinK Tryz.prog .neq 30 t28_39 (.int .i64 0) (@hid _ ⟨fun t29_41 w42 =>
 BrK t29_41 (@hid _ ⟨
 R (.int .i64 0) w42⟩) (@hid _ ⟨
 R t7_1 w42⟩)⟩) w40⟩) w38⟩) w36⟩) w4⟩)⟩) w0
def a92 : Ann := (.seq .no (.seq .no (.cut [] [(8, 24)] (.seq .no (.cond .no .no)) (.seq (.seq .no (.cond (.seq .no .no) .no)) (.seq .no .no)))))
theorem F92_eq (x0 x1 : Value) (R : Value → World → Prop) (w0 : World) : F92 x0 x1 R w0 = vc Tryz.prog (bodyOf Tryz.f92) a92 (retQ Tryz.prog Tryz.f92 R) (envOf 0 [x0, x1]) w0 := by kernel_rfl
theorem F92_calls (x0 x1 : Value) (R : Value → World → Prop) (w0 : World) (h : F92 x0 x1 R w0) : CallK Tryz.prog 92 #[x0, x1] R w0 :=
 calls_vc (c := bodyOf Tryz.f92) Tryz.func92 (by kernel_rfl) (by kernel_rfl) a92 (by kernel_rfl) (by kernel_rfl) [x0, x1] (by rw [Tryz.ntmps92]; exact Nat.le_of_ble_eq_true rfl) w0 R ((F92_eq x0 x1 R w0).mp h)

/-- slices.Clip[[]canton/row.Row,canton/row.Row], its body as a formula. -/
def F93 (x0 : Value) (R : Value → World → Prop) (w0 : World) : Prop :=
 BuiltinK Tryz.prog .len #[43] 3 #[false] #[x0] (@hid _ ⟨fun t5_1 w2 =>
 BuiltinK Tryz.prog .len #[43] 3 #[false] #[x0] (@hid _ ⟨fun t7_3 w4 =>
 SliceK Tryz.prog 43 x0 none (some t5_1) (some t7_3) (@hid _ ⟨fun t8_5 w6 =>
 R t8_5 w6⟩) w4⟩) w2⟩) w0
def a93 : Ann := (.seq .no (.seq .no .no))
theorem F93_eq (x0 : Value) (R : Value → World → Prop) (w0 : World) : F93 x0 R w0 = vc Tryz.prog (bodyOf Tryz.f93) a93 (retQ Tryz.prog Tryz.f93 R) (envOf 0 [x0]) w0 := by kernel_rfl
theorem F93_calls (x0 : Value) (R : Value → World → Prop) (w0 : World) (h : F93 x0 R w0) : CallK Tryz.prog 93 #[x0] R w0 :=
 calls_vc (c := bodyOf Tryz.f93) Tryz.func93 (by kernel_rfl) (by kernel_rfl) a93 (by kernel_rfl) (by kernel_rfl) [x0] (by rw [Tryz.ntmps93]; exact Nat.le_of_ble_eq_true rfl) w0 R ((F93_eq x0 R w0).mp h)

/-- (*canton/cantonref7.Dec).Text, its body as a formula. -/
def F94 (x0 : Value) (R : Value → World → Prop) (w0 : World) : Prop :=
 CallV Tryz.prog (.func (.func 97) #[] #[]) #[x0] (@hid _ ⟨fun t6_1 w2 =>
 NilK Tryz.prog x0 (@hid _ ⟨fun t9_3 w4 =>
 FieldAtK Tryz.prog 112 t9_3 2 (@hid _ ⟨fun t10_5 w6 =>
 LoadK Tryz.prog 3 t10_5 (@hid _ ⟨fun t11_7 w8 =>
 BinK Tryz.prog .neq 3 t11_7 (.int .i64 0) (@hid _ ⟨fun t12_9 w10 =>
 BrK t12_9 (@hid _ ⟨
 R (.string { data := #[] }) w10⟩) (@hid _ ⟨
 BinK Tryz.prog .lss 2 t6_1 (.int .i64 0) (@hid _ ⟨fun t15_11 w12 =>
 BrK t15_11 (@hid _ ⟨
 NilK Tryz.prog x0 (@hid _ ⟨fun t17_13 w14 =>
 FieldAtK Tryz.prog 112 t17_13 2 (@hid _ ⟨fun t18_15 w16 =>
 StoreK Tryz.prog 3 t18_15 (.int .i64 2) (@hid _ ⟨fun tu_17 w18 =>
 R (.string { data := #[] }) w18⟩) w16⟩) w14⟩) w12⟩) (@hid _ ⟨
 DrawK (@hid _ ⟨fun S19 w20 =>
 TakeO Tryz.prog S19 (nilSem x0) (@hid _ ⟨fun t22_21 =>
 TakeS Tryz.prog S19 (Instr.fieldAt 112 t22_21 0) (@hid _ ⟨fun t23_22 =>
 TakeS Tryz.prog S19 (Instr.loadAt 29 t23_22) (@hid _ ⟨fun t24_23 =>
 TakeO Tryz.prog S19 (builtin .len #[29] 3 #[false] #[t24_23]) (@hid _ ⟨fun t25_24 =>
 TakeO Tryz.prog S19 (nilSem x0) (@hid _ ⟨fun t27_25 =>
 TakeS Tryz.prog S19 (Instr.fieldAt 112 t27_25 1) (@hid _ ⟨fun t28_26 =>
 TakeS Tryz.prog S19 (Instr.loadAt 3 t28_26) (@hid _ ⟨fun t29_27 =>
 BinT Tryz.prog S19 .sub 3 t25_24 t29_27 (@hid _ ⟨fun t30_28 =>
 BinT Tryz.prog S19 .gtr 2 t6_1 t30_28 (@hid _ ⟨fun t31_29 =>
 BrK t31_29 (@hid _ ⟨
 NilK Tryz.prog x0 (@hid _ ⟨fun t33_30 w31 =>
 FieldAtK Tryz.prog 112 t33_30 2 (@hid _ ⟨fun t34_32 w33 =>
 StoreK Tryz.prog 3 t34_32 (.int .i64 3) (@hid _ ⟨fun tu_34 w35 =>
 R (.string { data := #[] }) w35⟩) w33⟩) w31⟩) w20⟩) (@hid _ ⟨
 DrawK (@hid _ ⟨fun S36 w37 =>
 TakeO Tryz.prog S36 (nilSem x0) (@hid _ ⟨fun t36_38 =>
 TakeS Tryz.prog S36 (Instr.fieldAt 112 t36_38 0) (@hid _ ⟨fun t37_39 =>
 TakeS Tryz.prog S36 (Instr.loadAt 29 t37_39) (@hid _ ⟨fun t38_40 =>
 TakeO Tryz.prog S36 (nilSem x0) (@hid _ ⟨fun t40_41 =>
 TakeS Tryz.prog S36 (Instr.fieldAt 112 t40_41 1) (@hid _ ⟨fun t41_42 =>
 TakeS Tryz.prog S36 (Instr.loadAt 3 t41_42) (@hid _ ⟨fun t42_43 =>
 TakeO Tryz.prog S36 (nilSem x0) (@hid _ ⟨fun t44_44 =>
 TakeS Tryz.prog S36 (Instr.fieldAt 112 t44_44 1) (@hid _ ⟨fun t45_45 =>
 TakeS Tryz.prog S36 (Instr.loadAt 3 t45_45) (@hid _ ⟨fun t46_46 =>
 BinT Tryz.prog S36 .add 3 t46_46 t6_1 (@hid _ ⟨fun t48_47 =>
 TakeS Tryz.prog S36 (Instr.sliceAt 29 t38_40 (some t42_43) (some t48_47) none) (@hid _ ⟨fun t49_48 =>
 TakeS Tryz.prog S36 (convert 29 9 t49_48) (@hid _ ⟨fun t50_49 =>
 NilK Tryz.prog x0 (@hid _ ⟨fun t53_50 w51 =>
 FieldAtK Tryz.prog 112 t53_50 1 (@hid _ ⟨fun t54_52 w53 =>
 LoadK Tryz.prog 3 t54_52 (@hid _ ⟨fun t55_54 w55 =>
 BinK Tryz.prog .add 3 t55_54 t6_1 (@hid _ ⟨fun t57_56 w57 =>
 NilK Tryz.prog x0 (@hid _ ⟨fun t58_58 w59 =>
 FieldAtK Tryz.prog 112 t58_58 1 (@hid _ ⟨fun t59_60 w61 =>
 StoreK Tryz.prog 3 t59_60 t57_56 (@hid _ ⟨fun tu_62 w63 =>
 R t50_49 w63⟩) w61⟩) w59⟩) w57⟩) w55⟩) w53⟩) w51⟩) w37⟩)⟩)⟩)⟩)⟩)⟩)⟩)⟩)⟩)⟩)⟩)⟩)⟩) w20⟩)⟩)⟩)⟩)⟩)⟩)⟩)⟩)⟩)⟩)⟩) w12⟩)⟩) w10⟩)⟩) w8⟩) w6⟩) w4⟩) w2⟩) w0
def a94 : Ann := (.seq .no (.seq .no (.seq (.block (.seq .no (.cond (.seq .no .no) (.seq .no (.cond (.seq .no (.seq .no .no)) (.seq (.plan (.take 0 (.take 1 (.take 2 (.take 3 (.take 4 (.take 5 (.take 6 (.take 7 (.take 8 (.take 9 (.take 10 (.take 11 (.take 12 .done)))))))))))))) (.cond (.seq .no (.seq .no .no)) .no))))))) (.seq (.plan (.take 0 (.take 1 (.take 2 (.take 3 (.take 4 (.take 5 (.take 6 (.take 7 (.take 8 (.take 9 (.take 10 (.take 11 (.take 12 (.take 13 (.take 14 (.take 15 (.take 16 .done)))))))))))))))))) (.seq .no (.seq .no .no))))))
theorem F94_eq (x0 : Value) (R : Value → World → Prop) (w0 : World) : F94 x0 R w0 = vc Tryz.prog (bodyOf Tryz.f94) a94 (retQ Tryz.prog Tryz.f94 R) (envOf 0 [x0]) w0 := by kernel_rfl
theorem F94_calls (x0 : Value) (R : Value → World → Prop) (w0 : World) (h : F94 x0 R w0) : CallK Tryz.prog 94 #[x0] R w0 :=
 calls_vc (c := bodyOf Tryz.f94) Tryz.func94 (by kernel_rfl) (by kernel_rfl) a94 (by kernel_rfl) (by kernel_rfl) [x0] (by rw [Tryz.ntmps94]; exact Nat.le_of_ble_eq_true rfl) w0 R ((F94_eq x0 R w0).mp h)

/-- (*canton/cantonref7.Dec).Stamp, its body as a formula. -/
def F95 (x0 : Value) (R : Value → World → Prop) (w0 : World) : Prop :=
 AllocK Tryz.prog 35 (@hid _ ⟨fun t2_1 w2 =>
 CallV Tryz.prog (.func (.func 97) #[] #[]) #[x0] (@hid _ ⟨fun t5_3 w4 =>
 BuildK Tryz.prog 35 #[(0, t5_3)] (@hid _ ⟨fun t6_5 w6 =>
 AllocK Tryz.prog 35 (@hid _ ⟨fun t3_7 w8 =>
 StoreK Tryz.prog 35 t3_7 t6_5 (@hid _ ⟨fun tu_9 w10 =>
 CallV Tryz.prog (.func (.func 97) #[] #[]) #[x0] (@hid _ ⟨fun t8_11 w12 =>
 FieldAtK Tryz.prog 35 t3_7 1 (@hid _ ⟨fun t9_13 w14 =>
 StoreK Tryz.prog 2 t9_13 t8_11 (@hid _ ⟨fun tu_15 w16 =>
 CallV Tryz.prog (.func (.func 97) #[] #[]) #[x0] (@hid _ ⟨fun t11_17 w18 =>
 FieldAtK Tryz.prog 35 t3_7 2 (@hid _ ⟨fun t12_19 w20 =>
 StoreK Tryz.prog 2 t12_19 t11_17 (@hid _ ⟨fun tu_21 w22 =>
 CallV Tryz.prog (.func (.func 94) #[] #[]) #[x0] (@hid _ ⟨fun t14_23 w24 =>
 FieldAtK Tryz.prog 35 t3_7 3 (@hid _ ⟨fun t15_25 w26 =>
 StoreK Tryz.prog 9 t15_25 t14_23 (@hid _ ⟨fun tu_27 w28 =>
 NilK Tryz.prog x0 (@hid _ ⟨fun t17_29 w30 =>
 FieldAtK Tryz.prog 112 t17_29 2 (@hid _ ⟨fun t18_31 w32 =>
 LoadK Tryz.prog 3 t18_31 (@hid _ ⟨fun t19_33 w34 =>
 BinK Tryz.prog .neq 3 t19_33 (.int .i64 0) (@hid _ ⟨fun t20_35 w36 =>
 BrK t20_35 (@hid _ ⟨
 BuildK Tryz.prog 35 #[] (@hid _ ⟨fun t21_37 w38 =>
 StoreK Tryz.prog 35 t2_1 t21_37 (@hid _ ⟨fun tu_39 w40 =>
 LoadK Tryz.prog 35 t2_1 (@hid _ ⟨fun c41 w42 => w42 = w40 ∧ R c41 w40⟩) w40⟩) w38⟩) w36⟩) (@hid _ ⟨
 LoadK Tryz.prog 35 t3_7 (@hid _ ⟨fun t22_43 w44 =>
 StoreK Tryz.prog 35 t2_1 t22_43 (@hid _ ⟨fun tu_45 w46 =>
 LoadK Tryz.prog 35 t2_1 (@hid _ ⟨fun c47 w48 => w48 = w46 ∧ R c47 w46⟩) w46⟩) w44⟩) w36⟩)⟩) w34⟩) w32⟩) w30⟩) w28⟩) w26⟩) w24⟩) w22⟩) w20⟩) w18⟩) w16⟩) w14⟩) w12⟩) w10⟩) w8⟩) w6⟩) w4⟩) w2⟩) w0
def a95 : Ann := (.seq .no (.seq .no (.seq .no (.seq .no (.seq .no (.seq (.seq .no (.cond (.seq .no .no) .no)) (.seq .no .no)))))))
theorem F95_eq (x0 : Value) (R : Value → World → Prop) (w0 : World) : F95 x0 R w0 = vc Tryz.prog (bodyOf Tryz.f95) a95 (retQ Tryz.prog Tryz.f95 R) (envOf 0 [x0]) w0 := by kernel_rfl
theorem F95_calls (x0 : Value) (R : Value → World → Prop) (w0 : World) (h : F95 x0 R w0) : CallK Tryz.prog 95 #[x0] R w0 :=
 calls_vc (c := bodyOf Tryz.f95) Tryz.func95 (by kernel_rfl) (by kernel_rfl) a95 (by kernel_rfl) (by kernel_rfl) [x0] (by rw [Tryz.ntmps95]; exact Nat.le_of_ble_eq_true rfl) w0 R ((F95_eq x0 R w0).mp h)

/-- (*canton/cantonref7.Dec).Value, its body as a formula. -/
def F96 (x0 : Value) (R : Value → World → Prop) (w0 : World) : Prop :=
 AllocK Tryz.prog 72 (@hid _ ⟨fun t2_1 w2 =>
 CallV Tryz.prog (.func (.func 97) #[] #[]) #[x0] (@hid _ ⟨fun t7_3 w4 =>
 BuildK Tryz.prog 72 #[(0, t7_3)] (@hid _ ⟨fun t8_5 w6 =>
 AllocK Tryz.prog 72 (@hid _ ⟨fun t3_7 w8 =>
 StoreK Tryz.prog 72 t3_7 t8_5 (@hid _ ⟨fun tu_9 w10 =>
 CutK0 (@hid _ ⟨fun R11 =>
 FieldAtK Tryz.prog 72 t3_7 0 (@hid _ ⟨fun t9_13 w14 =>
 LoadK Tryz.prog 3 t9_13 (@hid _ ⟨fun t10_15 w16 =>
 BinK Tryz.prog .eql 3 t10_15 (.int .i64 1) (@hid _ ⟨fun t12_17 w18 =>
 BrK t12_17 (@hid _ ⟨
 CallV Tryz.prog (.func (.func 97) #[] #[]) #[x0] (@hid _ ⟨fun t14_19 w20 =>
 FieldAtK Tryz.prog 72 t3_7 1 (@hid _ ⟨fun t15_21 w22 =>
 StoreK Tryz.prog 2 t15_21 t14_19 (@hid _ ⟨fun tu_23 w24 =>
 R11 w24⟩) w22⟩) w20⟩) w18⟩) (@hid _ ⟨
 BinK Tryz.prog .eql 3 t10_15 (.int .i64 2) (@hid _ ⟨fun t17_25 w26 =>
 BrK t17_25 (@hid _ ⟨
 CallV Tryz.prog (.func (.func 94) #[] #[]) #[x0] (@hid _ ⟨fun t19_27 w28 =>
 FieldAtK Tryz.prog 72 t3_7 2 (@hid _ ⟨fun t20_29 w30 =>
 StoreK Tryz.prog 9 t20_29 t19_27 (@hid _ ⟨fun tu_31 w32 =>
 R11 w32⟩) w30⟩) w28⟩) w26⟩) (@hid _ ⟨
 BinK Tryz.prog .eql 3 t10_15 (.int .i64 3) (@hid _ ⟨fun t22_33 w34 =>
 BrK t22_33 (@hid _ ⟨
 CallV Tryz.prog (.func (.func 62) #[] #[]) #[x0, (.int .i64 16)] (@hid _ ⟨fun t24_35 w36 =>
 LoopK1 (.int .i64 0) w36 (@hid _ ⟨fun _ x5_37 w38 B39 =>
 BinK Tryz.prog .lss 3 x5_37 t24_35 (@hid _ ⟨fun t27_40 w41 =>
 BrK t27_40 (@hid _ ⟨
 DrawK (@hid _ ⟨fun S42 w43 =>
 TakeS Tryz.prog S42 (Instr.fieldAt 72 t3_7 3) (@hid _ ⟨fun t30_44 =>
 (LoadK Tryz.prog 59 t30_44 (@hid _ ⟨fun t31_45 w46 =>
 S42 w46 ∧
 (CallV Tryz.prog (.func (.func 97) #[] #[]) #[x0] (@hid _ ⟨fun t33_47 w48 =>
 S42 w48 ∧
 (BuildSliceK Tryz.prog 59 1 #[(0, t33_47)] (@hid _ ⟨fun t34_49 w50 =>
 S42 w50 ∧
 (BuiltinK Tryz.prog .append #[59, 59] 59 #[false, false] #[t31_45, t34_49] (@hid _ ⟨fun t35_51 w52 =>
 S42 w52 ∧
 TakeS Tryz.prog S42 (Instr.fieldAt 72 t3_7 3) (@hid _ ⟨fun t36_53 =>
 (StoreK Tryz.prog 59 t36_53 t35_51 (@hid _ ⟨fun tu_54 w55 =>
 S42 w55 ∧
 BinK Tryz.prog .add 3 x5_37 (.int .i64 1) (@hid _ ⟨fun t29_56 w57 =>
 B39 t29_56 w57⟩) w55⟩) w52) ∧
 True⟩)⟩) w50) ∧
 True⟩) w48) ∧
 True⟩) w46) ∧
 True⟩) w43) ∧
 (CallV Tryz.prog (.func (.func 97) #[] #[]) #[x0] (@hid _ ⟨fun t33_58 w59 =>
 S42 w59 ∧
 (LoadK Tryz.prog 59 t30_44 (@hid _ ⟨fun t31_60 w61 =>
 S42 w61 ∧
 (BuildSliceK Tryz.prog 59 1 #[(0, t33_58)] (@hid _ ⟨fun t34_62 w63 =>
 S42 w63 ∧
 (BuiltinK Tryz.prog .append #[59, 59] 59 #[false, false] #[t31_60, t34_62] (@hid _ ⟨fun t35_64 w65 =>
 S42 w65 ∧
 TakeS Tryz.prog S42 (Instr.fieldAt 72 t3_7 3) (@hid _ ⟨fun t36_66 =>
 (StoreK Tryz.prog 59 t36_66 t35_64 (@hid _ ⟨fun tu_67 w68 =>
 S42 w68 ∧
 BinK Tryz.prog .add 3 x5_37 (.int .i64 1) (@hid _ ⟨fun t29_69 w70 =>
 B39 t29_69 w70⟩) w68⟩) w65) ∧
 True⟩)⟩) w63) ∧
 True⟩) w61) ∧
 True⟩) w59) ∧
 (BuildSliceK Tryz.prog 59 1 #[(0, t33_58)] (@hid _ ⟨fun t34_71 w72 =>
 S42 w72 ∧
 (LoadK Tryz.prog 59 t30_44 (@hid _ ⟨fun t31_73 w74 =>
 S42 w74 ∧
 (BuiltinK Tryz.prog .append #[59, 59] 59 #[false, false] #[t31_73, t34_71] (@hid _ ⟨fun t35_75 w76 =>
 S42 w76 ∧
 TakeS Tryz.prog S42 (Instr.fieldAt 72 t3_7 3) (@hid _ ⟨fun t36_77 =>
 (StoreK Tryz.prog 59 t36_77 t35_75 (@hid _ ⟨fun tu_78 w79 =>
 S42 w79 ∧
 BinK Tryz.prog .add 3 x5_37 (.int .i64 1) (@hid _ ⟨fun t29_80 w81 =>
 B39 t29_80 w81⟩) w79⟩) w76) ∧
 True⟩)⟩) w74) ∧
 True⟩) w72) ∧
 True⟩) w59) ∧
 True⟩) w43) ∧
 True⟩)⟩) w41⟩) (@hid _ ⟨
 R11 w41⟩)⟩) w38⟩)⟩) w34⟩) (@hid _ ⟨
 R11 w34⟩)⟩) w26⟩)⟩) w18⟩)⟩) w16⟩) w14⟩) w10⟩)
 (@hid _ ⟨fun _ w12 =>
 NilK Tryz.prog x0 (@hid _ ⟨fun t38_82 w83 =>
 FieldAtK Tryz.prog 112 t38_82 2 (@hid _ ⟨fun t39_84 w85 =>
 LoadK Tryz.prog 3 t39_84 (@hid _ ⟨fun t40_86 w87 =>
 BinK Tryz.prog .neq 3 t40_86 (.int .i64 0) (@hid _ ⟨fun t41_88 w89 =>
 BrK t41_88 (@hid _ ⟨
 BuildK Tryz.prog 72 #[] (@hid _ ⟨fun t42_90 w91 =>
 StoreK Tryz.prog 72 t2_1 t42_90 (@hid _ ⟨fun tu_92 w93 =>
 LoadK Tryz.prog 72 t2_1 (@hid _ ⟨fun c94 w95 => w95 = w93 ∧ R c94 w93⟩) w93⟩) w91⟩) w89⟩) (@hid _ ⟨
 LoadK Tryz.prog 72 t3_7 (@hid _ ⟨fun t43_96 w97 =>
 StoreK Tryz.prog 72 t2_1 t43_96 (@hid _ ⟨fun tu_98 w99 =>
 LoadK Tryz.prog 72 t2_1 (@hid _ ⟨fun c100 w101 => w101 = w99 ∧ R c100 w99⟩) w99⟩) w97⟩) w89⟩)⟩) w87⟩) w85⟩) w83⟩) w12⟩)⟩) w8⟩) w6⟩) w4⟩) w2⟩) w0
def a96 : Ann := (.seq .no (.seq .no (.cut [] [(4, 5), (9, 36)] (.seq .no (.block (.seq .no (.cond .no (.seq .no (.cond .no (.seq .no (.cond (.seq .no (.seq .no (.block (.loop [5] [(25, 36)] (.seq (.seq .no (.cond .no .no)) (.seq (.block (.plan (.take 0 (.take 2 (.alt 1 (.alt 3 (.alt 4 (.alt 5 (.take 6 (.alt 7 .done .nil)) .nil) .nil) .nil) (.alt 3 (.alt 1 (.alt 4 (.alt 5 (.take 6 (.alt 7 .done .nil)) .nil) .nil) (.alt 4 (.alt 1 (.alt 5 (.take 6 (.alt 7 .done .nil)) .nil) .nil) .nil)) .nil)))))) .no)))))) .no)))))))) (.seq (.seq .no (.cond (.seq .no .no) .no)) (.seq .no .no)))))
theorem F96_eq (x0 : Value) (R : Value → World → Prop) (w0 : World) : F96 x0 R w0 = vc Tryz.prog (bodyOf Tryz.f96) a96 (retQ Tryz.prog Tryz.f96 R) (envOf 0 [x0]) w0 := by kernel_rfl
theorem F96_calls (x0 : Value) (R : Value → World → Prop) (w0 : World) (h : F96 x0 R w0) : CallK Tryz.prog 96 #[x0] R w0 :=
 calls_vc (c := bodyOf Tryz.f96) Tryz.func96 (by kernel_rfl) (by kernel_rfl) a96 (by kernel_rfl) (by kernel_rfl) [x0] (by rw [Tryz.ntmps96]; exact Nat.le_of_ble_eq_true rfl) w0 R ((F96_eq x0 R w0).mp h)

/-- (*canton/cantonref7.Dec).Int, its body as a formula. -/
def F97 (x0 : Value) (R : Value → World → Prop) (w0 : World) : Prop :=
 NilK Tryz.prog x0 (@hid _ ⟨fun t8_1 w2 =>
 FieldAtK Tryz.prog 112 t8_1 2 (@hid _ ⟨fun t9_3 w4 =>
 LoadK Tryz.prog 3 t9_3 (@hid _ ⟨fun t10_5 w6 =>
 BinK Tryz.prog .neq 3 t10_5 (.int .i64 0) (@hid _ ⟨fun t11_7 w8 =>
 BrK t11_7 (@hid _ ⟨
 R (.int .i64 0) w8⟩) (@hid _ ⟨
 LoopK2 (.int .u64 0) (.int .i64 0) w8 (@hid _ ⟨fun _ x3_9 x4_10 w11 B12 =>
 BinK Tryz.prog .lss 3 x4_10 (.int .i64 10) (@hid _ ⟨fun t13_13 w14 =>
 BrK t13_13 (@hid _ ⟨
 DrawK (@hid _ ⟨fun S15 w16 =>
 TakeO Tryz.prog S15 (nilSem x0) (@hid _ ⟨fun t17_17 =>
 TakeS Tryz.prog S15 (Instr.fieldAt 112 t17_17 1) (@hid _ ⟨fun t18_18 =>
 TakeS Tryz.prog S15 (Instr.loadAt 3 t18_18) (@hid _ ⟨fun t19_19 =>
 BinT Tryz.prog S15 .add 3 t19_19 x4_10 (@hid _ ⟨fun t21_20 =>
 TakeO Tryz.prog S15 (nilSem x0) (@hid _ ⟨fun t23_21 =>
 TakeS Tryz.prog S15 (Instr.fieldAt 112 t23_21 0) (@hid _ ⟨fun t24_22 =>
 TakeS Tryz.prog S15 (Instr.loadAt 29 t24_22) (@hid _ ⟨fun t25_23 =>
 TakeO Tryz.prog S15 (builtin .len #[29] 3 #[false] #[t25_23]) (@hid _ ⟨fun t26_24 =>
 BinT Tryz.prog S15 .eql 3 t21_20 t26_24 (@hid _ ⟨fun t27_25 =>
 BrK t27_25 (@hid _ ⟨
 NilK Tryz.prog x0 (@hid _ ⟨fun t29_26 w27 =>
 FieldAtK Tryz.prog 112 t29_26 2 (@hid _ ⟨fun t30_28 w29 =>
 StoreK Tryz.prog 3 t30_28 (.int .i64 3) (@hid _ ⟨fun tu_30 w31 =>
 R (.int .i64 0) w31⟩) w29⟩) w27⟩) w16⟩) (@hid _ ⟨
 DrawK (@hid _ ⟨fun S32 w33 =>
 TakeO Tryz.prog S32 (nilSem x0) (@hid _ ⟨fun t32_34 =>
 TakeS Tryz.prog S32 (Instr.fieldAt 112 t32_34 0) (@hid _ ⟨fun t33_35 =>
 TakeS Tryz.prog S32 (Instr.loadAt 29 t33_35) (@hid _ ⟨fun t34_36 =>
 TakeO Tryz.prog S32 (nilSem x0) (@hid _ ⟨fun t36_37 =>
 TakeS Tryz.prog S32 (Instr.fieldAt 112 t36_37 1) (@hid _ ⟨fun t37_38 =>
 TakeS Tryz.prog S32 (Instr.loadAt 3 t37_38) (@hid _ ⟨fun t38_39 =>
 BinT Tryz.prog S32 .add 3 t38_39 x4_10 (@hid _ ⟨fun t40_40 =>
 TakeS Tryz.prog S32 (Instr.indexAt 29 t34_36 t40_40) (@hid _ ⟨fun t41_41 =>
 TakeS Tryz.prog S32 (Instr.loadAt 5 t41_41) (@hid _ ⟨fun t42_42 =>
 TakeS Tryz.prog S32 (convert 5 146 t42_42) (@hid _ ⟨fun t43_43 =>
 BinK Tryz.prog .eql 3 x4_10 (.int .i64 9) (@hid _ ⟨fun t45_44 w45 =>
 GuardK t45_44 true (fun k w => k t43_43 w) (@hid _ ⟨fun t47_46 w47 =>
 GuardK t45_44 true (fun k w => BinK Tryz.prog .gtr 146 t47_46 (.int .u64 1) k w) (@hid _ ⟨fun t48_48 w49 =>
 PickK Tryz.prog t45_44 t48_48 (.bool false) (@hid _ ⟨fun t49_50 w51 =>
 GuardK t49_50 false (fun k w => k x4_10 w) (@hid _ ⟨fun t51_52 w53 =>
 GuardK t49_50 false (fun k w => BinK Tryz.prog .gtr 3 t51_52 (.int .i64 0) k w) (@hid _ ⟨fun t52_54 w55 =>
 GuardK t49_50 false (fun k w => k t52_54 w) (@hid _ ⟨fun t53_56 w57 =>
 GuardK t53_56 true (fun k w => k t43_43 w) (@hid _ ⟨fun t54_58 w59 =>
 GuardK t53_56 true (fun k w => BinK Tryz.prog .eql 146 t54_58 (.int .u64 0) k w) (@hid _ ⟨fun t55_60 w61 =>
 GuardK t49_50 false (fun k w => PickK Tryz.prog t53_56 t55_60 (.bool false) k w) (@hid _ ⟨fun t56_62 w63 =>
 PickK Tryz.prog t49_50 (.bool true) t56_62 (@hid _ ⟨fun t57_64 w65 =>
 BrK t57_64 (@hid _ ⟨
 NilK Tryz.prog x0 (@hid _ ⟨fun t59_66 w67 =>
 FieldAtK Tryz.prog 112 t59_66 2 (@hid _ ⟨fun t60_68 w69 =>
 StoreK Tryz.prog 3 t60_68 (.int .i64 2) (@hid _ ⟨fun tu_70 w71 =>
 R (.int .i64 0) w71⟩) w69⟩) w67⟩) w65⟩) (@hid _ ⟨
 BinK Tryz.prog .and 146 t43_43 (.int .u64 127) (@hid _ ⟨fun t63_72 w73 =>
 BinK Tryz.prog .mul 3 (.int .i64 7) x4_10 (@hid _ ⟨fun t65_74 w75 =>
 ConvK Tryz.prog 3 108 t65_74 (@hid _ ⟨fun t66_76 w77 =>
 BinK Tryz.prog .shl 146 t63_72 t66_76 (@hid _ ⟨fun t67_78 w79 =>
 BinK Tryz.prog .or 146 x3_9 t67_78 (@hid _ ⟨fun t68_80 w81 =>
 BinK Tryz.prog .lss 146 t43_43 (.int .u64 128) (@hid _ ⟨fun t70_82 w83 =>
 BrK t70_82 (@hid _ ⟨
 NilK Tryz.prog x0 (@hid _ ⟨fun t73_84 w85 =>
 FieldAtK Tryz.prog 112 t73_84 1 (@hid _ ⟨fun t74_86 w87 =>
 LoadK Tryz.prog 3 t74_86 (@hid _ ⟨fun t75_88 w89 =>
 BinK Tryz.prog .add 3 t75_88 x4_10 (@hid _ ⟨fun t77_90 w91 =>
 BinK Tryz.prog .add 3 t77_90 (.int .i64 1) (@hid _ ⟨fun t78_92 w93 =>
 NilK Tryz.prog x0 (@hid _ ⟨fun t79_94 w95 =>
 FieldAtK Tryz.prog 112 t79_94 1 (@hid _ ⟨fun t80_96 w97 =>
 StoreK Tryz.prog 3 t80_96 t78_92 (@hid _ ⟨fun tu_98 w99 =>
 BinK Tryz.prog .shr 146 t68_80 (.int .u64 1) (@hid _ ⟨fun t82_100 w101 =>
 ConvK Tryz.prog 146 2 t82_100 (@hid _ ⟨fun t83_102 w103 =>
 BinK Tryz.prog .and 146 t68_80 (.int .u64 1) (@hid _ ⟨fun t85_104 w105 =>
 BinK Tryz.prog .eql 146 t85_104 (.int .u64 1) (@hid _ ⟨fun t86_106 w107 =>
 BrK t86_106 (@hid _ ⟨
 BinK Tryz.prog .sub 2 (.int .i64 0) t83_102 (@hid _ ⟨fun t88_108 w109 =>
 BinK Tryz.prog .sub 2 t88_108 (.int .i64 1) (@hid _ ⟨fun t89_110 w111 =>
 R t89_110 w111⟩) w109⟩) w107⟩) (@hid _ ⟨
 R t83_102 w107⟩)⟩) w105⟩) w103⟩) w101⟩) w99⟩) w97⟩) w95⟩) w93⟩) w91⟩) w89⟩) w87⟩) w85⟩) w83⟩) (@hid _ ⟨
 BinK Tryz.prog .add 3 x4_10 (.int .i64 1) (@hid _ ⟨fun t15_112 w113 =>
 B12 t68_80 t15_112 w113⟩) w83⟩)⟩) w81⟩) w79⟩) w77⟩) w75⟩) w73⟩) w65⟩)⟩) w63⟩) w61⟩) w59⟩) w57⟩) w55⟩) w53⟩) w51⟩) w49⟩) w47⟩) w45⟩) w33⟩)⟩)⟩)⟩)⟩)⟩)⟩)⟩)⟩)⟩)⟩) w16⟩)⟩)⟩)⟩)⟩)⟩)⟩)⟩)⟩)⟩)⟩) w14⟩) (@hid _ ⟨
 R (.int .i64 0) w14⟩)⟩) w11⟩)⟩)⟩) w6⟩) w4⟩) w2⟩) w0
def a97 : Ann := (.seq .no (.seq (.seq .no (.cond (.seq .no .no) .no)) (.seq .no (.seq (.seq .no (.block (.loop [3, 4] [(2, 2), (5, 6), (12, 90)] (.seq (.seq .no (.cond .no .no)) (.seq (.block (.seq (.seq (.plan (.take 0 (.take 1 (.take 2 (.take 3 (.take 4 (.take 5 (.take 6 (.take 7 (.take 8 (.take 9 (.take 10 (.take 11 .done))))))))))))) (.cond (.seq .no (.seq .no .no)) .no)) (.seq (.plan (.take 0 (.take 1 (.take 2 (.take 3 (.take 4 (.take 5 (.take 6 (.take 7 (.take 8 (.take 9 (.take 10 (.take 11 (.take 12 (.take 13 .done))))))))))))))) (.seq (.seq .no (.cond (.seq .no (.seq .no .no)) .no)) (.seq .no (.seq .no (.cond (.seq .no (.seq .no (.seq (.seq .no (.cond (.seq .no .no) .no)) (.seq .no .no)))) .no))))))) .no))))) (.seq .no .no)))))
theorem F97_eq (x0 : Value) (R : Value → World → Prop) (w0 : World) : F97 x0 R w0 = vc Tryz.prog (bodyOf Tryz.f97) a97 (retQ Tryz.prog Tryz.f97 R) (envOf 0 [x0]) w0 := by kernel_rfl
theorem F97_calls (x0 : Value) (R : Value → World → Prop) (w0 : World) (h : F97 x0 R w0) : CallK Tryz.prog 97 #[x0] R w0 :=
 calls_vc (c := bodyOf Tryz.f97) Tryz.func97 (by kernel_rfl) (by kernel_rfl) a97 (by kernel_rfl) (by kernel_rfl) [x0] (by rw [Tryz.ntmps97]; exact Nat.le_of_ble_eq_true rfl) w0 R ((F97_eq x0 R w0).mp h)

/-- (*canton/codec.Dec).number, its body as a formula. -/
def F98 (x0 : Value) (R : Value → World → Prop) (w0 : World) : Prop :=
 NilK Tryz.prog x0 (@hid _ ⟨fun t8_1 w2 =>
 FieldAtK Tryz.prog 125 t8_1 0 (@hid _ ⟨fun t9_3 w4 =>
 LoadK Tryz.prog 29 t9_3 (@hid _ ⟨fun t10_5 w6 =>
 BuiltinK Tryz.prog .len #[29] 3 #[false] #[t10_5] (@hid _ ⟨fun t11_7 w8 =>
 LoopK2 (.int .u64 0) (.int .i64 0) w8 (@hid _ ⟨fun _ x4_9 x12_10 w11 B12 =>
 BinK Tryz.prog .lss 3 x12_10 t11_7 (@hid _ ⟨fun t13_13 w14 =>
 BrK t13_13 (@hid _ ⟨
 IndexAtK Tryz.prog 29 t10_5 x12_10 (@hid _ ⟨fun t15_15 w16 =>
 LoadK Tryz.prog 5 t15_15 (@hid _ ⟨fun t16_17 w18 =>
 BinK Tryz.prog .eql 3 x12_10 (.int .i64 9) (@hid _ ⟨fun t18_19 w20 =>
 GuardK t18_19 true (fun k w => k t16_17 w) (@hid _ ⟨fun t20_21 w22 =>
 GuardK t18_19 true (fun k w => BinK Tryz.prog .gtr 5 t20_21 (.int .u8 1) k w) (@hid _ ⟨fun t21_23 w24 =>
 PickK Tryz.prog t18_19 t21_23 (.bool false) (@hid _ ⟨fun t22_25 w26 =>
 GuardK t22_25 false (fun k w => k x12_10 w) (@hid _ ⟨fun t24_27 w28 =>
 GuardK t22_25 false (fun k w => BinK Tryz.prog .gtr 3 t24_27 (.int .i64 0) k w) (@hid _ ⟨fun t25_29 w30 =>
 GuardK t22_25 false (fun k w => k t25_29 w) (@hid _ ⟨fun t26_31 w32 =>
 GuardK t26_31 true (fun k w => k t16_17 w) (@hid _ ⟨fun t27_33 w34 =>
 GuardK t26_31 true (fun k w => BinK Tryz.prog .eql 5 t27_33 (.int .u8 0) k w) (@hid _ ⟨fun t28_35 w36 =>
 GuardK t22_25 false (fun k w => PickK Tryz.prog t26_31 t28_35 (.bool false) k w) (@hid _ ⟨fun t29_37 w38 =>
 PickK Tryz.prog t22_25 (.bool true) t29_37 (@hid _ ⟨fun t30_39 w40 =>
 BrK t30_39 (@hid _ ⟨
 R (.tuple #[(.int .u64 0), (.int .i64 2)]) w40⟩) (@hid _ ⟨
 BinK Tryz.prog .andNot 5 t16_17 (.int .u8 128) (@hid _ ⟨fun t33_41 w42 =>
 ConvK Tryz.prog 5 146 t33_41 (@hid _ ⟨fun t34_43 w44 =>
 BinK Tryz.prog .mul 3 (.int .i64 7) x12_10 (@hid _ ⟨fun t36_45 w46 =>
 BinK Tryz.prog .shl 146 t34_43 t36_45 (@hid _ ⟨fun t37_47 w48 =>
 BinK Tryz.prog .or 146 x4_9 t37_47 (@hid _ ⟨fun t38_49 w50 =>
 BinK Tryz.prog .lss 5 t16_17 (.int .u8 128) (@hid _ ⟨fun t40_51 w52 =>
 BrK t40_51 (@hid _ ⟨
 NilK Tryz.prog x0 (@hid _ ⟨fun t43_53 w54 =>
 FieldAtK Tryz.prog 125 t43_53 0 (@hid _ ⟨fun t44_55 w56 =>
 LoadK Tryz.prog 29 t44_55 (@hid _ ⟨fun t45_57 w58 =>
 BinK Tryz.prog .add 3 x12_10 (.int .i64 1) (@hid _ ⟨fun t47_59 w60 =>
 SliceK Tryz.prog 29 t45_57 (some t47_59) none none (@hid _ ⟨fun t48_61 w62 =>
 NilK Tryz.prog x0 (@hid _ ⟨fun t49_63 w64 =>
 FieldAtK Tryz.prog 125 t49_63 0 (@hid _ ⟨fun t50_65 w66 =>
 StoreK Tryz.prog 29 t50_65 t48_61 (@hid _ ⟨fun tu_67 w68 =>
 R (.tuple #[t38_49, (.int .i64 0)]) w68⟩) w66⟩) w64⟩) w62⟩) w60⟩) w58⟩) w56⟩) w54⟩) w52⟩) (@hid _ ⟨
 BinK Tryz.prog .add 3 x12_10 (.int .i64 1) (@hid _ ⟨fun t52_69 w70 =>
 B12 t38_49 t52_69 w70⟩) w52⟩)⟩) w50⟩) w48⟩) w46⟩) w44⟩) w42⟩) w40⟩)⟩) w38⟩) w36⟩) w34⟩) w32⟩) w30⟩) w28⟩) w26⟩) w24⟩) w22⟩) w20⟩) w18⟩) w16⟩) w14⟩) (@hid _ ⟨
 R (.tuple #[(.int .u64 0), (.int .i64 3)]) w14⟩)⟩) w11⟩)⟩) w6⟩) w4⟩) w2⟩) w0
def a98 : Ann := (.seq .no (.seq .no (.seq (.seq .no (.block (.loop [4, 12] [(2, 3), (5, 6), (13, 52)] (.seq .no (.seq (.cond .no .no) (.seq (.block (.seq .no (.seq (.seq .no (.cond (.seq .no .no) .no)) (.seq .no (.seq .no (.cond (.seq .no (.seq .no .no)) .no)))))) .no)))))) (.seq .no .no))))
theorem F98_eq (x0 : Value) (R : Value → World → Prop) (w0 : World) : F98 x0 R w0 = vc Tryz.prog (bodyOf Tryz.f98) a98 (retQ Tryz.prog Tryz.f98 R) (envOf 0 [x0]) w0 := by kernel_rfl
theorem F98_calls (x0 : Value) (R : Value → World → Prop) (w0 : World) (h : F98 x0 R w0) : CallK Tryz.prog 98 #[x0] R w0 :=
 calls_vc (c := bodyOf Tryz.f98) Tryz.func98 (by kernel_rfl) (by kernel_rfl) a98 (by kernel_rfl) (by kernel_rfl) [x0] (by rw [Tryz.ntmps98]; exact Nat.le_of_ble_eq_true rfl) w0 R ((F98_eq x0 R w0).mp h)

/-- slices.Clip[[]int64,int64], its body as a formula. -/
def F99 (x0 : Value) (R : Value → World → Prop) (w0 : World) : Prop :=
 BuiltinK Tryz.prog .len #[59] 3 #[false] #[x0] (@hid _ ⟨fun t5_1 w2 =>
 BuiltinK Tryz.prog .len #[59] 3 #[false] #[x0] (@hid _ ⟨fun t7_3 w4 =>
 SliceK Tryz.prog 59 x0 none (some t5_1) (some t7_3) (@hid _ ⟨fun t8_5 w6 =>
 R t8_5 w6⟩) w4⟩) w2⟩) w0
def a99 : Ann := (.seq .no (.seq .no .no))
theorem F99_eq (x0 : Value) (R : Value → World → Prop) (w0 : World) : F99 x0 R w0 = vc Tryz.prog (bodyOf Tryz.f99) a99 (retQ Tryz.prog Tryz.f99 R) (envOf 0 [x0]) w0 := by kernel_rfl
theorem F99_calls (x0 : Value) (R : Value → World → Prop) (w0 : World) (h : F99 x0 R w0) : CallK Tryz.prog 99 #[x0] R w0 :=
 calls_vc (c := bodyOf Tryz.f99) Tryz.func99 (by kernel_rfl) (by kernel_rfl) a99 (by kernel_rfl) (by kernel_rfl) [x0] (by rw [Tryz.ntmps99]; exact Nat.le_of_ble_eq_true rfl) w0 R ((F99_eq x0 R w0).mp h)

/-- slices.Clip[[]canton/row.Attr,canton/row.Attr], its body as a formula. -/
def F100 (x0 : Value) (R : Value → World → Prop) (w0 : World) : Prop :=
 BuiltinK Tryz.prog .len #[24] 3 #[false] #[x0] (@hid _ ⟨fun t5_1 w2 =>
 BuiltinK Tryz.prog .len #[24] 3 #[false] #[x0] (@hid _ ⟨fun t7_3 w4 =>
 SliceK Tryz.prog 24 x0 none (some t5_1) (some t7_3) (@hid _ ⟨fun t8_5 w6 =>
 R t8_5 w6⟩) w4⟩) w2⟩) w0
def a100 : Ann := (.seq .no (.seq .no .no))
theorem F100_eq (x0 : Value) (R : Value → World → Prop) (w0 : World) : F100 x0 R w0 = vc Tryz.prog (bodyOf Tryz.f100) a100 (retQ Tryz.prog Tryz.f100 R) (envOf 0 [x0]) w0 := by kernel_rfl
theorem F100_calls (x0 : Value) (R : Value → World → Prop) (w0 : World) (h : F100 x0 R w0) : CallK Tryz.prog 100 #[x0] R w0 :=
 calls_vc (c := bodyOf Tryz.f100) Tryz.func100 (by kernel_rfl) (by kernel_rfl) a100 (by kernel_rfl) (by kernel_rfl) [x0] (by rw [Tryz.ntmps100]; exact Nat.le_of_ble_eq_true rfl) w0 R ((F100_eq x0 R w0).mp h)

/-- canton/cantonref7.In, its body as a formula. -/
def F101 (x0 : Value) (R : Value → World → Prop) (w0 : World) : Prop :=
 BinK Tryz.prog .geq 2 x0 (.int .i64 0) (@hid _ ⟨fun t4_1 w2 =>
 GuardK t4_1 true (fun k w => k x0 w) (@hid _ ⟨fun t6_3 w4 =>
 GuardK t4_1 true (fun k w => BinK Tryz.prog .leq 2 t6_3 (.int .i64 1000000000) k w) (@hid _ ⟨fun t7_5 w6 =>
 PickK Tryz.prog t4_1 t7_5 (.bool false) (@hid _ ⟨fun t8_7 w8 =>
 R t8_7 w8⟩) w6⟩) w4⟩) w2⟩) w0
def a101 : Ann := (.seq .no (.seq .no .no))
theorem F101_eq (x0 : Value) (R : Value → World → Prop) (w0 : World) : F101 x0 R w0 = vc Tryz.prog (bodyOf Tryz.f101) a101 (retQ Tryz.prog Tryz.f101 R) (envOf 0 [x0]) w0 := by kernel_rfl
theorem F101_calls (x0 : Value) (R : Value → World → Prop) (w0 : World) (h : F101 x0 R w0) : CallK Tryz.prog 101 #[x0] R w0 :=
 calls_vc (c := bodyOf Tryz.f101) Tryz.func101 (by kernel_rfl) (by kernel_rfl) a101 (by kernel_rfl) (by kernel_rfl) [x0] (by rw [Tryz.ntmps101]; exact Nat.le_of_ble_eq_true rfl) w0 R ((F101_eq x0 R w0).mp h)

/-- canton/cantonref7.Node, its body as a formula. -/
def F102 (x0 : Value) (R : Value → World → Prop) (w0 : World) : Prop :=
 CallV Tryz.prog (.func (.func 113) #[] #[]) #[x0] (@hid _ ⟨fun t4_1 w2 =>
 GuardK t4_1 true (fun k w => k x0 w) (@hid _ ⟨fun t6_3 w4 =>
 GuardK t4_1 true (fun k w => BinK Tryz.prog .neq 9 t6_3 (.string { data := #[47] }) k w) (@hid _ ⟨fun t7_5 w6 =>
 PickK Tryz.prog t4_1 t7_5 (.bool false) (@hid _ ⟨fun t8_7 w8 =>
 R t8_7 w8⟩) w6⟩) w4⟩) w2⟩) w0
def a102 : Ann := (.seq .no (.seq .no .no))
theorem F102_eq (x0 : Value) (R : Value → World → Prop) (w0 : World) : F102 x0 R w0 = vc Tryz.prog (bodyOf Tryz.f102) a102 (retQ Tryz.prog Tryz.f102 R) (envOf 0 [x0]) w0 := by kernel_rfl
theorem F102_calls (x0 : Value) (R : Value → World → Prop) (w0 : World) (h : F102 x0 R w0) : CallK Tryz.prog 102 #[x0] R w0 :=
 calls_vc (c := bodyOf Tryz.f102) Tryz.func102 (by kernel_rfl) (by kernel_rfl) a102 (by kernel_rfl) (by kernel_rfl) [x0] (by rw [Tryz.ntmps102]; exact Nat.le_of_ble_eq_true rfl) w0 R ((F102_eq x0 R w0).mp h)

/-- cmp.Or[int], its body as a formula. -/
def F103 (x0 : Value) (R : Value → World → Prop) (w0 : World) : Prop :=
 BuiltinK Tryz.prog .len #[145] 3 #[false] #[x0] (@hid _ ⟨fun t7_1 w2 =>
 LoopK1 (.int .i64 0) w2 (@hid _ ⟨fun _ x8_3 w4 B5 =>
 BinK Tryz.prog .lss 3 x8_3 t7_1 (@hid _ ⟨fun t9_6 w7 =>
 BrK t9_6 (@hid _ ⟨
 IndexAtK Tryz.prog 145 x0 x8_3 (@hid _ ⟨fun t10_8 w9 =>
 LoadK Tryz.prog 3 t10_8 (@hid _ ⟨fun t11_10 w11 =>
 BinK Tryz.prog .neq 3 t11_10 (.int .i64 0) (@hid _ ⟨fun t14_12 w13 =>
 BrK t14_12 (@hid _ ⟨
 R t11_10 w13⟩) (@hid _ ⟨
 BinK Tryz.prog .add 3 x8_3 (.int .i64 1) (@hid _ ⟨fun t16_14 w15 =>
 B5 t16_14 w15⟩) w13⟩)⟩) w11⟩) w9⟩) w7⟩) (@hid _ ⟨
 R (.int .i64 0) w7⟩)⟩) w4⟩)⟩) w0
def a103 : Ann := (.seq .no (.seq .no (.seq (.seq .no (.block (.loop [8] [(2, 2), (5, 5), (9, 16)] (.seq .no (.seq (.cond .no .no) (.seq (.block (.seq .no (.seq .no (.cond (.seq .no .no) .no)))) .no)))))) (.seq .no .no))))
theorem F103_eq (x0 : Value) (R : Value → World → Prop) (w0 : World) : F103 x0 R w0 = vc Tryz.prog (bodyOf Tryz.f103) a103 (retQ Tryz.prog Tryz.f103 R) (envOf 0 [x0]) w0 := by kernel_rfl
theorem F103_calls (x0 : Value) (R : Value → World → Prop) (w0 : World) (h : F103 x0 R w0) : CallK Tryz.prog 103 #[x0] R w0 :=
 calls_vc (c := bodyOf Tryz.f103) Tryz.func103 (by kernel_rfl) (by kernel_rfl) a103 (by kernel_rfl) (by kernel_rfl) [x0] (by rw [Tryz.ntmps103]; exact Nat.le_of_ble_eq_true rfl) w0 R ((F103_eq x0 R w0).mp h)

/-- cmp.Compare[int64], its body as a formula. -/
def F104 (x0 x1 : Value) (R : Value → World → Prop) (w0 : World) : Prop :=
 CallV Tryz.prog (.func (.func 114) #[] #[]) #[x0] (@hid _ ⟨fun t8_1 w2 =>
 CallV Tryz.prog (.func (.func 114) #[] #[]) #[x1] (@hid _ ⟨fun t10_3 w4 =>
 BrK t8_1 (@hid _ ⟨
 BrK t10_3 (@hid _ ⟨
 R (.int .i64 0) w4⟩) (@hid _ ⟨
 R (.int .i64 (-1)) w4⟩)⟩) (@hid _ ⟨
 BrK t10_3 (@hid _ ⟨
 R (.int .i64 1) w4⟩) (@hid _ ⟨
 BinK Tryz.prog .lss 2 x0 x1 (@hid _ ⟨fun t16_5 w6 =>
 BrK t16_5 (@hid _ ⟨
 R (.int .i64 (-1)) w6⟩) (@hid _ ⟨
 BinK Tryz.prog .gtr 2 x0 x1 (@hid _ ⟨fun t19_7 w8 =>
 BrK t19_7 (@hid _ ⟨
 R (.int .i64 1) w8⟩) (@hid _ ⟨
 R (.int .i64 0) w8⟩)⟩) w6⟩)⟩) w4⟩)⟩)⟩) w2⟩) w0
def a104 : Ann := (.seq .no (.seq .no (.seq .no (.seq (.seq .no (.cond (.seq (.seq .no (.cond (.seq .no .no) .no)) (.seq .no .no)) .no)) (.seq (.seq .no (.cond (.seq .no .no) .no)) (.seq (.seq .no (.cond (.seq .no .no) .no)) (.seq (.seq .no (.cond (.seq .no .no) .no)) (.seq .no .no))))))))
theorem F104_eq (x0 x1 : Value) (R : Value → World → Prop) (w0 : World) : F104 x0 x1 R w0 = vc Tryz.prog (bodyOf Tryz.f104) a104 (retQ Tryz.prog Tryz.f104 R) (envOf 0 [x0, x1]) w0 := by kernel_rfl
theorem F104_calls (x0 x1 : Value) (R : Value → World → Prop) (w0 : World) (h : F104 x0 x1 R w0) : CallK Tryz.prog 104 #[x0, x1] R w0 :=
 calls_vc (c := bodyOf Tryz.f104) Tryz.func104 (by kernel_rfl) (by kernel_rfl) a104 (by kernel_rfl) (by kernel_rfl) [x0, x1] (by rw [Tryz.ntmps104]; exact Nat.le_of_ble_eq_true rfl) w0 R ((F104_eq x0 x1 R w0).mp h)

/-- cmp.Compare[string], its body as a formula. -/
def F105 (x0 x1 : Value) (R : Value → World → Prop) (w0 : World) : Prop :=
 CallV Tryz.prog (.func (.func 115) #[] #[]) #[x0] (@hid _ ⟨fun t8_1 w2 =>
 CallV Tryz.prog (.func (.func 115) #[] #[]) #[x1] (@hid _ ⟨fun t10_3 w4 =>
 BrK t8_1 (@hid _ ⟨
 BrK t10_3 (@hid _ ⟨
 R (.int .i64 0) w4⟩) (@hid _ ⟨
 R (.int .i64 (-1)) w4⟩)⟩) (@hid _ ⟨
 BrK t10_3 (@hid _ ⟨
 R (.int .i64 1) w4⟩) (@hid _ ⟨
 BinK Tryz.prog .lss 9 x0 x1 (@hid _ ⟨fun t16_5 w6 =>
 BrK t16_5 (@hid _ ⟨
 R (.int .i64 (-1)) w6⟩) (@hid _ ⟨
 BinK Tryz.prog .gtr 9 x0 x1 (@hid _ ⟨fun t19_7 w8 =>
 BrK t19_7 (@hid _ ⟨
 R (.int .i64 1) w8⟩) (@hid _ ⟨
 R (.int .i64 0) w8⟩)⟩) w6⟩)⟩) w4⟩)⟩)⟩) w2⟩) w0
def a105 : Ann := (.seq .no (.seq .no (.seq .no (.seq (.seq .no (.cond (.seq (.seq .no (.cond (.seq .no .no) .no)) (.seq .no .no)) .no)) (.seq (.seq .no (.cond (.seq .no .no) .no)) (.seq (.seq .no (.cond (.seq .no .no) .no)) (.seq (.seq .no (.cond (.seq .no .no) .no)) (.seq .no .no))))))))
theorem F105_eq (x0 x1 : Value) (R : Value → World → Prop) (w0 : World) : F105 x0 x1 R w0 = vc Tryz.prog (bodyOf Tryz.f105) a105 (retQ Tryz.prog Tryz.f105 R) (envOf 0 [x0, x1]) w0 := by kernel_rfl
theorem F105_calls (x0 x1 : Value) (R : Value → World → Prop) (w0 : World) (h : F105 x0 x1 R w0) : CallK Tryz.prog 105 #[x0, x1] R w0 :=
 calls_vc (c := bodyOf Tryz.f105) Tryz.func105 (by kernel_rfl) (by kernel_rfl) a105 (by kernel_rfl) (by kernel_rfl) [x0, x1] (by rw [Tryz.ntmps105]; exact Nat.le_of_ble_eq_true rfl) w0 R ((F105_eq x0 x1 R w0).mp h)

/-- slices.EqualFunc[[]canton/row.Attr,[]canton/row.Attr,canton/row.Attr,canton/row.Attr], its body as a formula. -/
def F106 (x0 x1 x2 : Value) (R : Value → World → Prop) (w0 : World) : Prop :=
 BuiltinK Tryz.prog .len #[24] 3 #[false] #[x0] (@hid _ ⟨fun t11_1 w2 =>
 BuiltinK Tryz.prog .len #[24] 3 #[false] #[x1] (@hid _ ⟨fun t13_3 w4 =>
 BinK Tryz.prog .neq 3 t11_1 t13_3 (@hid _ ⟨fun t14_5 w6 =>
 BrK t14_5 (@hid _ ⟨
 R (.bool false) w6⟩) (@hid _ ⟨
 BuiltinK Tryz.prog .len #[24] 3 #[false] #[x0] (@hid _ ⟨fun t16_7 w8 =>
 LoopK1 (.int .i64 0) w8 (@hid _ ⟨fun _ x17_9 w10 B11 =>
 BinK Tryz.prog .lss 3 x17_9 t16_7 (@hid _ ⟨fun t18_12 w13 =>
 BrK t18_12 (@hid _ ⟨
 IndexAtK Tryz.prog 24 x0 x17_9 (@hid _ ⟨fun t20_14 w15 =>
 LoadK Tryz.prog 64 t20_14 (@hid _ ⟨fun t21_16 w17 =>
 AllocK Tryz.prog 64 (@hid _ ⟨fun t8_18 w19 =>
 StoreK Tryz.prog 64 t8_18 t21_16 (@hid _ ⟨fun tu_20 w21 =>
 IndexAtK Tryz.prog 24 x1 x17_9 (@hid _ ⟨fun t24_22 w23 =>
 LoadK Tryz.prog 64 t24_22 (@hid _ ⟨fun t25_24 w25 =>
 AllocK Tryz.prog 64 (@hid _ ⟨fun t9_26 w27 =>
 StoreK Tryz.prog 64 t9_26 t25_24 (@hid _ ⟨fun tu_28 w29 =>
 LoadK Tryz.prog 64 t8_18 (@hid _ ⟨fun t27_30 w31 =>
 LoadK Tryz.prog 64 t9_26 (@hid _ ⟨fun t28_32 w33 =>
 CallV Tryz.prog x2 #[t27_30, t28_32] (@hid _ ⟨fun t29_34 w35 =>
 UnK Tryz.prog .not t29_34 (@hid _ ⟨fun t30_36 w37 =>
 BrK t30_36 (@hid _ ⟨
 R (.bool false) w37⟩) (@hid _ ⟨
 BinK Tryz.prog .add 3 x17_9 (.int .i64 1) (@hid _ ⟨fun t31_38 w39 =>
 B11 t31_38 w39⟩) w37⟩)⟩) w35⟩) w33⟩) w31⟩) w29⟩) w27⟩) w25⟩) w23⟩) w21⟩) w19⟩) w17⟩) w15⟩) w13⟩) (@hid _ ⟨
 R (.bool true) w13⟩)⟩) w10⟩)⟩) w6⟩)⟩) w4⟩) w2⟩) w0
def a106 : Ann := (.seq .no (.seq (.seq .no (.cond (.seq .no .no) .no)) (.seq (.seq .no (.block (.loop [17] [(6, 9), (18, 31)] (.seq .no (.seq (.cond .no .no) (.seq (.block (.seq .no (.seq .no (.seq .no (.cond (.seq .no .no) .no))))) .no)))))) (.seq .no .no))))
theorem F106_eq (x0 x1 x2 : Value) (R : Value → World → Prop) (w0 : World) : F106 x0 x1 x2 R w0 = vc Tryz.prog (bodyOf Tryz.f106) a106 (retQ Tryz.prog Tryz.f106 R) (envOf 0 [x0, x1, x2]) w0 := by kernel_rfl
theorem F106_calls (x0 x1 x2 : Value) (R : Value → World → Prop) (w0 : World) (h : F106 x0 x1 x2 R w0) : CallK Tryz.prog 106 #[x0, x1, x2] R w0 :=
 calls_vc (c := bodyOf Tryz.f106) Tryz.func106 (by kernel_rfl) (by kernel_rfl) a106 (by kernel_rfl) (by kernel_rfl) [x0, x1, x2] (by rw [Tryz.ntmps106]; exact Nat.le_of_ble_eq_true rfl) w0 R ((F106_eq x0 x1 x2 R w0).mp h)

/-- canton/row.SameAttrs$1, its body as a formula. -/
def F107 (x0 x1 : Value) (R : Value → World → Prop) (w0 : World) : Prop :=
 BoxK Tryz.prog 64 x0 (@hid _ ⟨fun t2_1 w2 =>
 BoxK Tryz.prog 64 x1 (@hid _ ⟨fun t3_3 w4 =>
 FieldAtK Tryz.prog 64 t2_1 0 (@hid _ ⟨fun t5_5 w6 =>
 LoadK Tryz.prog 9 t5_5 (@hid _ ⟨fun t6_7 w8 =>
 FieldAtK Tryz.prog 64 t3_3 0 (@hid _ ⟨fun t7_9 w10 =>
 LoadK Tryz.prog 9 t7_9 (@hid _ ⟨fun t8_11 w12 =>
 BinK Tryz.prog .eql 9 t6_7 t8_11 (@hid _ ⟨fun t9_13 w14 =>
 GuardK t9_13 true (fun k w => FieldAtK Tryz.prog 64 t2_1 1 k w) (@hid _ ⟨fun t11_15 w16 =>
 GuardK t9_13 true (fun k w => LoadK Tryz.prog 61 t11_15 k w) (@hid _ ⟨fun t12_17 w18 =>
 GuardK t9_13 true (fun k w => FieldAtK Tryz.prog 64 t3_3 1 k w) (@hid _ ⟨fun t13_19 w20 =>
 GuardK t9_13 true (fun k w => LoadK Tryz.prog 61 t13_19 k w) (@hid _ ⟨fun t14_21 w22 =>
 GuardK t9_13 true (fun k w => CallV Tryz.prog (.func (.func 108) #[] #[]) #[t12_17, t14_21] k w) (@hid _ ⟨fun t15_23 w24 =>
 PickK Tryz.prog t9_13 t15_23 (.bool false) (@hid _ ⟨fun t16_25 w26 =>
 R t16_25 w26⟩) w24⟩) w22⟩) w20⟩) w18⟩) w16⟩) w14⟩) w12⟩) w10⟩) w8⟩) w6⟩) w4⟩) w2⟩) w0
def a107 : Ann := (.seq .no (.seq .no .no))
theorem F107_eq (x0 x1 : Value) (R : Value → World → Prop) (w0 : World) : F107 x0 x1 R w0 = vc Tryz.prog (bodyOf Tryz.f107) a107 (retQ Tryz.prog Tryz.f107 R) (envOf 0 [x0, x1]) w0 := by kernel_rfl
theorem F107_calls (x0 x1 : Value) (R : Value → World → Prop) (w0 : World) (h : F107 x0 x1 R w0) : CallK Tryz.prog 107 #[x0, x1] R w0 :=
 calls_vc (c := bodyOf Tryz.f107) Tryz.func107 (by kernel_rfl) (by kernel_rfl) a107 (by kernel_rfl) (by kernel_rfl) [x0, x1] (by rw [Tryz.ntmps107]; exact Nat.le_of_ble_eq_true rfl) w0 R ((F107_eq x0 x1 R w0).mp h)

/-- canton/value.Same, its body as a formula. -/
def F108 (x0 x1 : Value) (R : Value → World → Prop) (w0 : World) : Prop :=
 BoxK Tryz.prog 61 x0 (@hid _ ⟨fun t2_1 w2 =>
 BoxK Tryz.prog 61 x1 (@hid _ ⟨fun t3_3 w4 =>
 LoadK Tryz.prog 61 t2_1 (@hid _ ⟨fun t5_5 w6 =>
 LoadK Tryz.prog 61 t3_3 (@hid _ ⟨fun t6_7 w8 =>
 CallV Tryz.prog (.func (.func 116) #[] #[]) #[t5_5, t6_7] (@hid _ ⟨fun t7_9 w10 =>
 BinK Tryz.prog .eql 3 t7_9 (.int .i64 0) (@hid _ ⟨fun t8_11 w12 =>
 R t8_11 w12⟩) w10⟩) w8⟩) w6⟩) w4⟩) w2⟩) w0
def a108 : Ann := (.seq .no (.seq .no .no))
theorem F108_eq (x0 x1 : Value) (R : Value → World → Prop) (w0 : World) : F108 x0 x1 R w0 = vc Tryz.prog (bodyOf Tryz.f108) a108 (retQ Tryz.prog Tryz.f108 R) (envOf 0 [x0, x1]) w0 := by kernel_rfl
theorem F108_calls (x0 x1 : Value) (R : Value → World → Prop) (w0 : World) (h : F108 x0 x1 R w0) : CallK Tryz.prog 108 #[x0, x1] R w0 :=
 calls_vc (c := bodyOf Tryz.f108) Tryz.func108 (by kernel_rfl) (by kernel_rfl) a108 (by kernel_rfl) (by kernel_rfl) [x0, x1] (by rw [Tryz.ntmps108]; exact Nat.le_of_ble_eq_true rfl) w0 R ((F108_eq x0 x1 R w0).mp h)

/-- canton/stamp.in, its body as a formula. -/
def F109 (x0 : Value) (R : Value → World → Prop) (w0 : World) : Prop :=
 BinK Tryz.prog .geq 2 x0 (.int .i64 0) (@hid _ ⟨fun t4_1 w2 =>
 GuardK t4_1 true (fun k w => k x0 w) (@hid _ ⟨fun t6_3 w4 =>
 GuardK t4_1 true (fun k w => BinK Tryz.prog .leq 2 t6_3 (.int .i64 1000000000) k w) (@hid _ ⟨fun t7_5 w6 =>
 PickK Tryz.prog t4_1 t7_5 (.bool false) (@hid _ ⟨fun t8_7 w8 =>
 R t8_7 w8⟩) w6⟩) w4⟩) w2⟩) w0
def a109 : Ann := (.seq .no (.seq .no .no))
theorem F109_eq (x0 : Value) (R : Value → World → Prop) (w0 : World) : F109 x0 R w0 = vc Tryz.prog (bodyOf Tryz.f109) a109 (retQ Tryz.prog Tryz.f109 R) (envOf 0 [x0]) w0 := by kernel_rfl
theorem F109_calls (x0 : Value) (R : Value → World → Prop) (w0 : World) (h : F109 x0 R w0) : CallK Tryz.prog 109 #[x0] R w0 :=
 calls_vc (c := bodyOf Tryz.f109) Tryz.func109 (by kernel_rfl) (by kernel_rfl) a109 (by kernel_rfl) (by kernel_rfl) [x0] (by rw [Tryz.ntmps109]; exact Nat.le_of_ble_eq_true rfl) w0 R ((F109_eq x0 R w0).mp h)

/-- canton/stamp.Path, its body as a formula. -/
def F110 (x0 : Value) (R : Value → World → Prop) (w0 : World) : Prop :=
 CallV Tryz.prog (.func (.func 117) #[] #[]) #[x0, (.string { data := #[47] })] (@hid _ ⟨fun t10_1 w2 =>
 ExtractK Tryz.prog t10_1 0 (@hid _ ⟨fun t11_3 w4 =>
 ExtractK Tryz.prog t10_1 1 (@hid _ ⟨fun t12_5 w6 =>
 UnK Tryz.prog .not t12_5 (@hid _ ⟨fun t14_7 w8 =>
 BrK t14_7 (@hid _ ⟨
 R (.bool false) w8⟩) (@hid _ ⟨
 CallV Tryz.prog (.func (.func 118) #[] #[]) #[t11_3, (.string { data := #[47] })] (@hid _ ⟨fun t16_9 w10 =>
 BuiltinK Tryz.prog .len #[150] 3 #[false] #[t16_9] (@hid _ ⟨fun t18_11 w12 =>
 LoopK1 (.int .i64 0) w12 (@hid _ ⟨fun _ x19_13 w14 B15 =>
 BinK Tryz.prog .lss 3 x19_13 t18_11 (@hid _ ⟨fun t20_16 w17 =>
 BrK t20_16 (@hid _ ⟨
 IndexAtK Tryz.prog 150 t16_9 x19_13 (@hid _ ⟨fun t21_18 w19 =>
 LoadK Tryz.prog 9 t21_18 (@hid _ ⟨fun t22_20 w21 =>
 CallV Tryz.prog (.func (.func 119) #[] #[]) #[t22_20] (@hid _ ⟨fun t24_22 w23 =>
 UnK Tryz.prog .not t24_22 (@hid _ ⟨fun t25_24 w25 =>
 BrK t25_24 (@hid _ ⟨
 R (.bool false) w25⟩) (@hid _ ⟨
 BinK Tryz.prog .add 3 x19_13 (.int .i64 1) (@hid _ ⟨fun t26_26 w27 =>
 B15 t26_26 w27⟩) w25⟩)⟩) w23⟩) w21⟩) w19⟩) w17⟩) (@hid _ ⟨
 BuiltinK Tryz.prog .len #[150] 3 #[false] #[t16_9] (@hid _ ⟨fun t28_28 w29 =>
 BinK Tryz.prog .leq 3 t28_28 (.int .i64 4) (@hid _ ⟨fun t29_30 w31 =>
 R t29_30 w31⟩) w29⟩) w17⟩)⟩) w14⟩)⟩) w10⟩) w8⟩)⟩) w6⟩) w4⟩) w2⟩) w0
def a110 : Ann := (.seq .no (.seq .no (.seq (.seq .no (.cond (.seq .no .no) .no)) (.seq .no (.seq (.seq .no (.block (.loop [19] [(2, 2), (7, 7), (20, 26)] (.seq .no (.seq (.cond .no .no) (.seq (.block (.seq .no (.seq .no (.cond (.seq .no .no) .no)))) .no)))))) (.seq .no .no))))))
theorem F110_eq (x0 : Value) (R : Value → World → Prop) (w0 : World) : F110 x0 R w0 = vc Tryz.prog (bodyOf Tryz.f110) a110 (retQ Tryz.prog Tryz.f110 R) (envOf 0 [x0]) w0 := by kernel_rfl
theorem F110_calls (x0 : Value) (R : Value → World → Prop) (w0 : World) (h : F110 x0 R w0) : CallK Tryz.prog 110 #[x0] R w0 :=
 calls_vc (c := bodyOf Tryz.f110) Tryz.func110 (by kernel_rfl) (by kernel_rfl) a110 (by kernel_rfl) (by kernel_rfl) [x0] (by rw [Tryz.ntmps110]; exact Nat.le_of_ble_eq_true rfl) w0 R ((F110_eq x0 R w0).mp h)

/-- canton/value.Check, its body as a formula. -/
def F111 (x0 : Value) (R : Value → World → Prop) (w0 : World) : Prop :=
 BoxK Tryz.prog 61 x0 (@hid _ ⟨fun t1_1 w2 =>
 FieldAtK Tryz.prog 61 t1_1 0 (@hid _ ⟨fun t3_3 w4 =>
 LoadK Tryz.prog 3 t3_3 (@hid _ ⟨fun t4_5 w6 =>
 BinK Tryz.prog .eql 3 t4_5 (.int .i64 1) (@hid _ ⟨fun t6_7 w8 =>
 BrK t6_7 (@hid _ ⟨
 R (.int .i64 0) w8⟩) (@hid _ ⟨
 BinK Tryz.prog .eql 3 t4_5 (.int .i64 2) (@hid _ ⟨fun t8_9 w10 =>
 BrK t8_9 (@hid _ ⟨
 FieldAtK Tryz.prog 61 t1_1 2 (@hid _ ⟨fun t9_11 w12 =>
 LoadK Tryz.prog 9 t9_11 (@hid _ ⟨fun t10_13 w14 =>
 CallV Tryz.prog (.func (.func 120) #[] #[]) #[t10_13] (@hid _ ⟨fun t11_15 w16 =>
 R t11_15 w16⟩) w14⟩) w12⟩) w10⟩) (@hid _ ⟨
 BinK Tryz.prog .eql 3 t4_5 (.int .i64 3) (@hid _ ⟨fun t13_17 w18 =>
 BrK t13_17 (@hid _ ⟨
 FieldAtK Tryz.prog 61 t1_1 3 (@hid _ ⟨fun t14_19 w20 =>
 LoadK Tryz.prog 59 t14_19 (@hid _ ⟨fun t15_21 w22 =>
 CallV Tryz.prog (.func (.func 121) #[] #[]) #[t15_21] (@hid _ ⟨fun t16_23 w24 =>
 R t16_23 w24⟩) w22⟩) w20⟩) w18⟩) (@hid _ ⟨
 R (.int .i64 7) w18⟩)⟩) w10⟩)⟩) w8⟩)⟩) w6⟩) w4⟩) w2⟩) w0
def a111 : Ann := (.seq .no (.seq (.seq .no (.block (.seq .no (.cond (.seq .no .no) (.seq .no (.cond (.seq .no .no) (.seq .no (.cond (.seq .no .no) .no)))))))) (.seq .no .no)))
theorem F111_eq (x0 : Value) (R : Value → World → Prop) (w0 : World) : F111 x0 R w0 = vc Tryz.prog (bodyOf Tryz.f111) a111 (retQ Tryz.prog Tryz.f111 R) (envOf 0 [x0]) w0 := by kernel_rfl
theorem F111_calls (x0 : Value) (R : Value → World → Prop) (w0 : World) (h : F111 x0 R w0) : CallK Tryz.prog 111 #[x0] R w0 :=
 calls_vc (c := bodyOf Tryz.f111) Tryz.func111 (by kernel_rfl) (by kernel_rfl) a111 (by kernel_rfl) (by kernel_rfl) [x0] (by rw [Tryz.ntmps111]; exact Nat.le_of_ble_eq_true rfl) w0 R ((F111_eq x0 R w0).mp h)

/-- canton/codec.sum, its body as a formula. -/
def F112 (x0 : Value) (R : Value → World → Prop) (w0 : World) : Prop :=
 BuiltinK Tryz.prog .len #[29] 3 #[false] #[x0] (@hid _ ⟨fun t8_1 w2 =>
 LoopK2 (.int .u32 4294967295) (.int .i64 0) w2 (@hid _ ⟨fun _ x3_3 x9_4 w5 B6 =>
 BinK Tryz.prog .lss 3 x9_4 t8_1 (@hid _ ⟨fun t10_7 w8 =>
 BrK t10_7 (@hid _ ⟨
 IndexAtK Tryz.prog 29 x0 x9_4 (@hid _ ⟨fun t11_9 w10 =>
 LoadK Tryz.prog 5 t11_9 (@hid _ ⟨fun t12_11 w12 =>
 ConvK Tryz.prog 5 106 t12_11 (@hid _ ⟨fun t15_13 w14 =>
 BinK Tryz.prog .xor 106 x3_3 t15_13 (@hid _ ⟨fun t16_15 w16 =>
 LoopK2 t16_15 (.int .i64 0) w16 (@hid _ ⟨fun _ x3_17 x17_18 w19 B20 =>
 BinK Tryz.prog .lss 3 x17_18 (.int .i64 8) (@hid _ ⟨fun t18_21 w22 =>
 BrK t18_21 (@hid _ ⟨
 BinK Tryz.prog .and 106 x3_17 (.int .u32 1) (@hid _ ⟨fun t20_23 w24 =>
 BinK Tryz.prog .shr 106 x3_17 (.int .u64 1) (@hid _ ⟨fun t22_25 w26 =>
 BinK Tryz.prog .eql 106 t20_23 (.int .u32 1) (@hid _ ⟨fun t24_27 w28 =>
 BrK t24_27 (@hid _ ⟨
 BinK Tryz.prog .xor 106 t22_25 (.int .u32 3988292384) (@hid _ ⟨fun t26_29 w30 =>
 BinK Tryz.prog .add 3 x17_18 (.int .i64 1) (@hid _ ⟨fun t27_31 w32 =>
 B20 t26_29 t27_31 w32⟩) w30⟩) w28⟩) (@hid _ ⟨
 BinK Tryz.prog .add 3 x17_18 (.int .i64 1) (@hid _ ⟨fun t27_33 w34 =>
 B20 t22_25 t27_33 w34⟩) w28⟩)⟩) w26⟩) w24⟩) w22⟩) (@hid _ ⟨
 BinK Tryz.prog .add 3 x9_4 (.int .i64 1) (@hid _ ⟨fun t28_35 w36 =>
 B6 x3_17 t28_35 w36⟩) w22⟩)⟩) w19⟩)⟩) w14⟩) w12⟩) w10⟩) w8⟩) (@hid _ ⟨
 UnK Tryz.prog .xor x3_3 (@hid _ ⟨fun t30_37 w38 =>
 R t30_37 w38⟩) w8⟩)⟩) w5⟩)⟩) w0
def a112 : Ann := (.seq .no (.seq .no (.seq (.seq .no (.block (.loop [3, 9] [(5, 6), (10, 28)] (.seq .no (.seq (.cond .no .no) (.seq (.block (.seq .no (.seq .no (.seq .no (.block (.loop [3, 17] [(6, 6), (18, 27)] (.seq .no (.seq (.cond .no .no) (.seq (.block (.seq .no (.seq .no (.seq .no (.cond .no .no))))) .no))))))))) .no)))))) (.seq .no .no))))
theorem F112_eq (x0 : Value) (R : Value → World → Prop) (w0 : World) : F112 x0 R w0 = vc Tryz.prog (bodyOf Tryz.f112) a112 (retQ Tryz.prog Tryz.f112 R) (envOf 0 [x0]) w0 := by kernel_rfl
theorem F112_calls (x0 : Value) (R : Value → World → Prop) (w0 : World) (h : F112 x0 R w0) : CallK Tryz.prog 112 #[x0] R w0 :=
 calls_vc (c := bodyOf Tryz.f112) Tryz.func112 (by kernel_rfl) (by kernel_rfl) a112 (by kernel_rfl) (by kernel_rfl) [x0] (by rw [Tryz.ntmps112]; exact Nat.le_of_ble_eq_true rfl) w0 R ((F112_eq x0 R w0).mp h)

/-- canton/cantonref7.Path, its body as a formula. -/
def F113 (x0 : Value) (R : Value → World → Prop) (w0 : World) : Prop :=
 CallV Tryz.prog (.func (.func 122) #[] #[]) #[x0] (@hid _ ⟨fun t7_1 w2 =>
 ExtractK Tryz.prog t7_1 0 (@hid _ ⟨fun t8_3 w4 =>
 ExtractK Tryz.prog t7_1 1 (@hid _ ⟨fun t9_5 w6 =>
 BinK Tryz.prog .eql 3 t9_5 (.int .i64 0) (@hid _ ⟨fun t11_7 w8 =>
 R t11_7 w8⟩) w6⟩) w4⟩) w2⟩) w0
def a113 : Ann := (.seq .no (.seq .no (.seq .no .no)))
theorem F113_eq (x0 : Value) (R : Value → World → Prop) (w0 : World) : F113 x0 R w0 = vc Tryz.prog (bodyOf Tryz.f113) a113 (retQ Tryz.prog Tryz.f113 R) (envOf 0 [x0]) w0 := by kernel_rfl
theorem F113_calls (x0 : Value) (R : Value → World → Prop) (w0 : World) (h : F113 x0 R w0) : CallK Tryz.prog 113 #[x0] R w0 :=
 calls_vc (c := bodyOf Tryz.f113) Tryz.func113 (by kernel_rfl) (by kernel_rfl) a113 (by kernel_rfl) (by kernel_rfl) [x0] (by rw [Tryz.ntmps113]; exact Nat.le_of_ble_eq_true rfl) w0 R ((F113_eq x0 R w0).mp h)

/-- cmp.isNaN[int64], its body as a formula. -/
def F114 (x0 : Value) (R : Value → World → Prop) (w0 : World) : Prop :=
 BinK Tryz.prog .neq 2 x0 x0 (@hid _ ⟨fun t5_1 w2 =>
 R t5_1 w2⟩) w0
def a114 : Ann := (.seq .no (.seq .no .no))
theorem F114_eq (x0 : Value) (R : Value → World → Prop) (w0 : World) : F114 x0 R w0 = vc Tryz.prog (bodyOf Tryz.f114) a114 (retQ Tryz.prog Tryz.f114 R) (envOf 0 [x0]) w0 := by kernel_rfl
theorem F114_calls (x0 : Value) (R : Value → World → Prop) (w0 : World) (h : F114 x0 R w0) : CallK Tryz.prog 114 #[x0] R w0 :=
 calls_vc (c := bodyOf Tryz.f114) Tryz.func114 (by kernel_rfl) (by kernel_rfl) a114 (by kernel_rfl) (by kernel_rfl) [x0] (by rw [Tryz.ntmps114]; exact Nat.le_of_ble_eq_true rfl) w0 R ((F114_eq x0 R w0).mp h)

/-- cmp.isNaN[string], its body as a formula. -/
def F115 (x0 : Value) (R : Value → World → Prop) (w0 : World) : Prop :=
 BinK Tryz.prog .neq 9 x0 x0 (@hid _ ⟨fun t5_1 w2 =>
 R t5_1 w2⟩) w0
def a115 : Ann := (.seq .no (.seq .no .no))
theorem F115_eq (x0 : Value) (R : Value → World → Prop) (w0 : World) : F115 x0 R w0 = vc Tryz.prog (bodyOf Tryz.f115) a115 (retQ Tryz.prog Tryz.f115 R) (envOf 0 [x0]) w0 := by kernel_rfl
theorem F115_calls (x0 : Value) (R : Value → World → Prop) (w0 : World) (h : F115 x0 R w0) : CallK Tryz.prog 115 #[x0] R w0 :=
 calls_vc (c := bodyOf Tryz.f115) Tryz.func115 (by kernel_rfl) (by kernel_rfl) a115 (by kernel_rfl) (by kernel_rfl) [x0] (by rw [Tryz.ntmps115]; exact Nat.le_of_ble_eq_true rfl) w0 R ((F115_eq x0 R w0).mp h)

/-- canton/value.Compare, its body as a formula. -/
def F116 (x0 x1 : Value) (R : Value → World → Prop) (w0 : World) : Prop :=
 BoxK Tryz.prog 61 x0 (@hid _ ⟨fun t2_1 w2 =>
 BoxK Tryz.prog 61 x1 (@hid _ ⟨fun t3_3 w4 =>
 FieldAtK Tryz.prog 61 t2_1 0 (@hid _ ⟨fun t6_5 w6 =>
 LoadK Tryz.prog 3 t6_5 (@hid _ ⟨fun t7_7 w8 =>
 FieldAtK Tryz.prog 61 t3_3 0 (@hid _ ⟨fun t8_9 w10 =>
 LoadK Tryz.prog 3 t8_9 (@hid _ ⟨fun t9_11 w12 =>
 CallV Tryz.prog (.func (.func 123) #[] #[]) #[t7_7, t9_11] (@hid _ ⟨fun t10_13 w14 =>
 BinK Tryz.prog .neq 3 t10_13 (.int .i64 0) (@hid _ ⟨fun t12_15 w16 =>
 BrK t12_15 (@hid _ ⟨
 R t10_13 w16⟩) (@hid _ ⟨
 FieldAtK Tryz.prog 61 t2_1 0 (@hid _ ⟨fun t14_17 w18 =>
 LoadK Tryz.prog 3 t14_17 (@hid _ ⟨fun t15_19 w20 =>
 BinK Tryz.prog .eql 3 t15_19 (.int .i64 1) (@hid _ ⟨fun t17_21 w22 =>
 BrK t17_21 (@hid _ ⟨
 FieldAtK Tryz.prog 61 t2_1 1 (@hid _ ⟨fun t18_23 w24 =>
 LoadK Tryz.prog 2 t18_23 (@hid _ ⟨fun t19_25 w26 =>
 FieldAtK Tryz.prog 61 t3_3 1 (@hid _ ⟨fun t20_27 w28 =>
 LoadK Tryz.prog 2 t20_27 (@hid _ ⟨fun t21_29 w30 =>
 CallV Tryz.prog (.func (.func 104) #[] #[]) #[t19_25, t21_29] (@hid _ ⟨fun t22_31 w32 =>
 R t22_31 w32⟩) w30⟩) w28⟩) w26⟩) w24⟩) w22⟩) (@hid _ ⟨
 BinK Tryz.prog .eql 3 t15_19 (.int .i64 2) (@hid _ ⟨fun t24_33 w34 =>
 BrK t24_33 (@hid _ ⟨
 FieldAtK Tryz.prog 61 t2_1 2 (@hid _ ⟨fun t25_35 w36 =>
 LoadK Tryz.prog 9 t25_35 (@hid _ ⟨fun t26_37 w38 =>
 FieldAtK Tryz.prog 61 t3_3 2 (@hid _ ⟨fun t27_39 w40 =>
 LoadK Tryz.prog 9 t27_39 (@hid _ ⟨fun t28_41 w42 =>
 CallV Tryz.prog (.func (.func 105) #[] #[]) #[t26_37, t28_41] (@hid _ ⟨fun t29_43 w44 =>
 R t29_43 w44⟩) w42⟩) w40⟩) w38⟩) w36⟩) w34⟩) (@hid _ ⟨
 BinK Tryz.prog .eql 3 t15_19 (.int .i64 3) (@hid _ ⟨fun t31_45 w46 =>
 BrK t31_45 (@hid _ ⟨
 FieldAtK Tryz.prog 61 t2_1 3 (@hid _ ⟨fun t32_47 w48 =>
 LoadK Tryz.prog 59 t32_47 (@hid _ ⟨fun t33_49 w50 =>
 FieldAtK Tryz.prog 61 t3_3 3 (@hid _ ⟨fun t34_51 w52 =>
 LoadK Tryz.prog 59 t34_51 (@hid _ ⟨fun t35_53 w54 =>
 CallV Tryz.prog (.func (.func 124) #[] #[]) #[t33_49, t35_53] (@hid _ ⟨fun t36_55 w56 =>
 R t36_55 w56⟩) w54⟩) w52⟩) w50⟩) w48⟩) w46⟩) (@hid _ ⟨
 R (.int .i64 0) w46⟩)⟩) w34⟩)⟩) w22⟩)⟩) w20⟩) w18⟩) w16⟩)⟩) w14⟩) w12⟩) w10⟩) w8⟩) w6⟩) w4⟩) w2⟩) w0
def a116 : Ann := (.seq .no (.seq (.seq .no (.seq .no (.cond (.seq .no .no) .no))) (.seq (.seq .no (.block (.seq .no (.cond (.seq .no .no) (.seq .no (.cond (.seq .no .no) (.seq .no (.cond (.seq .no .no) .no)))))))) (.seq .no .no))))
theorem F116_eq (x0 x1 : Value) (R : Value → World → Prop) (w0 : World) : F116 x0 x1 R w0 = vc Tryz.prog (bodyOf Tryz.f116) a116 (retQ Tryz.prog Tryz.f116 R) (envOf 0 [x0, x1]) w0 := by kernel_rfl
theorem F116_calls (x0 x1 : Value) (R : Value → World → Prop) (w0 : World) (h : F116 x0 x1 R w0) : CallK Tryz.prog 116 #[x0, x1] R w0 :=
 calls_vc (c := bodyOf Tryz.f116) Tryz.func116 (by kernel_rfl) (by kernel_rfl) a116 (by kernel_rfl) (by kernel_rfl) [x0, x1] (by rw [Tryz.ntmps116]; exact Nat.le_of_ble_eq_true rfl) w0 R ((F116_eq x0 x1 R w0).mp h)

/-- strings.CutPrefix, its body as a formula. -/
def F117 (x0 x1 : Value) (R : Value → World → Prop) (w0 : World) : Prop :=
 CallV Tryz.prog (.func (.func 125) #[] #[]) #[x0, x1] (@hid _ ⟨fun t8_1 w2 =>
 ExtractK Tryz.prog t8_1 0 (@hid _ ⟨fun t9_3 w4 =>
 ExtractK Tryz.prog t8_1 1 (@hid _ ⟨fun t10_5 w6 =>
 R (.tuple #[t9_3, t10_5]) w6⟩) w4⟩) w2⟩) w0
def a117 : Ann := (.seq .no (.seq .no .no))
theorem F117_eq (x0 x1 : Value) (R : Value → World → Prop) (w0 : World) : F117 x0 x1 R w0 = vc Tryz.prog (bodyOf Tryz.f117) a117 (retQ Tryz.prog Tryz.f117 R) (envOf 0 [x0, x1]) w0 := by kernel_rfl
theorem F117_calls (x0 x1 : Value) (R : Value → World → Prop) (w0 : World) (h : F117 x0 x1 R w0) : CallK Tryz.prog 117 #[x0, x1] R w0 :=
 calls_vc (c := bodyOf Tryz.f117) Tryz.func117 (by kernel_rfl) (by kernel_rfl) a117 (by kernel_rfl) (by kernel_rfl) [x0, x1] (by rw [Tryz.ntmps117]; exact Nat.le_of_ble_eq_true rfl) w0 R ((F117_eq x0 x1 R w0).mp h)

/-- canton/stamp.part, its body as a formula. -/
def F119 (x0 : Value) (R : Value → World → Prop) (w0 : World) : Prop :=
 BinK Tryz.prog .eql 9 x0 (.string { data := #[] }) (@hid _ ⟨fun t5_1 w2 =>
 GuardK t5_1 false (fun k w => k x0 w) (@hid _ ⟨fun t7_3 w4 =>
 GuardK t5_1 false (fun k w => BuiltinK Tryz.prog .len #[9] 3 #[false] #[t7_3] k w) (@hid _ ⟨fun t8_5 w6 =>
 GuardK t5_1 false (fun k w => BinK Tryz.prog .gtr 3 t8_5 (.int .i64 8) k w) (@hid _ ⟨fun t9_7 w8 =>
 PickK Tryz.prog t5_1 (.bool true) t9_7 (@hid _ ⟨fun t10_9 w10 =>
 GuardK t10_9 false (fun k w => k x0 w) (@hid _ ⟨fun t12_11 w12 =>
 GuardK t10_9 false (fun k w => ValK Tryz.prog (Instr.index 9 t12_11 (.int .i64 0)) k w) (@hid _ ⟨fun t13_13 w14 =>
 GuardK t10_9 false (fun k w => BinK Tryz.prog .lss 5 t13_13 (.int .u8 97) k w) (@hid _ ⟨fun t14_15 w16 =>
 PickK Tryz.prog t10_9 (.bool true) t14_15 (@hid _ ⟨fun t15_17 w18 =>
 BrK t15_17 (@hid _ ⟨
 R (.bool false) w18⟩) (@hid _ ⟨
 BuiltinK Tryz.prog .len #[9] 3 #[false] #[x0] (@hid _ ⟨fun t17_19 w20 =>
 LoopK1 (.int .i64 0) w20 (@hid _ ⟨fun _ x18_21 w22 B23 =>
 BinK Tryz.prog .lss 3 x18_21 t17_19 (@hid _ ⟨fun t19_24 w25 =>
 BrK t19_24 (@hid _ ⟨
 ValK Tryz.prog (Instr.index 9 x0 x18_21) (@hid _ ⟨fun t23_26 w27 =>
 BinK Tryz.prog .lss 5 t23_26 (.int .u8 97) (@hid _ ⟨fun t24_28 w29 =>
 GuardK t24_28 false (fun k w => k x0 w) (@hid _ ⟨fun t26_30 w31 =>
 GuardK t24_28 false (fun k w => k x18_21 w) (@hid _ ⟨fun t27_32 w33 =>
 GuardK t24_28 false (fun k w => ValK Tryz.prog (Instr.index 9 t26_30 t27_32) k w) (@hid _ ⟨fun t28_34 w35 =>
 GuardK t24_28 false (fun k w => BinK Tryz.prog .gtr 5 t28_34 (.int .u8 122) k w) (@hid _ ⟨fun t29_36 w37 =>
 PickK Tryz.prog t24_28 (.bool true) t29_36 (@hid _ ⟨fun t30_38 w39 =>
 GuardK t30_38 true (fun k w => k x0 w) (@hid _ ⟨fun t32_40 w41 =>
 GuardK t30_38 true (fun k w => k x18_21 w) (@hid _ ⟨fun t33_42 w43 =>
 GuardK t30_38 true (fun k w => ValK Tryz.prog (Instr.index 9 t32_40 t33_42) k w) (@hid _ ⟨fun t34_44 w45 =>
 GuardK t30_38 true (fun k w => BinK Tryz.prog .lss 5 t34_44 (.int .u8 48) k w) (@hid _ ⟨fun t35_46 w47 =>
 GuardK t30_38 true (fun k w => k t35_46 w) (@hid _ ⟨fun t36_48 w49 =>
 GuardK t36_48 false (fun k w => k x0 w) (@hid _ ⟨fun t37_50 w51 =>
 GuardK t36_48 false (fun k w => k x18_21 w) (@hid _ ⟨fun t38_52 w53 =>
 GuardK t36_48 false (fun k w => ValK Tryz.prog (Instr.index 9 t37_50 t38_52) k w) (@hid _ ⟨fun t39_54 w55 =>
 GuardK t36_48 false (fun k w => BinK Tryz.prog .gtr 5 t39_54 (.int .u8 57) k w) (@hid _ ⟨fun t40_56 w57 =>
 GuardK t30_38 true (fun k w => PickK Tryz.prog t36_48 (.bool true) t40_56 k w) (@hid _ ⟨fun t41_58 w59 =>
 PickK Tryz.prog t30_38 t41_58 (.bool false) (@hid _ ⟨fun t42_60 w61 =>
 BrK t42_60 (@hid _ ⟨
 R (.bool false) w61⟩) (@hid _ ⟨
 BinK Tryz.prog .add 3 x18_21 (.int .i64 1) (@hid _ ⟨fun t43_62 w63 =>
 B23 t43_62 w63⟩) w61⟩)⟩) w59⟩) w57⟩) w55⟩) w53⟩) w51⟩) w49⟩) w47⟩) w45⟩) w43⟩) w41⟩) w39⟩) w37⟩) w35⟩) w33⟩) w31⟩) w29⟩) w27⟩) w25⟩) (@hid _ ⟨
 R (.bool true) w25⟩)⟩) w22⟩)⟩) w18⟩)⟩) w16⟩) w14⟩) w12⟩) w10⟩) w8⟩) w6⟩) w4⟩) w2⟩) w0
def a119 : Ann := (.seq .no (.seq (.seq .no (.cond (.seq .no .no) .no)) (.seq (.seq .no (.block (.loop [18] [(2, 3), (19, 43)] (.seq .no (.seq (.cond .no .no) (.seq (.block (.seq .no (.seq .no (.cond (.seq .no .no) .no)))) .no)))))) (.seq .no .no))))
theorem F119_eq (x0 : Value) (R : Value → World → Prop) (w0 : World) : F119 x0 R w0 = vc Tryz.prog (bodyOf Tryz.f119) a119 (retQ Tryz.prog Tryz.f119 R) (envOf 0 [x0]) w0 := by kernel_rfl
theorem F119_calls (x0 : Value) (R : Value → World → Prop) (w0 : World) (h : F119 x0 R w0) : CallK Tryz.prog 119 #[x0] R w0 :=
 calls_vc (c := bodyOf Tryz.f119) Tryz.func119 (by kernel_rfl) (by kernel_rfl) a119 (by kernel_rfl) (by kernel_rfl) [x0] (by rw [Tryz.ntmps119]; exact Nat.le_of_ble_eq_true rfl) w0 R ((F119_eq x0 R w0).mp h)

/-- canton/value.text, its body as a formula. -/
def F120 (x0 : Value) (R : Value → World → Prop) (w0 : World) : Prop :=
 BuiltinK Tryz.prog .len #[9] 3 #[false] #[x0] (@hid _ ⟨fun t5_1 w2 =>
 BinK Tryz.prog .gtr 3 t5_1 (.int .i64 64) (@hid _ ⟨fun t6_3 w4 =>
 BrK t6_3 (@hid _ ⟨
 R (.int .i64 4) w4⟩) (@hid _ ⟨
 BuiltinK Tryz.prog .len #[9] 3 #[false] #[x0] (@hid _ ⟨fun t8_5 w6 =>
 LoopK1 (.int .i64 0) w6 (@hid _ ⟨fun _ x9_7 w8 B9 =>
 BinK Tryz.prog .lss 3 x9_7 t8_5 (@hid _ ⟨fun t10_10 w11 =>
 BrK t10_10 (@hid _ ⟨
 ValK Tryz.prog (Instr.index 9 x0 x9_7) (@hid _ ⟨fun t14_12 w13 =>
 CallV Tryz.prog (.func (.func 127) #[] #[]) #[t14_12] (@hid _ ⟨fun t15_14 w15 =>
 UnK Tryz.prog .not t15_14 (@hid _ ⟨fun t16_16 w17 =>
 BrK t16_16 (@hid _ ⟨
 R (.int .i64 2) w17⟩) (@hid _ ⟨
 BinK Tryz.prog .add 3 x9_7 (.int .i64 1) (@hid _ ⟨fun t17_18 w19 =>
 B9 t17_18 w19⟩) w17⟩)⟩) w15⟩) w13⟩) w11⟩) (@hid _ ⟨
 R (.int .i64 0) w11⟩)⟩) w8⟩)⟩) w4⟩)⟩) w2⟩) w0
def a120 : Ann := (.seq .no (.seq (.seq .no (.cond (.seq .no .no) .no)) (.seq (.seq .no (.block (.loop [9] [(2, 3), (10, 17)] (.seq .no (.seq (.cond .no .no) (.seq (.block (.seq .no (.seq .no (.cond (.seq .no .no) .no)))) .no)))))) (.seq .no .no))))
theorem F120_eq (x0 : Value) (R : Value → World → Prop) (w0 : World) : F120 x0 R w0 = vc Tryz.prog (bodyOf Tryz.f120) a120 (retQ Tryz.prog Tryz.f120 R) (envOf 0 [x0]) w0 := by kernel_rfl
theorem F120_calls (x0 : Value) (R : Value → World → Prop) (w0 : World) (h : F120 x0 R w0) : CallK Tryz.prog 120 #[x0] R w0 :=
 calls_vc (c := bodyOf Tryz.f120) Tryz.func120 (by kernel_rfl) (by kernel_rfl) a120 (by kernel_rfl) (by kernel_rfl) [x0] (by rw [Tryz.ntmps120]; exact Nat.le_of_ble_eq_true rfl) w0 R ((F120_eq x0 R w0).mp h)

/-- canton/value.list, its body as a formula. -/
def F121 (x0 : Value) (R : Value → World → Prop) (w0 : World) : Prop :=
 BuiltinK Tryz.prog .len #[59] 3 #[false] #[x0] (@hid _ ⟨fun t5_1 w2 =>
 BinK Tryz.prog .gtr 3 t5_1 (.int .i64 16) (@hid _ ⟨fun t6_3 w4 =>
 BrK t6_3 (@hid _ ⟨
 R (.int .i64 4) w4⟩) (@hid _ ⟨
 LoopK1 (.int .i64 1) w4 (@hid _ ⟨fun _ x3_5 w6 B7 =>
 BuiltinK Tryz.prog .len #[59] 3 #[false] #[x0] (@hid _ ⟨fun t9_8 w9 =>
 BinK Tryz.prog .lss 3 x3_5 t9_8 (@hid _ ⟨fun t10_10 w11 =>
 BrK t10_10 (@hid _ ⟨
 DrawK (@hid _ ⟨fun S12 w13 =>
 BinT Tryz.prog S12 .sub 3 x3_5 (.int .i64 1) (@hid _ ⟨fun t15_14 =>
 TakeS Tryz.prog S12 (Instr.indexAt 59 x0 t15_14) (@hid _ ⟨fun t16_15 =>
 TakeS Tryz.prog S12 (Instr.loadAt 2 t16_15) (@hid _ ⟨fun t17_16 =>
 TakeS Tryz.prog S12 (Instr.indexAt 59 x0 x3_5) (@hid _ ⟨fun t20_17 =>
 TakeS Tryz.prog S12 (Instr.loadAt 2 t20_17) (@hid _ ⟨fun t21_18 =>
 BinT Tryz.prog S12 .geq 2 t17_16 t21_18 (@hid _ ⟨fun t22_19 =>
 BrK t22_19 (@hid _ ⟨
 R (.int .i64 2) w13⟩) (@hid _ ⟨
 BinK Tryz.prog .add 3 x3_5 (.int .i64 1) (@hid _ ⟨fun t12_20 w21 =>
 B7 t12_20 w21⟩) w13⟩)⟩)⟩)⟩)⟩)⟩)⟩)⟩) w11⟩) (@hid _ ⟨
 R (.int .i64 0) w11⟩)⟩) w9⟩) w6⟩)⟩)⟩) w2⟩) w0
def a121 : Ann := (.seq .no (.seq (.seq .no (.cond (.seq .no .no) .no)) (.seq (.seq .no (.block (.loop [3] [(2, 2), (7, 22)] (.seq (.seq .no (.cond .no .no)) (.seq (.block (.seq (.plan (.take 0 (.take 1 (.take 2 (.take 3 (.take 4 (.take 5 (.take 6 (.take 7 (.take 8 (.take 9 .done))))))))))) (.cond (.seq .no .no) .no))) .no))))) (.seq .no .no))))
theorem F121_eq (x0 : Value) (R : Value → World → Prop) (w0 : World) : F121 x0 R w0 = vc Tryz.prog (bodyOf Tryz.f121) a121 (retQ Tryz.prog Tryz.f121 R) (envOf 0 [x0]) w0 := by kernel_rfl
theorem F121_calls (x0 : Value) (R : Value → World → Prop) (w0 : World) (h : F121 x0 R w0) : CallK Tryz.prog 121 #[x0] R w0 :=
 calls_vc (c := bodyOf Tryz.f121) Tryz.func121 (by kernel_rfl) (by kernel_rfl) a121 (by kernel_rfl) (by kernel_rfl) [x0] (by rw [Tryz.ntmps121]; exact Nat.le_of_ble_eq_true rfl) w0 R ((F121_eq x0 R w0).mp h)

/-- canton/cantonref7.Parse, its body as a formula. -/
def F122 (x0 : Value) (R : Value → World → Prop) (w0 : World) : Prop :=
 CallV Tryz.prog (.func (.func 128) #[] #[]) #[x0] (@hid _ ⟨fun t9_1 w2 =>
 ExtractK Tryz.prog t9_1 0 (@hid _ ⟨fun t10_3 w4 =>
 ExtractK Tryz.prog t9_1 1 (@hid _ ⟨fun t11_5 w6 =>
 UnK Tryz.prog .not t11_5 (@hid _ ⟨fun t13_7 w8 =>
 BrK t13_7 (@hid _ ⟨
 R (.tuple #[(.slice none 0 0), (.int .i64 2)]) w8⟩) (@hid _ ⟨
 LoopK1 (.int .i64 0) w8 (@hid _ ⟨fun _ x6_9 w10 B11 =>
 BuiltinK Tryz.prog .len #[150] 3 #[false] #[t10_3] (@hid _ ⟨fun t16_12 w13 =>
 BinK Tryz.prog .lss 3 x6_9 t16_12 (@hid _ ⟨fun t17_14 w15 =>
 BrK t17_14 (@hid _ ⟨
 IndexAtK Tryz.prog 150 t10_3 x6_9 (@hid _ ⟨fun t22_16 w17 =>
 LoadK Tryz.prog 9 t22_16 (@hid _ ⟨fun t23_18 w19 =>
 CallV Tryz.prog (.func (.func 82) #[] #[]) #[t23_18] (@hid _ ⟨fun t24_20 w21 =>
 UnK Tryz.prog .not t24_20 (@hid _ ⟨fun t25_22 w23 =>
 BrK t25_22 (@hid _ ⟨
 R (.tuple #[(.slice none 0 0), (.int .i64 2)]) w23⟩) (@hid _ ⟨
 BinK Tryz.prog .add 3 x6_9 (.int .i64 1) (@hid _ ⟨fun t19_24 w25 =>
 B11 t19_24 w25⟩) w23⟩)⟩) w21⟩) w19⟩) w17⟩) w15⟩) (@hid _ ⟨
 BuiltinK Tryz.prog .len #[150] 3 #[false] #[t10_3] (@hid _ ⟨fun t27_26 w27 =>
 BinK Tryz.prog .gtr 3 t27_26 (.int .i64 4) (@hid _ ⟨fun t28_28 w29 =>
 BrK t28_28 (@hid _ ⟨
 R (.tuple #[(.slice none 0 0), (.int .i64 4)]) w29⟩) (@hid _ ⟨
 R (.tuple #[t10_3, (.int .i64 0)]) w29⟩)⟩) w27⟩) w15⟩)⟩) w13⟩) w10⟩)⟩)⟩) w6⟩) w4⟩) w2⟩) w0
def a122 : Ann := (.seq .no (.seq .no (.seq (.seq .no (.cond (.seq .no .no) .no)) (.seq (.seq .no (.block (.loop [6] [(2, 3), (14, 25)] (.seq (.seq .no (.cond .no .no)) (.seq (.block (.seq .no (.cond (.seq .no .no) .no))) .no))))) (.seq (.seq .no (.cond (.seq .no .no) .no)) (.seq .no .no))))))
theorem F122_eq (x0 : Value) (R : Value → World → Prop) (w0 : World) : F122 x0 R w0 = vc Tryz.prog (bodyOf Tryz.f122) a122 (retQ Tryz.prog Tryz.f122 R) (envOf 0 [x0]) w0 := by kernel_rfl
theorem F122_calls (x0 : Value) (R : Value → World → Prop) (w0 : World) (h : F122 x0 R w0) : CallK Tryz.prog 122 #[x0] R w0 :=
 calls_vc (c := bodyOf Tryz.f122) Tryz.func122 (by kernel_rfl) (by kernel_rfl) a122 (by kernel_rfl) (by kernel_rfl) [x0] (by rw [Tryz.ntmps122]; exact Nat.le_of_ble_eq_true rfl) w0 R ((F122_eq x0 R w0).mp h)

/-- cmp.Compare[int], its body as a formula. -/
def F123 (x0 x1 : Value) (R : Value → World → Prop) (w0 : World) : Prop :=
 CallV Tryz.prog (.func (.func 129) #[] #[]) #[x0] (@hid _ ⟨fun t8_1 w2 =>
 CallV Tryz.prog (.func (.func 129) #[] #[]) #[x1] (@hid _ ⟨fun t10_3 w4 =>
 BrK t8_1 (@hid _ ⟨
 BrK t10_3 (@hid _ ⟨
 R (.int .i64 0) w4⟩) (@hid _ ⟨
 R (.int .i64 (-1)) w4⟩)⟩) (@hid _ ⟨
 BrK t10_3 (@hid _ ⟨
 R (.int .i64 1) w4⟩) (@hid _ ⟨
 BinK Tryz.prog .lss 3 x0 x1 (@hid _ ⟨fun t16_5 w6 =>
 BrK t16_5 (@hid _ ⟨
 R (.int .i64 (-1)) w6⟩) (@hid _ ⟨
 BinK Tryz.prog .gtr 3 x0 x1 (@hid _ ⟨fun t19_7 w8 =>
 BrK t19_7 (@hid _ ⟨
 R (.int .i64 1) w8⟩) (@hid _ ⟨
 R (.int .i64 0) w8⟩)⟩) w6⟩)⟩) w4⟩)⟩)⟩) w2⟩) w0
def a123 : Ann := (.seq .no (.seq .no (.seq .no (.seq (.seq .no (.cond (.seq (.seq .no (.cond (.seq .no .no) .no)) (.seq .no .no)) .no)) (.seq (.seq .no (.cond (.seq .no .no) .no)) (.seq (.seq .no (.cond (.seq .no .no) .no)) (.seq (.seq .no (.cond (.seq .no .no) .no)) (.seq .no .no))))))))
theorem F123_eq (x0 x1 : Value) (R : Value → World → Prop) (w0 : World) : F123 x0 x1 R w0 = vc Tryz.prog (bodyOf Tryz.f123) a123 (retQ Tryz.prog Tryz.f123 R) (envOf 0 [x0, x1]) w0 := by kernel_rfl
theorem F123_calls (x0 x1 : Value) (R : Value → World → Prop) (w0 : World) (h : F123 x0 x1 R w0) : CallK Tryz.prog 123 #[x0, x1] R w0 :=
 calls_vc (c := bodyOf Tryz.f123) Tryz.func123 (by kernel_rfl) (by kernel_rfl) a123 (by kernel_rfl) (by kernel_rfl) [x0, x1] (by rw [Tryz.ntmps123]; exact Nat.le_of_ble_eq_true rfl) w0 R ((F123_eq x0 x1 R w0).mp h)

/-- slices.Compare[[]int64,int64], its body as a formula. -/
def F124 (x0 x1 : Value) (R : Value → World → Prop) (w0 : World) : Prop :=
 BuiltinK Tryz.prog .len #[59] 3 #[false] #[x0] (@hid _ ⟨fun t10_1 w2 =>
 LoopK1 (.int .i64 0) w2 (@hid _ ⟨fun _ x11_3 w4 B5 =>
 BinK Tryz.prog .lss 3 x11_3 t10_1 (@hid _ ⟨fun t12_6 w7 =>
 BrK t12_6 (@hid _ ⟨
 IndexAtK Tryz.prog 59 x0 x11_3 (@hid _ ⟨fun t14_8 w9 =>
 LoadK Tryz.prog 2 t14_8 (@hid _ ⟨fun t15_10 w11 =>
 BuiltinK Tryz.prog .len #[59] 3 #[false] #[x1] (@hid _ ⟨fun t18_12 w13 =>
 BinK Tryz.prog .geq 3 x11_3 t18_12 (@hid _ ⟨fun t19_14 w15 =>
 BrK t19_14 (@hid _ ⟨
 R (.int .i64 1) w15⟩) (@hid _ ⟨
 IndexAtK Tryz.prog 59 x1 x11_3 (@hid _ ⟨fun t22_16 w17 =>
 LoadK Tryz.prog 2 t22_16 (@hid _ ⟨fun t23_18 w19 =>
 CallV Tryz.prog (.func (.func 104) #[] #[]) #[t15_10, t23_18] (@hid _ ⟨fun t26_20 w21 =>
 BinK Tryz.prog .neq 3 t26_20 (.int .i64 0) (@hid _ ⟨fun t28_22 w23 =>
 BrK t28_22 (@hid _ ⟨
 R t26_20 w23⟩) (@hid _ ⟨
 BinK Tryz.prog .add 3 x11_3 (.int .i64 1) (@hid _ ⟨fun t30_24 w25 =>
 B5 t30_24 w25⟩) w23⟩)⟩) w21⟩) w19⟩) w17⟩) w15⟩)⟩) w13⟩) w11⟩) w9⟩) w7⟩) (@hid _ ⟨
 BuiltinK Tryz.prog .len #[59] 3 #[false] #[x0] (@hid _ ⟨fun t32_26 w27 =>
 BuiltinK Tryz.prog .len #[59] 3 #[false] #[x1] (@hid _ ⟨fun t34_28 w29 =>
 BinK Tryz.prog .lss 3 t32_26 t34_28 (@hid _ ⟨fun t35_30 w31 =>
 BrK t35_30 (@hid _ ⟨
 R (.int .i64 (-1)) w31⟩) (@hid _ ⟨
 R (.int .i64 0) w31⟩)⟩) w29⟩) w27⟩) w7⟩)⟩) w4⟩)⟩) w0
def a124 : Ann := (.seq .no (.seq (.seq .no (.block (.loop [11] [(4, 8), (12, 30)] (.seq .no (.seq (.cond .no .no) (.seq (.block (.seq .no (.seq (.seq .no (.cond (.seq .no .no) .no)) (.seq .no (.seq .no (.seq .no (.cond (.seq .no .no) .no))))))) .no)))))) (.seq (.seq .no (.cond (.seq .no .no) .no)) (.seq .no .no))))
theorem F124_eq (x0 x1 : Value) (R : Value → World → Prop) (w0 : World) : F124 x0 x1 R w0 = vc Tryz.prog (bodyOf Tryz.f124) a124 (retQ Tryz.prog Tryz.f124 R) (envOf 0 [x0, x1]) w0 := by kernel_rfl
theorem F124_calls (x0 x1 : Value) (R : Value → World → Prop) (w0 : World) (h : F124 x0 x1 R w0) : CallK Tryz.prog 124 #[x0, x1] R w0 :=
 calls_vc (c := bodyOf Tryz.f124) Tryz.func124 (by kernel_rfl) (by kernel_rfl) a124 (by kernel_rfl) (by kernel_rfl) [x0, x1] (by rw [Tryz.ntmps124]; exact Nat.le_of_ble_eq_true rfl) w0 R ((F124_eq x0 x1 R w0).mp h)

/-- internal/stringslite.CutPrefix, its body as a formula. -/
def F125 (x0 x1 : Value) (R : Value → World → Prop) (w0 : World) : Prop :=
 CallV Tryz.prog (.func (.func 130) #[] #[]) #[x0, x1] (@hid _ ⟨fun t8_1 w2 =>
 UnK Tryz.prog .not t8_1 (@hid _ ⟨fun t9_3 w4 =>
 BrK t9_3 (@hid _ ⟨
 R (.tuple #[x0, (.bool false)]) w4⟩) (@hid _ ⟨
 BuiltinK Tryz.prog .len #[9] 3 #[false] #[x1] (@hid _ ⟨fun t13_5 w6 =>
 SliceK Tryz.prog 9 x0 (some t13_5) none none (@hid _ ⟨fun t14_7 w8 =>
 R (.tuple #[t14_7, (.bool true)]) w8⟩) w6⟩) w4⟩)⟩) w2⟩) w0
def a125 : Ann := (.seq .no (.seq (.seq .no (.cond (.seq .no .no) .no)) (.seq .no .no)))
theorem F125_eq (x0 x1 : Value) (R : Value → World → Prop) (w0 : World) : F125 x0 x1 R w0 = vc Tryz.prog (bodyOf Tryz.f125) a125 (retQ Tryz.prog Tryz.f125 R) (envOf 0 [x0, x1]) w0 := by kernel_rfl
theorem F125_calls (x0 x1 : Value) (R : Value → World → Prop) (w0 : World) (h : F125 x0 x1 R w0) : CallK Tryz.prog 125 #[x0, x1] R w0 :=
 calls_vc (c := bodyOf Tryz.f125) Tryz.func125 (by kernel_rfl) (by kernel_rfl) a125 (by kernel_rfl) (by kernel_rfl) [x0, x1] (by rw [Tryz.ntmps125]; exact Nat.le_of_ble_eq_true rfl) w0 R ((F125_eq x0 x1 R w0).mp h)

/-- canton/value.printable, its body as a formula. -/
def F127 (x0 : Value) (R : Value → World → Prop) (w0 : World) : Prop :=
 BinK Tryz.prog .geq 5 x0 (.int .u8 32) (@hid _ ⟨fun t4_1 w2 =>
 GuardK t4_1 true (fun k w => k x0 w) (@hid _ ⟨fun t6_3 w4 =>
 GuardK t4_1 true (fun k w => BinK Tryz.prog .leq 5 t6_3 (.int .u8 126) k w) (@hid _ ⟨fun t7_5 w6 =>
 PickK Tryz.prog t4_1 t7_5 (.bool false) (@hid _ ⟨fun t8_7 w8 =>
 GuardK t8_7 true (fun k w => k x0 w) (@hid _ ⟨fun t10_9 w10 =>
 GuardK t8_7 true (fun k w => BinK Tryz.prog .neq 5 t10_9 (.int .u8 34) k w) (@hid _ ⟨fun t11_11 w12 =>
 PickK Tryz.prog t8_7 t11_11 (.bool false) (@hid _ ⟨fun t12_13 w14 =>
 R t12_13 w14⟩) w12⟩) w10⟩) w8⟩) w6⟩) w4⟩) w2⟩) w0
def a127 : Ann := (.seq .no (.seq .no .no))
theorem F127_eq (x0 : Value) (R : Value → World → Prop) (w0 : World) : F127 x0 R w0 = vc Tryz.prog (bodyOf Tryz.f127) a127 (retQ Tryz.prog Tryz.f127 R) (envOf 0 [x0]) w0 := by kernel_rfl
theorem F127_calls (x0 : Value) (R : Value → World → Prop) (w0 : World) (h : F127 x0 R w0) : CallK Tryz.prog 127 #[x0] R w0 :=
 calls_vc (c := bodyOf Tryz.f127) Tryz.func127 (by kernel_rfl) (by kernel_rfl) a127 (by kernel_rfl) (by kernel_rfl) [x0] (by rw [Tryz.ntmps127]; exact Nat.le_of_ble_eq_true rfl) w0 R ((F127_eq x0 R w0).mp h)

/-- canton/cantonref7.cut, its body as a formula. -/
def F128 (x0 : Value) (R : Value → World → Prop) (w0 : World) : Prop :=
 BinK Tryz.prog .eql 9 x0 (.string { data := #[] }) (@hid _ ⟨fun t7_1 w2 =>
 GuardK t7_1 false (fun k w => k x0 w) (@hid _ ⟨fun t9_3 w4 =>
 GuardK t7_1 false (fun k w => ValK Tryz.prog (Instr.index 9 t9_3 (.int .i64 0)) k w) (@hid _ ⟨fun t10_5 w6 =>
 GuardK t7_1 false (fun k w => BinK Tryz.prog .neq 5 t10_5 (.int .u8 47) k w) (@hid _ ⟨fun t11_7 w8 =>
 PickK Tryz.prog t7_1 (.bool true) t11_7 (@hid _ ⟨fun t12_9 w10 =>
 BrK t12_9 (@hid _ ⟨
 R (.tuple #[(.slice none 0 0), (.bool false)]) w10⟩) (@hid _ ⟨
 BinK Tryz.prog .eql 9 x0 (.string { data := #[47] }) (@hid _ ⟨fun t14_11 w12 =>
 BrK t14_11 (@hid _ ⟨
 R (.tuple #[(.slice none 0 0), (.bool true)]) w12⟩) (@hid _ ⟨
 BuildSliceK Tryz.prog 150 1 #[(0, (.string { data := #[] }))] (@hid _ ⟨fun t15_13 w14 =>
 LoopK2 t15_13 (.int .i64 1) w14 (@hid _ ⟨fun _ x4_15 x5_16 w17 B18 =>
 BuiltinK Tryz.prog .len #[9] 3 #[false] #[x0] (@hid _ ⟨fun t18_19 w20 =>
 BinK Tryz.prog .lss 3 x5_16 t18_19 (@hid _ ⟨fun t19_21 w22 =>
 BrK t19_21 (@hid _ ⟨
 ValK Tryz.prog (Instr.index 9 x0 x5_16) (@hid _ ⟨fun t24_23 w24 =>
 BinK Tryz.prog .eql 5 t24_23 (.int .u8 47) (@hid _ ⟨fun t25_25 w26 =>
 BrK t25_25 (@hid _ ⟨
 BuildSliceK Tryz.prog 150 1 #[(0, (.string { data := #[] }))] (@hid _ ⟨fun t27_27 w28 =>
 BuiltinK Tryz.prog .append #[150, 150] 150 #[false, false] #[x4_15, t27_27] (@hid _ ⟨fun t28_29 w30 =>
 BinK Tryz.prog .add 3 x5_16 (.int .i64 1) (@hid _ ⟨fun t21_31 w32 =>
 B18 t28_29 t21_31 w32⟩) w30⟩) w28⟩) w26⟩) (@hid _ ⟨
 DrawK (@hid _ ⟨fun S33 w34 =>
 TakeO Tryz.prog S33 (builtin .len #[150] 3 #[false] #[x4_15]) (@hid _ ⟨fun t31_35 =>
 BinT Tryz.prog S33 .sub 3 t31_35 (.int .i64 1) (@hid _ ⟨fun t32_36 =>
 TakeO Tryz.prog S33 (builtin .len #[150] 3 #[false] #[x4_15]) (@hid _ ⟨fun t35_37 =>
 BinT Tryz.prog S33 .sub 3 t35_37 (.int .i64 1) (@hid _ ⟨fun t36_38 =>
 TakeS Tryz.prog S33 (Instr.indexAt 150 x4_15 t36_38) (@hid _ ⟨fun t37_39 =>
 BinT Tryz.prog S33 .add 3 x5_16 (.int .i64 1) (@hid _ ⟨fun t42_40 =>
 TakeS Tryz.prog S33 (Instr.sliceAt 9 x0 (some x5_16) (some t42_40) none) (@hid _ ⟨fun t43_41 =>
 (LoadK Tryz.prog 9 t37_39 (@hid _ ⟨fun t38_42 w43 =>
 S33 w43 ∧
 BinT Tryz.prog S33 .add 9 t38_42 t43_41 (@hid _ ⟨fun t44_44 =>
 TakeS Tryz.prog S33 (Instr.indexAt 150 x4_15 t32_36) (@hid _ ⟨fun t45_45 =>
 (StoreK Tryz.prog 9 t45_45 t44_44 (@hid _ ⟨fun tu_46 w47 =>
 S33 w47 ∧
 BinK Tryz.prog .add 3 x5_16 (.int .i64 1) (@hid _ ⟨fun t21_48 w49 =>
 B18 x4_15 t21_48 w49⟩) w47⟩) w43) ∧
 True⟩)⟩)⟩) w34) ∧
 True⟩)⟩)⟩)⟩)⟩)⟩)⟩)⟩) w26⟩)⟩) w24⟩) w22⟩) (@hid _ ⟨
 R (.tuple #[x4_15, (.bool true)]) w22⟩)⟩) w20⟩) w17⟩)⟩) w12⟩)⟩) w10⟩)⟩) w8⟩) w6⟩) w4⟩) w2⟩) w0
def a128 : Ann := (.seq .no (.seq (.seq .no (.cond (.seq .no .no) .no)) (.seq (.seq .no (.cond (.seq .no .no) .no)) (.seq .no (.seq (.seq .no (.block (.loop [4, 5] [(16, 45)] (.seq (.seq .no (.cond .no .no)) (.seq (.block (.seq (.seq .no (.cond (.seq .no .no) .no)) (.plan (.take 0 (.take 1 (.take 2 (.take 3 (.take 4 (.take 5 (.take 6 (.take 7 (.take 8 (.take 10 (.take 11 (.take 12 (.take 13 (.take 14 (.alt 9 (.take 15 (.take 16 (.alt 17 .done .nil))) .nil)))))))))))))))))) .no))))) (.seq .no .no))))))
theorem F128_eq (x0 : Value) (R : Value → World → Prop) (w0 : World) : F128 x0 R w0 = vc Tryz.prog (bodyOf Tryz.f128) a128 (retQ Tryz.prog Tryz.f128 R) (envOf 0 [x0]) w0 := by kernel_rfl
theorem F128_calls (x0 : Value) (R : Value → World → Prop) (w0 : World) (h : F128 x0 R w0) : CallK Tryz.prog 128 #[x0] R w0 :=
 calls_vc (c := bodyOf Tryz.f128) Tryz.func128 (by kernel_rfl) (by kernel_rfl) a128 (by kernel_rfl) (by kernel_rfl) [x0] (by rw [Tryz.ntmps128]; exact Nat.le_of_ble_eq_true rfl) w0 R ((F128_eq x0 R w0).mp h)

/-- cmp.isNaN[int], its body as a formula. -/
def F129 (x0 : Value) (R : Value → World → Prop) (w0 : World) : Prop :=
 BinK Tryz.prog .neq 3 x0 x0 (@hid _ ⟨fun t5_1 w2 =>
 R t5_1 w2⟩) w0
def a129 : Ann := (.seq .no (.seq .no .no))
theorem F129_eq (x0 : Value) (R : Value → World → Prop) (w0 : World) : F129 x0 R w0 = vc Tryz.prog (bodyOf Tryz.f129) a129 (retQ Tryz.prog Tryz.f129 R) (envOf 0 [x0]) w0 := by kernel_rfl
theorem F129_calls (x0 : Value) (R : Value → World → Prop) (w0 : World) (h : F129 x0 R w0) : CallK Tryz.prog 129 #[x0] R w0 :=
 calls_vc (c := bodyOf Tryz.f129) Tryz.func129 (by kernel_rfl) (by kernel_rfl) a129 (by kernel_rfl) (by kernel_rfl) [x0] (by rw [Tryz.ntmps129]; exact Nat.le_of_ble_eq_true rfl) w0 R ((F129_eq x0 R w0).mp h)

/-- internal/stringslite.HasPrefix, its body as a formula. -/
def F130 (x0 x1 : Value) (R : Value → World → Prop) (w0 : World) : Prop :=
 BuiltinK Tryz.prog .len #[9] 3 #[false] #[x0] (@hid _ ⟨fun t6_1 w2 =>
 BuiltinK Tryz.prog .len #[9] 3 #[false] #[x1] (@hid _ ⟨fun t8_3 w4 =>
 BinK Tryz.prog .geq 3 t6_1 t8_3 (@hid _ ⟨fun t9_5 w6 =>
 GuardK t9_5 true (fun k w => k x0 w) (@hid _ ⟨fun t11_7 w8 =>
 GuardK t9_5 true (fun k w => k x1 w) (@hid _ ⟨fun t12_9 w10 =>
 GuardK t9_5 true (fun k w => BuiltinK Tryz.prog .len #[9] 3 #[false] #[t12_9] k w) (@hid _ ⟨fun t13_11 w12 =>
 GuardK t9_5 true (fun k w => SliceK Tryz.prog 9 t11_7 none (some t13_11) none k w) (@hid _ ⟨fun t14_13 w14 =>
 GuardK t9_5 true (fun k w => k x1 w) (@hid _ ⟨fun t15_15 w16 =>
 GuardK t9_5 true (fun k w => BinK Tryz.prog .eql 9 t14_13 t15_15 k w) (@hid _ ⟨fun t16_17 w18 =>
 PickK Tryz.prog t9_5 t16_17 (.bool false) (@hid _ ⟨fun t17_19 w20 =>
 R t17_19 w20⟩) w18⟩) w16⟩) w14⟩) w12⟩) w10⟩) w8⟩) w6⟩) w4⟩) w2⟩) w0
def a130 : Ann := (.seq .no (.seq .no .no))
theorem F130_eq (x0 x1 : Value) (R : Value → World → Prop) (w0 : World) : F130 x0 x1 R w0 = vc Tryz.prog (bodyOf Tryz.f130) a130 (retQ Tryz.prog Tryz.f130 R) (envOf 0 [x0, x1]) w0 := by kernel_rfl
theorem F130_calls (x0 x1 : Value) (R : Value → World → Prop) (w0 : World) (h : F130 x0 x1 R w0) : CallK Tryz.prog 130 #[x0, x1] R w0 :=
 calls_vc (c := bodyOf Tryz.f130) Tryz.func130 (by kernel_rfl) (by kernel_rfl) a130 (by kernel_rfl) (by kernel_rfl) [x0, x1] (by rw [Tryz.ntmps130]; exact Nat.le_of_ble_eq_true rfl) w0 R ((F130_eq x0 x1 R w0).mp h)

end Go.Proofs.YtpjeohellehgjaaGreatDoor