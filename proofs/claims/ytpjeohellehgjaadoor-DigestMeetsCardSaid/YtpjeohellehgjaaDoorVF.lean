import Derived.Test.YtpjeohellehgjaaDoorVI
set_option linter.unusedVariables false
set_option linter.unusedSimpArgs false
set_option maxRecDepth 100000
namespace Go.Proofs.YtpjeohellehgjaaDoor
open Go.RowKit Go.Cn
/-- canton/cantonlaw14.DigestAny, its body as a formula. -/
def F3 (x0 x1 x2 : Value) (R : Value → World → Prop) (w0 : World) : Prop :=
 CallV Tryd.prog (.func (.func 9) #[] #[]) #[] (@hid _ ⟨fun t13_1 w2 =>
 UnK Tryd.prog .not t13_1 (@hid _ ⟨fun t14_3 w4 =>
 BrK t14_3 (@hid _ ⟨
 R (.bool false) w4⟩) (@hid _ ⟨
 CallV Tryd.prog (.func (.func 10) #[] #[]) #[x1] (@hid _ ⟨fun t16_5 w6 =>
 UnK Tryd.prog .not t16_5 (@hid _ ⟨fun t17_7 w8 =>
 GuardK t17_7 false (fun k w => k x2 w) (@hid _ ⟨fun t19_9 w10 =>
 GuardK t17_7 false (fun k w => BuiltinK Tryd.prog .len #[24] 3 #[false] #[t19_9] k w) (@hid _ ⟨fun t20_11 w12 =>
 GuardK t17_7 false (fun k w => BinK Tryd.prog .gtr 3 t20_11 (.int .i64 40) k w) (@hid _ ⟨fun t21_13 w14 =>
 PickK Tryd.prog t17_7 (.bool true) t21_13 (@hid _ ⟨fun t22_15 w16 =>
 BrK t22_15 (@hid _ ⟨
 R (.bool true) w16⟩) (@hid _ ⟨
 CallV Tryd.prog (.func (.func 12) #[] #[]) #[x1] (@hid _ ⟨fun t24_17 w18 =>
 CallV Tryd.prog (.func (.func 11) #[] #[]) #[t24_17] (@hid _ ⟨fun t25_19 w20 =>
 CallV Tryd.prog (.func (.func 13) #[] #[]) #[x1] (@hid _ ⟨fun t27_21 w22 =>
 BinK Tryd.prog .neq 3 t27_21 t25_19 (@hid _ ⟨fun t29_23 w24 =>
 BrK t29_23 (@hid _ ⟨
 R (.bool false) w24⟩) (@hid _ ⟨
 BinK Tryd.prog .neq 3 t25_19 (.int .i64 0) (@hid _ ⟨fun t31_25 w26 =>
 GuardK t31_25 false (fun k w => k x0 w) (@hid _ ⟨fun t33_27 w28 =>
 GuardK t31_25 false (fun k w => CallV Tryd.prog (.func (.func 14) #[] #[]) #[t33_27] k w) (@hid _ ⟨fun t34_29 w30 =>
 GuardK t31_25 false (fun k w => UnK Tryd.prog .not t34_29 k w) (@hid _ ⟨fun t35_31 w32 =>
 PickK Tryd.prog t31_25 (.bool true) t35_31 (@hid _ ⟨fun t36_33 w34 =>
 BrK t36_33 (@hid _ ⟨
 R (.bool true) w34⟩) (@hid _ ⟨
 LoopK1 (.int .i64 0) w34 (@hid _ ⟨fun _ x8_35 w36 B37 =>
 BuiltinK Tryd.prog .len #[24] 3 #[false] #[x2] (@hid _ ⟨fun t39_38 w39 =>
 BinK Tryd.prog .lss 3 x8_35 t39_38 (@hid _ ⟨fun t40_40 w41 =>
 BrK t40_40 (@hid _ ⟨
 DrawK (@hid _ ⟨fun S42 w43 =>
 TakeS Tryd.prog S42 (Instr.indexAt 24 x2 x8_35) (@hid _ ⟨fun t45_44 =>
 TakeS Tryd.prog S42 (Instr.loadAt 9 t45_44) (@hid _ ⟨fun t46_45 =>
 TakeO Tryd.prog S42 (builtin .len #[9] 3 #[false] #[t46_45]) (@hid _ ⟨fun t47_46 =>
 BinT Tryd.prog S42 .gtr 3 t47_46 (.int .i64 100) (@hid _ ⟨fun t48_47 =>
 TakeG t48_47 false (fun k => k x8_35) (@hid _ ⟨fun t50_48 =>
 TakeG t48_47 false (fun k => BinT Tryd.prog S42 .gtr 3 t50_48 (.int .i64 0) k) (@hid _ ⟨fun t51_49 =>
 TakeG t48_47 false (fun k => k t51_49) (@hid _ ⟨fun t52_50 =>
 TakeG t52_50 true (fun k => k x2) (@hid _ ⟨fun t53_51 =>
 TakeG t52_50 true (fun k => k x8_35) (@hid _ ⟨fun t54_52 =>
 TakeG t52_50 true (fun k => BinT Tryd.prog S42 .sub 3 t54_52 (.int .i64 1) k) (@hid _ ⟨fun t55_53 =>
 TakeG t52_50 true (fun k => TakeS Tryd.prog S42 (Instr.indexAt 24 t53_51 t55_53) k) (@hid _ ⟨fun t56_54 =>
 TakeG t52_50 true (fun k => TakeS Tryd.prog S42 (Instr.loadAt 9 t56_54) k) (@hid _ ⟨fun t57_55 =>
 TakeG t52_50 true (fun k => k x2) (@hid _ ⟨fun t58_56 =>
 TakeG t52_50 true (fun k => k x8_35) (@hid _ ⟨fun t59_57 =>
 TakeG t52_50 true (fun k => TakeS Tryd.prog S42 (Instr.indexAt 24 t58_56 t59_57) k) (@hid _ ⟨fun t60_58 =>
 TakeG t52_50 true (fun k => TakeS Tryd.prog S42 (Instr.loadAt 9 t60_58) k) (@hid _ ⟨fun t61_59 =>
 TakeG t52_50 true (fun k => BinT Tryd.prog S42 .geq 9 t57_55 t61_59 k) (@hid _ ⟨fun t62_60 =>
 TakeG t48_47 false (fun k => PickT t52_50 t62_60 (.bool false) k) (@hid _ ⟨fun t63_61 =>
 PickT t48_47 (.bool true) t63_61 (@hid _ ⟨fun t64_62 =>
 BrK t64_62 (@hid _ ⟨
 R (.bool true) w43⟩) (@hid _ ⟨
 BinK Tryd.prog .add 3 x8_35 (.int .i64 1) (@hid _ ⟨fun t42_63 w64 =>
 B37 t42_63 w64⟩) w43⟩)⟩)⟩)⟩)⟩)⟩)⟩)⟩)⟩)⟩)⟩)⟩)⟩)⟩)⟩)⟩)⟩)⟩)⟩)⟩)⟩) w41⟩) (@hid _ ⟨
 CallV Tryd.prog (.func (.func 15) #[] #[]) #[x0] (@hid _ ⟨fun t66_65 w66 =>
 CallV Tryd.prog (.func (.func 16) #[] #[]) #[x0] (@hid _ ⟨fun t68_67 w68 =>
 CallV Tryd.prog (.func (.func 12) #[] #[]) #[t68_67] (@hid _ ⟨fun t69_69 w70 =>
 CallV Tryd.prog (.func (.func 17) #[] #[]) #[t66_65] (@hid _ ⟨fun t71_71 w72 =>
 BuiltinK Tryd.prog .len #[28] 3 #[false] #[t69_69] (@hid _ ⟨fun t73_73 w74 =>
 BuiltinK Tryd.prog .len #[28] 3 #[false] #[t71_71] (@hid _ ⟨fun t75_75 w76 =>
 BinK Tryd.prog .neq 3 t73_73 t75_75 (@hid _ ⟨fun t76_77 w78 =>
 BrK t76_77 (@hid _ ⟨
 R (.bool false) w78⟩) (@hid _ ⟨
 LoopK1 (.int .i64 0) w78 (@hid _ ⟨fun _ x12_79 w80 B81 =>
 BuiltinK Tryd.prog .len #[28] 3 #[false] #[t69_69] (@hid _ ⟨fun t79_82 w83 =>
 BinK Tryd.prog .lss 3 x12_79 t79_82 (@hid _ ⟨fun t80_84 w85 =>
 BrK t80_84 (@hid _ ⟨
 DrawK (@hid _ ⟨fun S86 w87 =>
 TakeS Tryd.prog S86 (Instr.indexAt 28 t69_69 x12_79) (@hid _ ⟨fun t85_88 =>
 TakeS Tryd.prog S86 (Instr.loadAt 40 t85_88) (@hid _ ⟨fun t86_89 =>
 TakeS Tryd.prog S86 (Instr.indexAt 28 t71_71 x12_79) (@hid _ ⟨fun t89_90 =>
 TakeS Tryd.prog S86 (Instr.loadAt 40 t89_90) (@hid _ ⟨fun t90_91 =>
 BinT Tryd.prog S86 .neq 40 t86_89 t90_91 (@hid _ ⟨fun t91_92 =>
 BrK t91_92 (@hid _ ⟨
 R (.bool false) w87⟩) (@hid _ ⟨
 BinK Tryd.prog .add 3 x12_79 (.int .i64 1) (@hid _ ⟨fun t82_93 w94 =>
 B81 t82_93 w94⟩) w87⟩)⟩)⟩)⟩)⟩)⟩)⟩) w85⟩) (@hid _ ⟨
 CallV Tryd.prog (.func (.func 19) #[] #[]) #[x0, x1] (@hid _ ⟨fun t94_95 w96 =>
 CallV Tryd.prog (.func (.func 12) #[] #[]) #[x1] (@hid _ ⟨fun t97_97 w98 =>
 CallV Tryd.prog (.func (.func 20) #[] #[]) #[t66_65, t97_97] (@hid _ ⟨fun t98_99 w100 =>
 CallV Tryd.prog (.func (.func 18) #[] #[]) #[t94_95, t98_99] (@hid _ ⟨fun t99_101 w102 =>
 GuardK t99_101 true (fun k w => k x0 w) (@hid _ ⟨fun t101_103 w104 =>
 GuardK t99_101 true (fun k w => k x1 w) (@hid _ ⟨fun t102_105 w106 =>
 GuardK t99_101 true (fun k w => CallV Tryd.prog (.func (.func 22) #[] #[]) #[t101_103, t102_105] k w) (@hid _ ⟨fun t103_107 w108 =>
 GuardK t99_101 true (fun k w => k t66_65 w) (@hid _ ⟨fun t104_109 w110 =>
 GuardK t99_101 true (fun k w => k x1 w) (@hid _ ⟨fun t105_111 w112 =>
 GuardK t99_101 true (fun k w => CallV Tryd.prog (.func (.func 12) #[] #[]) #[t105_111] k w) (@hid _ ⟨fun t106_113 w114 =>
 GuardK t99_101 true (fun k w => CallV Tryd.prog (.func (.func 23) #[] #[]) #[t104_109, t106_113] k w) (@hid _ ⟨fun t107_115 w116 =>
 GuardK t99_101 true (fun k w => CallV Tryd.prog (.func (.func 21) #[] #[]) #[t103_107, t107_115] k w) (@hid _ ⟨fun t108_117 w118 =>
 PickK Tryd.prog t99_101 t108_117 (.bool false) (@hid _ ⟨fun t109_119 w120 =>
 GuardK t109_119 true (fun k w => k x0 w) (@hid _ ⟨fun t111_121 w122 =>
 GuardK t109_119 true (fun k w => k x2 w) (@hid _ ⟨fun t112_123 w124 =>
 GuardK t109_119 true (fun k w => CallV Tryd.prog (.func (.func 24) #[] #[]) #[t111_121, t112_123] k w) (@hid _ ⟨fun t113_125 w126 =>
 GuardK t109_119 true (fun k w => k t66_65 w) (@hid _ ⟨fun t114_127 w128 =>
 GuardK t109_119 true (fun k w => k x2 w) (@hid _ ⟨fun t115_129 w130 =>
 GuardK t109_119 true (fun k w => CallV Tryd.prog (.func (.func 25) #[] #[]) #[t114_127, t115_129] k w) (@hid _ ⟨fun t116_131 w132 =>
 GuardK t109_119 true (fun k w => CallV Tryd.prog (.func (.func 18) #[] #[]) #[t113_125, t116_131] k w) (@hid _ ⟨fun t117_133 w134 =>
 PickK Tryd.prog t109_119 t117_133 (.bool false) (@hid _ ⟨fun t118_135 w136 =>
 R t118_135 w136⟩) w134⟩) w132⟩) w130⟩) w128⟩) w126⟩) w124⟩) w122⟩) w120⟩) w118⟩) w116⟩) w114⟩) w112⟩) w110⟩) w108⟩) w106⟩) w104⟩) w102⟩) w100⟩) w98⟩) w96⟩) w85⟩)⟩) w83⟩) w80⟩)⟩)⟩) w76⟩) w74⟩) w72⟩) w70⟩) w68⟩) w66⟩) w41⟩)⟩) w39⟩) w36⟩)⟩)⟩) w32⟩) w30⟩) w28⟩) w26⟩) w24⟩)⟩) w22⟩) w20⟩) w18⟩) w16⟩)⟩) w14⟩) w12⟩) w10⟩) w8⟩) w6⟩) w4⟩)⟩) w2⟩) w0
def a3 : Ann := (.seq .no (.seq (.seq .no (.cond (.seq .no .no) .no)) (.seq (.seq .no (.cond (.seq .no .no) .no)) (.seq .no (.seq (.seq .no (.cond (.seq .no .no) .no)) (.seq (.seq .no (.cond (.seq .no .no) .no)) (.seq (.seq .no (.block (.loop [8] [(6, 6), (37, 64)] (.seq (.seq .no (.cond .no .no)) (.seq (.block (.seq (.plan (.take 0 (.take 1 (.take 2 (.take 3 (.take 4 (.take 5 (.take 6 (.take 7 (.take 8 (.take 9 (.take 10 (.take 11 (.take 12 (.take 13 (.take 14 (.take 15 (.take 16 (.take 17 (.take 18 (.take 19 (.take 20 (.take 21 .done))))))))))))))))))))))) (.cond (.seq .no .no) .no))) .no))))) (.seq .no (.seq .no (.seq .no (.seq (.seq .no (.cond (.seq .no .no) .no)) (.seq (.seq .no (.block (.loop [12] [(6, 6), (77, 91)] (.seq (.seq .no (.cond .no .no)) (.seq (.block (.seq (.plan (.take 0 (.take 1 (.take 2 (.take 3 (.take 4 (.take 5 (.take 6 (.take 7 (.take 8 .done)))))))))) (.cond (.seq .no .no) .no))) .no))))) (.seq .no .no)))))))))))))
theorem F3_eq (x0 x1 x2 : Value) (R : Value → World → Prop) (w0 : World) : F3 x0 x1 x2 R w0 = vc Tryd.prog (bodyOf Tryd.f3) a3 (retQ Tryd.prog Tryd.f3 R) (envOf 0 [x0, x1, x2]) w0 := by kernel_rfl
theorem F3_calls (x0 x1 x2 : Value) (R : Value → World → Prop) (w0 : World) (h : F3 x0 x1 x2 R w0) : CallK Tryd.prog 3 #[x0, x1, x2] R w0 :=
 calls_vc (c := bodyOf Tryd.f3) Tryd.func3 (by kernel_rfl) (by kernel_rfl) a3 (by kernel_rfl) (by kernel_rfl) [x0, x1, x2] (by rw [Tryd.ntmps3]; exact Nat.le_of_ble_eq_true rfl) w0 R ((F3_eq x0 x1 x2 R w0).mp h)

/-- canton/cantonlaw14.DigestSelf, its body as a formula. -/
def F4 (x0 x1 : Value) (R : Value → World → Prop) (w0 : World) : Prop :=
 CallV Tryd.prog (.func (.func 9) #[] #[]) #[] (@hid _ ⟨fun t10_1 w2 =>
 UnK Tryd.prog .not t10_1 (@hid _ ⟨fun t11_3 w4 =>
 BrK t11_3 (@hid _ ⟨
 R (.bool false) w4⟩) (@hid _ ⟨
 CallV Tryd.prog (.func (.func 14) #[] #[]) #[x0] (@hid _ ⟨fun t13_5 w6 =>
 UnK Tryd.prog .not t13_5 (@hid _ ⟨fun t14_7 w8 =>
 BrK t14_7 (@hid _ ⟨
 R (.bool true) w8⟩) (@hid _ ⟨
 CallV Tryd.prog (.func (.func 16) #[] #[]) #[x0] (@hid _ ⟨fun t16_9 w10 =>
 LoopK2 (.slice none 0 0) (.int .i64 0) w10 (@hid _ ⟨fun _ x6_11 x7_12 w13 B14 =>
 BuiltinK Tryd.prog .len #[22] 3 #[false] #[x0] (@hid _ ⟨fun t19_15 w16 =>
 BinK Tryd.prog .lss 3 x7_12 t19_15 (@hid _ ⟨fun t20_17 w18 =>
 BrK t20_17 (@hid _ ⟨
 BinK Tryd.prog .rem 3 x7_12 (.int .i64 16) (@hid _ ⟨fun t25_19 w20 =>
 ConvK Tryd.prog 3 51 t25_19 (@hid _ ⟨fun t26_21 w22 =>
 BinK Tryd.prog .shr 50 x1 t26_21 (@hid _ ⟨fun t27_23 w24 =>
 BinK Tryd.prog .and 50 t27_23 (.int .u16 1) (@hid _ ⟨fun t28_25 w26 =>
 BinK Tryd.prog .eql 50 t28_25 (.int .u16 1) (@hid _ ⟨fun t29_27 w28 =>
 BrK t29_27 (@hid _ ⟨
 IndexAtK Tryd.prog 22 x0 x7_12 (@hid _ ⟨fun t33_29 w30 =>
 FieldAtK Tryd.prog 55 t33_29 0 (@hid _ ⟨fun t34_31 w32 =>
 LoadK Tryd.prog 9 t34_31 (@hid _ ⟨fun t35_33 w34 =>
 BuildSliceK Tryd.prog 24 1 #[(0, t35_33)] (@hid _ ⟨fun t36_35 w36 =>
 BuiltinK Tryd.prog .append #[24, 24] 24 #[false, false] #[x6_11, t36_35] (@hid _ ⟨fun t37_37 w38 =>
 BinK Tryd.prog .add 3 x7_12 (.int .i64 1) (@hid _ ⟨fun t22_39 w40 =>
 B14 t37_37 t22_39 w40⟩) w38⟩) w36⟩) w34⟩) w32⟩) w30⟩) w28⟩) (@hid _ ⟨
 BinK Tryd.prog .add 3 x7_12 (.int .i64 1) (@hid _ ⟨fun t22_41 w42 =>
 B14 x6_11 t22_41 w42⟩) w28⟩)⟩) w26⟩) w24⟩) w22⟩) w20⟩) w18⟩) (@hid _ ⟨
 CallV Tryd.prog (.func (.func 24) #[] #[]) #[x0, x6_11] (@hid _ ⟨fun t40_43 w44 =>
 BuiltinK Tryd.prog .len #[22] 3 #[false] #[t40_43] (@hid _ ⟨fun t42_45 w46 =>
 BuiltinK Tryd.prog .len #[24] 3 #[false] #[x6_11] (@hid _ ⟨fun t44_47 w48 =>
 BinK Tryd.prog .neq 3 t42_45 t44_47 (@hid _ ⟨fun t45_49 w50 =>
 BrK t45_49 (@hid _ ⟨
 R (.bool false) w50⟩) (@hid _ ⟨
 LoopK1 (.int .i64 0) w50 (@hid _ ⟨fun _ x9_51 w52 B53 =>
 BuiltinK Tryd.prog .len #[22] 3 #[false] #[t40_43] (@hid _ ⟨fun t48_54 w55 =>
 BinK Tryd.prog .lss 3 x9_51 t48_54 (@hid _ ⟨fun t49_56 w57 =>
 BrK t49_56 (@hid _ ⟨
 DrawK (@hid _ ⟨fun S58 w59 =>
 TakeS Tryd.prog S58 (Instr.indexAt 22 t40_43 x9_51) (@hid _ ⟨fun t54_60 =>
 TakeS Tryd.prog S58 (Instr.fieldAt 55 t54_60 0) (@hid _ ⟨fun t55_61 =>
 TakeS Tryd.prog S58 (Instr.loadAt 9 t55_61) (@hid _ ⟨fun t56_62 =>
 TakeS Tryd.prog S58 (Instr.indexAt 24 x6_11 x9_51) (@hid _ ⟨fun t59_63 =>
 TakeS Tryd.prog S58 (Instr.loadAt 9 t59_63) (@hid _ ⟨fun t60_64 =>
 BinT Tryd.prog S58 .neq 9 t56_62 t60_64 (@hid _ ⟨fun t61_65 =>
 BrK t61_65 (@hid _ ⟨
 R (.bool false) w59⟩) (@hid _ ⟨
 BinK Tryd.prog .add 3 x9_51 (.int .i64 1) (@hid _ ⟨fun t51_66 w67 =>
 B53 t51_66 w67⟩) w59⟩)⟩)⟩)⟩)⟩)⟩)⟩)⟩) w57⟩) (@hid _ ⟨
 CallV Tryd.prog (.func (.func 19) #[] #[]) #[x0, t16_9] (@hid _ ⟨fun t64_68 w69 =>
 BuiltinK Tryd.prog .len #[22] 3 #[false] #[t64_68] (@hid _ ⟨fun t65_70 w71 =>
 BinK Tryd.prog .eql 3 t65_70 (.int .i64 0) (@hid _ ⟨fun t66_72 w73 =>
 GuardK t66_72 true (fun k w => k x0 w) (@hid _ ⟨fun t68_74 w75 =>
 GuardK t66_72 true (fun k w => k t16_9 w) (@hid _ ⟨fun t69_76 w77 =>
 GuardK t66_72 true (fun k w => CallV Tryd.prog (.func (.func 22) #[] #[]) #[t68_74, t69_76] k w) (@hid _ ⟨fun t70_78 w79 =>
 GuardK t66_72 true (fun k w => BuiltinK Tryd.prog .len #[24] 3 #[false] #[t70_78] k w) (@hid _ ⟨fun t71_80 w81 =>
 GuardK t66_72 true (fun k w => BinK Tryd.prog .eql 3 t71_80 (.int .i64 0) k w) (@hid _ ⟨fun t72_82 w83 =>
 PickK Tryd.prog t66_72 t72_82 (.bool false) (@hid _ ⟨fun t73_84 w85 =>
 GuardK t73_84 true (fun k w => k x0 w) (@hid _ ⟨fun t75_86 w87 =>
 GuardK t73_84 true (fun k w => CallV Tryd.prog (.func (.func 19) #[] #[]) #[t75_86, (.slice none 0 0)] k w) (@hid _ ⟨fun t76_88 w89 =>
 GuardK t73_84 true (fun k w => BuiltinK Tryd.prog .len #[22] 3 #[false] #[t76_88] k w) (@hid _ ⟨fun t77_90 w91 =>
 GuardK t73_84 true (fun k w => k x0 w) (@hid _ ⟨fun t78_92 w93 =>
 GuardK t73_84 true (fun k w => BuiltinK Tryd.prog .len #[22] 3 #[false] #[t78_92] k w) (@hid _ ⟨fun t79_94 w95 =>
 GuardK t73_84 true (fun k w => BinK Tryd.prog .eql 3 t77_90 t79_94 k w) (@hid _ ⟨fun t80_96 w97 =>
 PickK Tryd.prog t73_84 t80_96 (.bool false) (@hid _ ⟨fun t81_98 w99 =>
 GuardK t81_98 true (fun k w => k t16_9 w) (@hid _ ⟨fun t83_100 w101 =>
 GuardK t81_98 true (fun k w => CallV Tryd.prog (.func (.func 22) #[] #[]) #[(.slice none 0 0), t83_100] k w) (@hid _ ⟨fun t84_102 w103 =>
 GuardK t81_98 true (fun k w => BuiltinK Tryd.prog .len #[24] 3 #[false] #[t84_102] k w) (@hid _ ⟨fun t85_104 w105 =>
 GuardK t81_98 true (fun k w => k x0 w) (@hid _ ⟨fun t86_106 w107 =>
 GuardK t81_98 true (fun k w => BuiltinK Tryd.prog .len #[22] 3 #[false] #[t86_106] k w) (@hid _ ⟨fun t87_108 w109 =>
 GuardK t81_98 true (fun k w => BinK Tryd.prog .eql 3 t85_104 t87_108 k w) (@hid _ ⟨fun t88_110 w111 =>
 PickK Tryd.prog t81_98 t88_110 (.bool false) (@hid _ ⟨fun t89_112 w113 =>
 GuardK t89_112 true (fun k w => k x0 w) (@hid _ ⟨fun t91_114 w115 =>
 GuardK t89_112 true (fun k w => CallV Tryd.prog (.func (.func 24) #[] #[]) #[t91_114, (.slice none 0 0)] k w) (@hid _ ⟨fun t92_116 w117 =>
 GuardK t89_112 true (fun k w => BuiltinK Tryd.prog .len #[22] 3 #[false] #[t92_116] k w) (@hid _ ⟨fun t93_118 w119 =>
 GuardK t89_112 true (fun k w => BinK Tryd.prog .eql 3 t93_118 (.int .i64 0) k w) (@hid _ ⟨fun t94_120 w121 =>
 PickK Tryd.prog t89_112 t94_120 (.bool false) (@hid _ ⟨fun t95_122 w123 =>
 GuardK t95_122 true (fun k w => k t16_9 w) (@hid _ ⟨fun t97_124 w125 =>
 GuardK t95_122 true (fun k w => CallV Tryd.prog (.func (.func 13) #[] #[]) #[t97_124] k w) (@hid _ ⟨fun t98_126 w127 =>
 GuardK t95_122 true (fun k w => BinK Tryd.prog .eql 3 t98_126 (.int .i64 0) k w) (@hid _ ⟨fun t99_128 w129 =>
 PickK Tryd.prog t95_122 t99_128 (.bool false) (@hid _ ⟨fun t100_130 w131 =>
 R t100_130 w131⟩) w129⟩) w127⟩) w125⟩) w123⟩) w121⟩) w119⟩) w117⟩) w115⟩) w113⟩) w111⟩) w109⟩) w107⟩) w105⟩) w103⟩) w101⟩) w99⟩) w97⟩) w95⟩) w93⟩) w91⟩) w89⟩) w87⟩) w85⟩) w83⟩) w81⟩) w79⟩) w77⟩) w75⟩) w73⟩) w71⟩) w69⟩) w57⟩)⟩) w55⟩) w52⟩)⟩)⟩) w48⟩) w46⟩) w44⟩) w18⟩)⟩) w16⟩) w13⟩)⟩) w8⟩)⟩) w6⟩) w4⟩)⟩) w2⟩) w0
def a4 : Ann := (.seq .no (.seq (.seq .no (.cond (.seq .no .no) .no)) (.seq (.seq .no (.cond (.seq .no .no) .no)) (.seq .no (.seq .no (.seq (.seq .no (.block (.loop [6, 7] [(17, 37)] (.seq (.seq .no (.cond .no .no)) (.seq (.block (.seq .no (.cond .no .no))) .no))))) (.seq .no (.seq (.seq .no (.cond (.seq .no .no) .no)) (.seq (.seq .no (.block (.loop [9] [(4, 4), (46, 61)] (.seq (.seq .no (.cond .no .no)) (.seq (.block (.seq (.plan (.take 0 (.take 1 (.take 2 (.take 3 (.take 4 (.take 5 (.take 6 (.take 7 (.take 8 (.take 9 .done))))))))))) (.cond (.seq .no .no) .no))) .no))))) (.seq .no .no))))))))))
theorem F4_eq (x0 x1 : Value) (R : Value → World → Prop) (w0 : World) : F4 x0 x1 R w0 = vc Tryd.prog (bodyOf Tryd.f4) a4 (retQ Tryd.prog Tryd.f4 R) (envOf 0 [x0, x1]) w0 := by kernel_rfl
theorem F4_calls (x0 x1 : Value) (R : Value → World → Prop) (w0 : World) (h : F4 x0 x1 R w0) : CallK Tryd.prog 4 #[x0, x1] R w0 :=
 calls_vc (c := bodyOf Tryd.f4) Tryd.func4 (by kernel_rfl) (by kernel_rfl) a4 (by kernel_rfl) (by kernel_rfl) [x0, x1] (by rw [Tryd.ntmps4]; exact Nat.le_of_ble_eq_true rfl) w0 R ((F4_eq x0 x1 R w0).mp h)

/-- canton/cantonlaw14.DigestMeets, its body as a formula. -/
def F5 (x0 x1 : Value) (R : Value → World → Prop) (w0 : World) : Prop :=
 CallV Tryd.prog (.func (.func 9) #[] #[]) #[] (@hid _ ⟨fun t14_1 w2 =>
 UnK Tryd.prog .not t14_1 (@hid _ ⟨fun t15_3 w4 =>
 BrK t15_3 (@hid _ ⟨
 R (.bool false) w4⟩) (@hid _ ⟨
 CallV Tryd.prog (.func (.func 14) #[] #[]) #[x0] (@hid _ ⟨fun t17_5 w6 =>
 UnK Tryd.prog .not t17_5 (@hid _ ⟨fun t18_7 w8 =>
 GuardK t18_7 false (fun k w => k x1 w) (@hid _ ⟨fun t20_9 w10 =>
 GuardK t18_7 false (fun k w => CallV Tryd.prog (.func (.func 14) #[] #[]) #[t20_9] k w) (@hid _ ⟨fun t21_11 w12 =>
 GuardK t18_7 false (fun k w => UnK Tryd.prog .not t21_11 k w) (@hid _ ⟨fun t22_13 w14 =>
 PickK Tryd.prog t18_7 (.bool true) t22_13 (@hid _ ⟨fun t23_15 w16 =>
 GuardK t23_15 false (fun k w => k x0 w) (@hid _ ⟨fun t25_17 w18 =>
 GuardK t23_15 false (fun k w => BuiltinK Tryd.prog .len #[22] 3 #[false] #[t25_17] k w) (@hid _ ⟨fun t26_19 w20 =>
 GuardK t23_15 false (fun k w => k x1 w) (@hid _ ⟨fun t27_21 w22 =>
 GuardK t23_15 false (fun k w => BuiltinK Tryd.prog .len #[22] 3 #[false] #[t27_21] k w) (@hid _ ⟨fun t28_23 w24 =>
 GuardK t23_15 false (fun k w => BinK Tryd.prog .add 3 t26_19 t28_23 k w) (@hid _ ⟨fun t29_25 w26 =>
 GuardK t23_15 false (fun k w => BinK Tryd.prog .gtr 3 t29_25 (.int .i64 64) k w) (@hid _ ⟨fun t30_27 w28 =>
 PickK Tryd.prog t23_15 (.bool true) t30_27 (@hid _ ⟨fun t31_29 w30 =>
 BrK t31_29 (@hid _ ⟨
 R (.bool true) w30⟩) (@hid _ ⟨
 LoopK1 (.int .i64 0) w30 (@hid _ ⟨fun _ x5_31 w32 B33 =>
 BuiltinK Tryd.prog .len #[22] 3 #[false] #[x0] (@hid _ ⟨fun t34_34 w35 =>
 BinK Tryd.prog .lss 3 x5_31 t34_34 (@hid _ ⟨fun t35_36 w37 =>
 BrK t35_36 (@hid _ ⟨
 LoopK1 (.int .i64 0) w37 (@hid _ ⟨fun _ x6_38 w39 B40 =>
 BuiltinK Tryd.prog .len #[22] 3 #[false] #[x1] (@hid _ ⟨fun t40_41 w42 =>
 BinK Tryd.prog .lss 3 x6_38 t40_41 (@hid _ ⟨fun t41_43 w44 =>
 BrK t41_43 (@hid _ ⟨
 DrawK (@hid _ ⟨fun S45 w46 =>
 TakeS Tryd.prog S45 (Instr.indexAt 22 x0 x5_31) (@hid _ ⟨fun t46_47 =>
 TakeS Tryd.prog S45 (Instr.fieldAt 55 t46_47 0) (@hid _ ⟨fun t47_48 =>
 TakeS Tryd.prog S45 (Instr.loadAt 9 t47_48) (@hid _ ⟨fun t48_49 =>
 TakeS Tryd.prog S45 (Instr.indexAt 22 x1 x6_38) (@hid _ ⟨fun t51_50 =>
 TakeS Tryd.prog S45 (Instr.fieldAt 55 t51_50 0) (@hid _ ⟨fun t52_51 =>
 TakeS Tryd.prog S45 (Instr.loadAt 9 t52_51) (@hid _ ⟨fun t53_52 =>
 BinT Tryd.prog S45 .eql 9 t48_49 t53_52 (@hid _ ⟨fun t54_53 =>
 TakeG t54_53 true (fun k => k x0) (@hid _ ⟨fun t56_54 =>
 TakeG t54_53 true (fun k => k x5_31) (@hid _ ⟨fun t57_55 =>
 TakeG t54_53 true (fun k => TakeS Tryd.prog S45 (Instr.indexAt 22 t56_54 t57_55) k) (@hid _ ⟨fun t58_56 =>
 TakeG t54_53 true (fun k => TakeS Tryd.prog S45 (Instr.fieldAt 55 t58_56 1) k) (@hid _ ⟨fun t59_57 =>
 TakeG t54_53 true (fun k => TakeS Tryd.prog S45 (Instr.loadAt 52 t59_57) k) (@hid _ ⟨fun t60_58 =>
 TakeG t54_53 true (fun k => k x1) (@hid _ ⟨fun t61_59 =>
 TakeG t54_53 true (fun k => k x6_38) (@hid _ ⟨fun t62_60 =>
 TakeG t54_53 true (fun k => TakeS Tryd.prog S45 (Instr.indexAt 22 t61_59 t62_60) k) (@hid _ ⟨fun t63_61 =>
 TakeG t54_53 true (fun k => TakeS Tryd.prog S45 (Instr.fieldAt 55 t63_61 1) k) (@hid _ ⟨fun t64_62 =>
 TakeG t54_53 true (fun k => TakeS Tryd.prog S45 (Instr.loadAt 52 t64_62) k) (@hid _ ⟨fun t65_63 =>
 (GuardK t54_53 true (fun k w => CallV Tryd.prog (.func (.func 26) #[] #[]) #[t60_58, t65_63] k w) (@hid _ ⟨fun t66_64 w65 =>
 S45 w65 ∧
 TakeG t54_53 true (fun k => BinT Tryd.prog S45 .eql 3 t66_64 (.int .i64 0) k) (@hid _ ⟨fun t67_66 =>
 PickT t54_53 t67_66 (.bool false) (@hid _ ⟨fun t68_67 =>
 TakeG t68_67 true (fun k => k x0) (@hid _ ⟨fun t70_68 =>
 TakeG t68_67 true (fun k => k x5_31) (@hid _ ⟨fun t71_69 =>
 TakeG t68_67 true (fun k => TakeS Tryd.prog S45 (Instr.indexAt 22 t70_68 t71_69) k) (@hid _ ⟨fun t72_70 =>
 TakeG t68_67 true (fun k => TakeS Tryd.prog S45 (Instr.loadAt 55 t72_70) k) (@hid _ ⟨fun t73_71 =>
 TakeG t68_67 true (fun k => k x1) (@hid _ ⟨fun t74_72 =>
 TakeG t68_67 true (fun k => k x6_38) (@hid _ ⟨fun t75_73 =>
 TakeG t68_67 true (fun k => TakeS Tryd.prog S45 (Instr.indexAt 22 t74_72 t75_73) k) (@hid _ ⟨fun t76_74 =>
 TakeG t68_67 true (fun k => TakeS Tryd.prog S45 (Instr.loadAt 55 t76_74) k) (@hid _ ⟨fun t77_75 =>
 (GuardK t68_67 true (fun k w => CallV Tryd.prog (.func (.func 27) #[] #[]) #[t73_71, t77_75] k w) (@hid _ ⟨fun t78_76 w77 =>
 S45 w77 ∧
 TakeG t68_67 true (fun k => TakeS Tryd.prog S45 (Op.unary .not t78_76) k) (@hid _ ⟨fun t79_78 =>
 PickT t68_67 t79_78 (.bool false) (@hid _ ⟨fun t80_79 =>
 BrK t80_79 (@hid _ ⟨
 R (.bool true) w77⟩) (@hid _ ⟨
 BinK Tryd.prog .add 3 x6_38 (.int .i64 1) (@hid _ ⟨fun t43_80 w81 =>
 B40 t43_80 w81⟩) w77⟩)⟩)⟩)⟩) w65) ∧
 True⟩)⟩)⟩)⟩)⟩)⟩)⟩)⟩)⟩)⟩)⟩) w46) ∧
 True⟩)⟩)⟩)⟩)⟩)⟩)⟩)⟩)⟩)⟩)⟩)⟩)⟩)⟩)⟩)⟩)⟩)⟩) w44⟩) (@hid _ ⟨
 BinK Tryd.prog .add 3 x5_31 (.int .i64 1) (@hid _ ⟨fun t37_82 w83 =>
 B33 t37_82 w83⟩) w44⟩)⟩) w42⟩) w39⟩)⟩) (@hid _ ⟨
 CallV Tryd.prog (.func (.func 15) #[] #[]) #[x0] (@hid _ ⟨fun t82_84 w85 =>
 BuildK Tryd.prog 60 #[(0, (.int .i64 64)), (1, t82_84)] (@hid _ ⟨fun t83_86 w87 =>
 AllocK Tryd.prog 60 (@hid _ ⟨fun t7_88 w89 =>
 StoreK Tryd.prog 60 t7_88 t83_86 (@hid _ ⟨fun tu_90 w91 =>
 CallV Tryd.prog (.func (.func 15) #[] #[]) #[x1] (@hid _ ⟨fun t85_92 w93 =>
 BuildK Tryd.prog 60 #[(0, (.int .i64 64)), (1, t85_92)] (@hid _ ⟨fun t86_94 w95 =>
 AllocK Tryd.prog 60 (@hid _ ⟨fun t8_96 w97 =>
 StoreK Tryd.prog 60 t8_96 t86_94 (@hid _ ⟨fun tu_98 w99 =>
 CallV Tryd.prog (.func (.func 16) #[] #[]) #[x1] (@hid _ ⟨fun t89_100 w101 =>
 CallV Tryd.prog (.func (.func 19) #[] #[]) #[x0, t89_100] (@hid _ ⟨fun t90_102 w103 =>
 CallV Tryd.prog (.func (.func 15) #[] #[]) #[t90_102] (@hid _ ⟨fun t91_104 w105 =>
 CallV Tryd.prog (.func (.func 22) #[] #[]) #[x1, (.slice none 0 0)] (@hid _ ⟨fun t94_106 w107 =>
 CallV Tryd.prog (.func (.func 24) #[] #[]) #[x1, t94_106] (@hid _ ⟨fun t95_108 w109 =>
 CallV Tryd.prog (.func (.func 15) #[] #[]) #[t95_108] (@hid _ ⟨fun t96_110 w111 =>
 CallV Tryd.prog (.func (.func 16) #[] #[]) #[x1] (@hid _ ⟨fun t100_112 w113 =>
 CallV Tryd.prog (.func (.func 22) #[] #[]) #[x0, t100_112] (@hid _ ⟨fun t101_114 w115 =>
 CallV Tryd.prog (.func (.func 24) #[] #[]) #[x1, t101_114] (@hid _ ⟨fun t102_116 w117 =>
 CallV Tryd.prog (.func (.func 15) #[] #[]) #[t102_116] (@hid _ ⟨fun t103_118 w119 =>
 LoopK1 (.int .i64 0) w119 (@hid _ ⟨fun _ x12_120 w121 B122 =>
 BuiltinK Tryd.prog .len #[33] 3 #[false] #[t91_104] (@hid _ ⟨fun t106_123 w124 =>
 BinK Tryd.prog .lss 3 x12_120 t106_123 (@hid _ ⟨fun t107_125 w126 =>
 BrK t107_125 (@hid _ ⟨
 DrawK (@hid _ ⟨fun S127 w128 =>
 TakeS Tryd.prog S127 (Instr.indexAt 33 t91_104 x12_120) (@hid _ ⟨fun t114_129 =>
 TakeS Tryd.prog S127 (Instr.loadAt 65 t114_129) (@hid _ ⟨fun t115_130 =>
 (LoadK Tryd.prog 60 t8_96 (@hid _ ⟨fun t111_131 w132 =>
 S127 w132 ∧
 (CallV Tryd.prog (.func (.func 28) #[] #[]) #[t111_131, t115_130] (@hid _ ⟨fun t116_133 w134 =>
 S127 w134 ∧
 TakeS Tryd.prog S127 (Instr.extract t116_133 0) (@hid _ ⟨fun t117_135 =>
 TakeS Tryd.prog S127 (Instr.extract t116_133 1) (@hid _ ⟨fun t118_136 =>
 (StoreK Tryd.prog 60 t8_96 t117_135 (@hid _ ⟨fun tu_137 w138 =>
 S127 w138 ∧
 BinK Tryd.prog .add 3 x12_120 (.int .i64 1) (@hid _ ⟨fun t109_139 w140 =>
 B122 t109_139 w140⟩) w138⟩) w134) ∧
 True⟩)⟩)⟩) w132) ∧
 True⟩) w128) ∧
 True⟩)⟩)⟩) w126⟩) (@hid _ ⟨
 LoopK1 (.int .i64 0) w126 (@hid _ ⟨fun _ x13_141 w142 B143 =>
 BuiltinK Tryd.prog .len #[33] 3 #[false] #[t103_118] (@hid _ ⟨fun t121_144 w145 =>
 BinK Tryd.prog .lss 3 x13_141 t121_144 (@hid _ ⟨fun t122_146 w147 =>
 BrK t122_146 (@hid _ ⟨
 DrawK (@hid _ ⟨fun S148 w149 =>
 TakeS Tryd.prog S148 (Instr.indexAt 33 t103_118 x13_141) (@hid _ ⟨fun t129_150 =>
 TakeS Tryd.prog S148 (Instr.loadAt 65 t129_150) (@hid _ ⟨fun t130_151 =>
 (LoadK Tryd.prog 60 t7_88 (@hid _ ⟨fun t126_152 w153 =>
 S148 w153 ∧
 (CallV Tryd.prog (.func (.func 28) #[] #[]) #[t126_152, t130_151] (@hid _ ⟨fun t131_154 w155 =>
 S148 w155 ∧
 TakeS Tryd.prog S148 (Instr.extract t131_154 0) (@hid _ ⟨fun t132_156 =>
 TakeS Tryd.prog S148 (Instr.extract t131_154 1) (@hid _ ⟨fun t133_157 =>
 (StoreK Tryd.prog 60 t7_88 t132_156 (@hid _ ⟨fun tu_158 w159 =>
 S148 w159 ∧
 BinK Tryd.prog .add 3 x13_141 (.int .i64 1) (@hid _ ⟨fun t124_160 w161 =>
 B143 t124_160 w161⟩) w159⟩) w155) ∧
 True⟩)⟩)⟩) w153) ∧
 True⟩) w149) ∧
 True⟩)⟩)⟩) w147⟩) (@hid _ ⟨
 BuiltinK Tryd.prog .len #[33] 3 #[false] #[t96_110] (@hid _ ⟨fun t135_162 w163 =>
 BinK Tryd.prog .eql 3 t135_162 (.int .i64 0) (@hid _ ⟨fun t136_164 w165 =>
 GuardK t136_164 true (fun k w => FieldAtK Tryd.prog 60 t7_88 1 k w) (@hid _ ⟨fun t138_166 w167 =>
 GuardK t136_164 true (fun k w => LoadK Tryd.prog 33 t138_166 k w) (@hid _ ⟨fun t139_168 w169 =>
 GuardK t136_164 true (fun k w => FieldAtK Tryd.prog 60 t8_96 1 k w) (@hid _ ⟨fun t140_170 w171 =>
 GuardK t136_164 true (fun k w => LoadK Tryd.prog 33 t140_170 k w) (@hid _ ⟨fun t141_172 w173 =>
 GuardK t136_164 true (fun k w => CallV Tryd.prog (.func (.func 29) #[] #[]) #[t139_168, t141_172] k w) (@hid _ ⟨fun t142_174 w175 =>
 PickK Tryd.prog t136_164 t142_174 (.bool false) (@hid _ ⟨fun t143_176 w177 =>
 R t143_176 w177⟩) w175⟩) w173⟩) w171⟩) w169⟩) w167⟩) w165⟩) w163⟩) w147⟩)⟩) w145⟩) w142⟩)⟩)⟩) w124⟩) w121⟩)⟩) w117⟩) w115⟩) w113⟩) w111⟩) w109⟩) w107⟩) w105⟩) w103⟩) w101⟩) w99⟩) w97⟩) w95⟩) w93⟩) w91⟩) w89⟩) w87⟩) w85⟩) w37⟩)⟩) w35⟩) w32⟩)⟩)⟩) w28⟩) w26⟩) w24⟩) w22⟩) w20⟩) w18⟩) w16⟩) w14⟩) w12⟩) w10⟩) w8⟩) w6⟩) w4⟩)⟩) w2⟩) w0
def a5 : Ann := (.seq .no (.seq (.seq .no (.cond (.seq .no .no) .no)) (.seq (.seq .no (.cond (.seq .no .no) .no)) (.seq (.seq .no (.block (.loop [5] [(4, 4), (6, 6), (32, 80)] (.seq (.seq .no (.cond .no .no)) (.seq (.block (.seq .no (.block (.loop [6] [(4, 4), (38, 80)] (.seq (.seq .no (.cond .no .no)) (.seq (.block (.seq (.plan (.take 0 (.take 1 (.take 2 (.take 3 (.take 4 (.take 5 (.take 6 (.take 7 (.take 8 (.take 9 (.take 10 (.take 11 (.take 12 (.take 13 (.take 14 (.take 15 (.take 16 (.take 17 (.take 18 (.take 19 (.take 20 (.take 21 (.alt 22 (.take 23 (.take 24 (.take 25 (.take 26 (.take 27 (.take 28 (.take 29 (.take 30 (.take 31 (.take 32 (.take 33 (.alt 34 (.take 35 (.take 36 .done)) .nil)))))))))))) .nil)))))))))))))))))))))))) (.cond (.seq .no .no) .no))) .no)))))) .no))))) (.seq .no (.seq .no (.seq .no (.seq .no (.seq .no (.seq (.seq .no (.block (.loop [12] [(104, 118)] (.seq (.seq .no (.cond .no .no)) (.seq (.block (.plan (.take 1 (.take 2 (.take 3 (.take 4 (.alt 0 (.alt 5 (.take 6 (.take 7 (.take 8 (.alt 9 .done .nil)))) .nil) .nil))))))) .no))))) (.seq (.seq .no (.block (.loop [13] [(119, 133)] (.seq (.seq .no (.cond .no .no)) (.seq (.block (.plan (.take 1 (.take 2 (.take 3 (.take 4 (.alt 0 (.alt 5 (.take 6 (.take 7 (.take 8 (.alt 9 .done .nil)))) .nil) .nil))))))) .no))))) (.seq .no .no))))))))))))
theorem F5_eq (x0 x1 : Value) (R : Value → World → Prop) (w0 : World) : F5 x0 x1 R w0 = vc Tryd.prog (bodyOf Tryd.f5) a5 (retQ Tryd.prog Tryd.f5 R) (envOf 0 [x0, x1]) w0 := by kernel_rfl
theorem F5_calls (x0 x1 : Value) (R : Value → World → Prop) (w0 : World) (h : F5 x0 x1 R w0) : CallK Tryd.prog 5 #[x0, x1] R w0 :=
 calls_vc (c := bodyOf Tryd.f5) Tryd.func5 (by kernel_rfl) (by kernel_rfl) a5 (by kernel_rfl) (by kernel_rfl) [x0, x1] (by rw [Tryd.ntmps5]; exact Nat.le_of_ble_eq_true rfl) w0 R ((F5_eq x0 x1 R w0).mp h)

/-- canton/cantonlaw15.ElectAny, its body as a formula. -/
def F6 (x0 : Value) (R : Value → World → Prop) (w0 : World) : Prop :=
 CallV Tryd.prog (.func (.func 30) #[] #[]) #[] (@hid _ ⟨fun t10_1 w2 =>
 UnK Tryd.prog .not t10_1 (@hid _ ⟨fun t11_3 w4 =>
 BrK t11_3 (@hid _ ⟨
 R (.bool false) w4⟩) (@hid _ ⟨
 CallV Tryd.prog (.func (.func 14) #[] #[]) #[x0] (@hid _ ⟨fun t13_5 w6 =>
 UnK Tryd.prog .not t13_5 (@hid _ ⟨fun t14_7 w8 =>
 BrK t14_7 (@hid _ ⟨
 R (.bool true) w8⟩) (@hid _ ⟨
 CallV Tryd.prog (.func (.func 31) #[] #[]) #[x0] (@hid _ ⟨fun t16_9 w10 =>
 CallV Tryd.prog (.func (.func 15) #[] #[]) #[x0] (@hid _ ⟨fun t18_11 w12 =>
 CallV Tryd.prog (.func (.func 32) #[] #[]) #[t18_11] (@hid _ ⟨fun t19_13 w14 =>
 CallV Tryd.prog (.func (.func 33) #[] #[]) #[x0] (@hid _ ⟨fun t22_15 w16 =>
 ExtractK Tryd.prog t22_15 0 (@hid _ ⟨fun t23_17 w18 =>
 ExtractK Tryd.prog t22_15 1 (@hid _ ⟨fun t24_19 w20 =>
 AllocK Tryd.prog 73 (@hid _ ⟨fun t5_21 w22 =>
 StoreK Tryd.prog 73 t5_21 t23_17 (@hid _ ⟨fun tu_23 w24 =>
 CallV Tryd.prog (.func (.func 15) #[] #[]) #[x0] (@hid _ ⟨fun t27_25 w26 =>
 CallV Tryd.prog (.func (.func 34) #[] #[]) #[t27_25] (@hid _ ⟨fun t28_27 w28 =>
 ExtractK Tryd.prog t28_27 0 (@hid _ ⟨fun t29_29 w30 =>
 ExtractK Tryd.prog t28_27 1 (@hid _ ⟨fun t30_31 w32 =>
 AllocK Tryd.prog 76 (@hid _ ⟨fun t7_33 w34 =>
 StoreK Tryd.prog 76 t7_33 t29_29 (@hid _ ⟨fun tu_35 w36 =>
 BuiltinK Tryd.prog .len #[68] 3 #[false] #[t16_9] (@hid _ ⟨fun t32_37 w38 =>
 BuiltinK Tryd.prog .len #[70] 3 #[false] #[t19_13] (@hid _ ⟨fun t34_39 w40 =>
 BinK Tryd.prog .neq 3 t32_37 t34_39 (@hid _ ⟨fun t35_41 w42 =>
 GuardK t35_41 false (fun k w => k t24_19 w) (@hid _ ⟨fun t37_43 w44 =>
 GuardK t35_41 false (fun k w => k t30_31 w) (@hid _ ⟨fun t38_45 w46 =>
 GuardK t35_41 false (fun k w => BinK Tryd.prog .neq 4 t37_43 t38_45 k w) (@hid _ ⟨fun t39_47 w48 =>
 PickK Tryd.prog t35_41 (.bool true) t39_47 (@hid _ ⟨fun t40_49 w50 =>
 GuardK t40_49 false (fun k w => FieldAtK Tryd.prog 73 t5_21 0 k w) (@hid _ ⟨fun t42_51 w52 =>
 GuardK t40_49 false (fun k w => LoadK Tryd.prog 9 t42_51 k w) (@hid _ ⟨fun t43_53 w54 =>
 GuardK t40_49 false (fun k w => FieldAtK Tryd.prog 76 t7_33 0 k w) (@hid _ ⟨fun t44_55 w56 =>
 GuardK t40_49 false (fun k w => LoadK Tryd.prog 9 t44_55 k w) (@hid _ ⟨fun t45_57 w58 =>
 GuardK t40_49 false (fun k w => BinK Tryd.prog .neq 9 t43_53 t45_57 k w) (@hid _ ⟨fun t46_59 w60 =>
 PickK Tryd.prog t40_49 (.bool true) t46_59 (@hid _ ⟨fun t47_61 w62 =>
 GuardK t47_61 false (fun k w => FieldAtK Tryd.prog 73 t5_21 1 k w) (@hid _ ⟨fun t49_63 w64 =>
 GuardK t47_61 false (fun k w => LoadK Tryd.prog 9 t49_63 k w) (@hid _ ⟨fun t50_65 w66 =>
 GuardK t47_61 false (fun k w => FieldAtK Tryd.prog 76 t7_33 1 k w) (@hid _ ⟨fun t51_67 w68 =>
 GuardK t47_61 false (fun k w => LoadK Tryd.prog 9 t51_67 k w) (@hid _ ⟨fun t52_69 w70 =>
 GuardK t47_61 false (fun k w => BinK Tryd.prog .neq 9 t50_65 t52_69 k w) (@hid _ ⟨fun t53_71 w72 =>
 PickK Tryd.prog t47_61 (.bool true) t53_71 (@hid _ ⟨fun t54_73 w74 =>
 GuardK t54_73 false (fun k w => FieldAtK Tryd.prog 73 t5_21 2 k w) (@hid _ ⟨fun t56_75 w76 =>
 GuardK t54_73 false (fun k w => LoadK Tryd.prog 2 t56_75 k w) (@hid _ ⟨fun t57_77 w78 =>
 GuardK t54_73 false (fun k w => FieldAtK Tryd.prog 76 t7_33 2 k w) (@hid _ ⟨fun t58_79 w80 =>
 GuardK t54_73 false (fun k w => LoadK Tryd.prog 2 t58_79 k w) (@hid _ ⟨fun t59_81 w82 =>
 GuardK t54_73 false (fun k w => BinK Tryd.prog .neq 2 t57_77 t59_81 k w) (@hid _ ⟨fun t60_83 w84 =>
 PickK Tryd.prog t54_73 (.bool true) t60_83 (@hid _ ⟨fun t61_85 w86 =>
 BrK t61_85 (@hid _ ⟨
 R (.bool false) w86⟩) (@hid _ ⟨
 LoopK1 (.int .i64 0) w86 (@hid _ ⟨fun _ x9_87 w88 B89 =>
 BuiltinK Tryd.prog .len #[68] 3 #[false] #[t16_9] (@hid _ ⟨fun t64_90 w91 =>
 BinK Tryd.prog .lss 3 x9_87 t64_90 (@hid _ ⟨fun t65_92 w93 =>
 BrK t65_92 (@hid _ ⟨
 DrawK (@hid _ ⟨fun S94 w95 =>
 TakeS Tryd.prog S94 (Instr.indexAt 68 t16_9 x9_87) (@hid _ ⟨fun t70_96 =>
 TakeS Tryd.prog S94 (Instr.fieldAt 73 t70_96 0) (@hid _ ⟨fun t71_97 =>
 TakeS Tryd.prog S94 (Instr.loadAt 9 t71_97) (@hid _ ⟨fun t72_98 =>
 TakeS Tryd.prog S94 (Instr.indexAt 70 t19_13 x9_87) (@hid _ ⟨fun t75_99 =>
 TakeS Tryd.prog S94 (Instr.fieldAt 76 t75_99 0) (@hid _ ⟨fun t76_100 =>
 TakeS Tryd.prog S94 (Instr.loadAt 9 t76_100) (@hid _ ⟨fun t77_101 =>
 BinT Tryd.prog S94 .neq 9 t72_98 t77_101 (@hid _ ⟨fun t78_102 =>
 TakeG t78_102 false (fun k => k t16_9) (@hid _ ⟨fun t80_103 =>
 TakeG t78_102 false (fun k => k x9_87) (@hid _ ⟨fun t81_104 =>
 TakeG t78_102 false (fun k => TakeS Tryd.prog S94 (Instr.indexAt 68 t80_103 t81_104) k) (@hid _ ⟨fun t82_105 =>
 TakeG t78_102 false (fun k => TakeS Tryd.prog S94 (Instr.fieldAt 73 t82_105 1) k) (@hid _ ⟨fun t83_106 =>
 TakeG t78_102 false (fun k => TakeS Tryd.prog S94 (Instr.loadAt 9 t83_106) k) (@hid _ ⟨fun t84_107 =>
 TakeG t78_102 false (fun k => k t19_13) (@hid _ ⟨fun t85_108 =>
 TakeG t78_102 false (fun k => k x9_87) (@hid _ ⟨fun t86_109 =>
 TakeG t78_102 false (fun k => TakeS Tryd.prog S94 (Instr.indexAt 70 t85_108 t86_109) k) (@hid _ ⟨fun t87_110 =>
 TakeG t78_102 false (fun k => TakeS Tryd.prog S94 (Instr.fieldAt 76 t87_110 1) k) (@hid _ ⟨fun t88_111 =>
 TakeG t78_102 false (fun k => TakeS Tryd.prog S94 (Instr.loadAt 9 t88_111) k) (@hid _ ⟨fun t89_112 =>
 TakeG t78_102 false (fun k => BinT Tryd.prog S94 .neq 9 t84_107 t89_112 k) (@hid _ ⟨fun t90_113 =>
 PickT t78_102 (.bool true) t90_113 (@hid _ ⟨fun t91_114 =>
 TakeG t91_114 false (fun k => k t16_9) (@hid _ ⟨fun t93_115 =>
 TakeG t91_114 false (fun k => k x9_87) (@hid _ ⟨fun t94_116 =>
 TakeG t91_114 false (fun k => TakeS Tryd.prog S94 (Instr.indexAt 68 t93_115 t94_116) k) (@hid _ ⟨fun t95_117 =>
 TakeG t91_114 false (fun k => TakeS Tryd.prog S94 (Instr.fieldAt 73 t95_117 2) k) (@hid _ ⟨fun t96_118 =>
 TakeG t91_114 false (fun k => TakeS Tryd.prog S94 (Instr.loadAt 2 t96_118) k) (@hid _ ⟨fun t97_119 =>
 TakeG t91_114 false (fun k => k t19_13) (@hid _ ⟨fun t98_120 =>
 TakeG t91_114 false (fun k => k x9_87) (@hid _ ⟨fun t99_121 =>
 TakeG t91_114 false (fun k => TakeS Tryd.prog S94 (Instr.indexAt 70 t98_120 t99_121) k) (@hid _ ⟨fun t100_122 =>
 TakeG t91_114 false (fun k => TakeS Tryd.prog S94 (Instr.fieldAt 76 t100_122 2) k) (@hid _ ⟨fun t101_123 =>
 TakeG t91_114 false (fun k => TakeS Tryd.prog S94 (Instr.loadAt 2 t101_123) k) (@hid _ ⟨fun t102_124 =>
 TakeG t91_114 false (fun k => BinT Tryd.prog S94 .neq 2 t97_119 t102_124 k) (@hid _ ⟨fun t103_125 =>
 PickT t91_114 (.bool true) t103_125 (@hid _ ⟨fun t104_126 =>
 BrK t104_126 (@hid _ ⟨
 R (.bool false) w95⟩) (@hid _ ⟨
 BinK Tryd.prog .add 3 x9_87 (.int .i64 1) (@hid _ ⟨fun t67_127 w128 =>
 B89 t67_127 w128⟩) w95⟩)⟩)⟩)⟩)⟩)⟩)⟩)⟩)⟩)⟩)⟩)⟩)⟩)⟩)⟩)⟩)⟩)⟩)⟩)⟩)⟩)⟩)⟩)⟩)⟩)⟩)⟩)⟩)⟩)⟩)⟩)⟩)⟩) w93⟩) (@hid _ ⟨
 R (.bool true) w93⟩)⟩) w91⟩) w88⟩)⟩)⟩) w84⟩) w82⟩) w80⟩) w78⟩) w76⟩) w74⟩) w72⟩) w70⟩) w68⟩) w66⟩) w64⟩) w62⟩) w60⟩) w58⟩) w56⟩) w54⟩) w52⟩) w50⟩) w48⟩) w46⟩) w44⟩) w42⟩) w40⟩) w38⟩) w36⟩) w34⟩) w32⟩) w30⟩) w28⟩) w26⟩) w24⟩) w22⟩) w20⟩) w18⟩) w16⟩) w14⟩) w12⟩) w10⟩) w8⟩)⟩) w6⟩) w4⟩)⟩) w2⟩) w0
def a6 : Ann := (.seq .no (.seq (.seq .no (.cond (.seq .no .no) .no)) (.seq (.seq .no (.cond (.seq .no .no) .no)) (.seq .no (.seq .no (.seq .no (.seq .no (.seq (.seq .no (.cond (.seq .no .no) .no)) (.seq (.seq .no (.block (.loop [9] [(2, 2), (62, 104)] (.seq (.seq .no (.cond .no .no)) (.seq (.block (.seq (.plan (.take 0 (.take 1 (.take 2 (.take 3 (.take 4 (.take 5 (.take 6 (.take 7 (.take 8 (.take 9 (.take 10 (.take 11 (.take 12 (.take 13 (.take 14 (.take 15 (.take 16 (.take 17 (.take 18 (.take 19 (.take 20 (.take 21 (.take 22 (.take 23 (.take 24 (.take 25 (.take 26 (.take 27 (.take 28 (.take 29 (.take 30 (.take 31 (.take 32 (.take 33 (.take 34 (.take 35 (.take 36 .done)))))))))))))))))))))))))))))))))))))) (.cond (.seq .no .no) .no))) .no))))) (.seq .no .no))))))))))
theorem F6_eq (x0 : Value) (R : Value → World → Prop) (w0 : World) : F6 x0 R w0 = vc Tryd.prog (bodyOf Tryd.f6) a6 (retQ Tryd.prog Tryd.f6 R) (envOf 0 [x0]) w0 := by kernel_rfl
theorem F6_calls (x0 : Value) (R : Value → World → Prop) (w0 : World) (h : F6 x0 R w0) : CallK Tryd.prog 6 #[x0] R w0 :=
 calls_vc (c := bodyOf Tryd.f6) Tryd.func6 (by kernel_rfl) (by kernel_rfl) a6 (by kernel_rfl) (by kernel_rfl) [x0] (by rw [Tryd.ntmps6]; exact Nat.le_of_ble_eq_true rfl) w0 R ((F6_eq x0 R w0).mp h)

/-- canton/cantonlaw15.ElectOne, its body as a formula. -/
def F7 (x0 x1 : Value) (R : Value → World → Prop) (w0 : World) : Prop :=
 CallV Tryd.prog (.func (.func 30) #[] #[]) #[] (@hid _ ⟨fun t11_1 w2 =>
 UnK Tryd.prog .not t11_1 (@hid _ ⟨fun t12_3 w4 =>
 BrK t12_3 (@hid _ ⟨
 R (.bool false) w4⟩) (@hid _ ⟨
 CallV Tryd.prog (.func (.func 14) #[] #[]) #[x0] (@hid _ ⟨fun t14_5 w6 =>
 UnK Tryd.prog .not t14_5 (@hid _ ⟨fun t15_7 w8 =>
 GuardK t15_7 false (fun k w => k x1 w) (@hid _ ⟨fun t17_9 w10 =>
 GuardK t15_7 false (fun k w => BuiltinK Tryd.prog .len #[9] 3 #[false] #[t17_9] k w) (@hid _ ⟨fun t18_11 w12 =>
 GuardK t15_7 false (fun k w => BinK Tryd.prog .gtr 3 t18_11 (.int .i64 100) k w) (@hid _ ⟨fun t19_13 w14 =>
 PickK Tryd.prog t15_7 (.bool true) t19_13 (@hid _ ⟨fun t20_15 w16 =>
 BrK t20_15 (@hid _ ⟨
 R (.bool true) w16⟩) (@hid _ ⟨
 CallV Tryd.prog (.func (.func 33) #[] #[]) #[x0] (@hid _ ⟨fun t23_17 w18 =>
 ExtractK Tryd.prog t23_17 0 (@hid _ ⟨fun t24_19 w20 =>
 ExtractK Tryd.prog t23_17 1 (@hid _ ⟨fun t25_21 w22 =>
 AllocK Tryd.prog 73 (@hid _ ⟨fun t5_23 w24 =>
 StoreK Tryd.prog 73 t5_23 t24_19 (@hid _ ⟨fun tu_25 w26 =>
 UnK Tryd.prog .not t25_21 (@hid _ ⟨fun t27_27 w28 =>
 GuardK t27_27 false (fun k w => FieldAtK Tryd.prog 73 t5_23 0 k w) (@hid _ ⟨fun t29_29 w30 =>
 GuardK t27_27 false (fun k w => LoadK Tryd.prog 9 t29_29 k w) (@hid _ ⟨fun t30_31 w32 =>
 GuardK t27_27 false (fun k w => k x1 w) (@hid _ ⟨fun t31_33 w34 =>
 GuardK t27_27 false (fun k w => BinK Tryd.prog .eql 9 t30_31 t31_33 k w) (@hid _ ⟨fun t32_35 w36 =>
 PickK Tryd.prog t27_27 (.bool true) t32_35 (@hid _ ⟨fun t33_37 w38 =>
 BrK t33_37 (@hid _ ⟨
 R (.bool true) w38⟩) (@hid _ ⟨
 LoopK2 (.slice none 0 0) (.int .i64 0) w38 (@hid _ ⟨fun _ x7_39 x8_40 w41 B42 =>
 BuiltinK Tryd.prog .len #[22] 3 #[false] #[x0] (@hid _ ⟨fun t36_43 w44 =>
 BinK Tryd.prog .lss 3 x8_40 t36_43 (@hid _ ⟨fun t37_45 w46 =>
 BrK t37_45 (@hid _ ⟨
 IndexAtK Tryd.prog 22 x0 x8_40 (@hid _ ⟨fun t42_47 w48 =>
 FieldAtK Tryd.prog 55 t42_47 0 (@hid _ ⟨fun t43_49 w50 =>
 LoadK Tryd.prog 9 t43_49 (@hid _ ⟨fun t44_51 w52 =>
 BinK Tryd.prog .neq 9 t44_51 x1 (@hid _ ⟨fun t46_53 w54 =>
 BrK t46_53 (@hid _ ⟨
 IndexAtK Tryd.prog 22 x0 x8_40 (@hid _ ⟨fun t50_55 w56 =>
 LoadK Tryd.prog 55 t50_55 (@hid _ ⟨fun t51_57 w58 =>
 BuildSliceK Tryd.prog 22 1 #[(0, t51_57)] (@hid _ ⟨fun t52_59 w60 =>
 BuiltinK Tryd.prog .append #[22, 22] 22 #[false, false] #[x7_39, t52_59] (@hid _ ⟨fun t53_61 w62 =>
 BinK Tryd.prog .add 3 x8_40 (.int .i64 1) (@hid _ ⟨fun t39_63 w64 =>
 B42 t53_61 t39_63 w64⟩) w62⟩) w60⟩) w58⟩) w56⟩) w54⟩) (@hid _ ⟨
 BinK Tryd.prog .add 3 x8_40 (.int .i64 1) (@hid _ ⟨fun t39_65 w66 =>
 B42 x7_39 t39_65 w66⟩) w54⟩)⟩) w52⟩) w50⟩) w48⟩) w46⟩) (@hid _ ⟨
 CallV Tryd.prog (.func (.func 33) #[] #[]) #[x7_39] (@hid _ ⟨fun t56_67 w68 =>
 ExtractK Tryd.prog t56_67 0 (@hid _ ⟨fun t57_69 w70 =>
 ExtractK Tryd.prog t56_67 1 (@hid _ ⟨fun t58_71 w72 =>
 AllocK Tryd.prog 73 (@hid _ ⟨fun t9_73 w74 =>
 StoreK Tryd.prog 73 t9_73 t57_69 (@hid _ ⟨fun tu_75 w76 =>
 GuardK t58_71 true (fun k w => LoadK Tryd.prog 73 t9_73 k w) (@hid _ ⟨fun t61_77 w78 =>
 GuardK t58_71 true (fun k w => LoadK Tryd.prog 73 t5_23 k w) (@hid _ ⟨fun t62_79 w80 =>
 GuardK t58_71 true (fun k w => BinK Tryd.prog .eql 73 t61_77 t62_79 k w) (@hid _ ⟨fun t63_81 w82 =>
 PickK Tryd.prog t58_71 t63_81 (.bool false) (@hid _ ⟨fun t64_83 w84 =>
 R t64_83 w84⟩) w82⟩) w80⟩) w78⟩) w76⟩) w74⟩) w72⟩) w70⟩) w68⟩) w46⟩)⟩) w44⟩) w41⟩)⟩)⟩) w36⟩) w34⟩) w32⟩) w30⟩) w28⟩) w26⟩) w24⟩) w22⟩) w20⟩) w18⟩) w16⟩)⟩) w14⟩) w12⟩) w10⟩) w8⟩) w6⟩) w4⟩)⟩) w2⟩) w0
def a7 : Ann := (.seq .no (.seq (.seq .no (.cond (.seq .no .no) .no)) (.seq (.seq .no (.cond (.seq .no .no) .no)) (.seq .no (.seq (.seq .no (.cond (.seq .no .no) .no)) (.seq .no (.seq (.seq .no (.block (.loop [7, 8] [(34, 53)] (.seq (.seq .no (.cond .no .no)) (.seq (.block (.seq .no (.cond .no .no))) .no))))) (.seq .no (.seq .no .no)))))))))
theorem F7_eq (x0 x1 : Value) (R : Value → World → Prop) (w0 : World) : F7 x0 x1 R w0 = vc Tryd.prog (bodyOf Tryd.f7) a7 (retQ Tryd.prog Tryd.f7 R) (envOf 0 [x0, x1]) w0 := by kernel_rfl
theorem F7_calls (x0 x1 : Value) (R : Value → World → Prop) (w0 : World) (h : F7 x0 x1 R w0) : CallK Tryd.prog 7 #[x0, x1] R w0 :=
 calls_vc (c := bodyOf Tryd.f7) Tryd.func7 (by kernel_rfl) (by kernel_rfl) a7 (by kernel_rfl) (by kernel_rfl) [x0, x1] (by rw [Tryd.ntmps7]; exact Nat.le_of_ble_eq_true rfl) w0 R ((F7_eq x0 x1 R w0).mp h)

/-- canton/cantonlaw15.ElectLeast, its body as a formula. -/
def F8 (x0 : Value) (R : Value → World → Prop) (w0 : World) : Prop :=
 CallV Tryd.prog (.func (.func 30) #[] #[]) #[] (@hid _ ⟨fun t10_1 w2 =>
 UnK Tryd.prog .not t10_1 (@hid _ ⟨fun t11_3 w4 =>
 BrK t11_3 (@hid _ ⟨
 R (.bool false) w4⟩) (@hid _ ⟨
 BuiltinK Tryd.prog .len #[80] 3 #[false] #[x0] (@hid _ ⟨fun t13_5 w6 =>
 BinK Tryd.prog .eql 3 t13_5 (.int .i64 0) (@hid _ ⟨fun t14_7 w8 =>
 GuardK t14_7 false (fun k w => k x0 w) (@hid _ ⟨fun t16_9 w10 =>
 GuardK t14_7 false (fun k w => BuiltinK Tryd.prog .len #[80] 3 #[false] #[t16_9] k w) (@hid _ ⟨fun t17_11 w12 =>
 GuardK t14_7 false (fun k w => BinK Tryd.prog .gtr 3 t17_11 (.int .i64 20) k w) (@hid _ ⟨fun t18_13 w14 =>
 PickK Tryd.prog t14_7 (.bool true) t18_13 (@hid _ ⟨fun t19_15 w16 =>
 BrK t19_15 (@hid _ ⟨
 R (.bool true) w16⟩) (@hid _ ⟨
 LoopK3 (.slice none 0 0) (.int .i64 0) (.int .i64 0) w16 (@hid _ ⟨fun _ x3_17 x4_18 x5_19 w20 B21 =>
 BuiltinK Tryd.prog .len #[80] 3 #[false] #[x0] (@hid _ ⟨fun t22_22 w23 =>
 BinK Tryd.prog .lss 3 x5_19 t22_22 (@hid _ ⟨fun t23_24 w25 =>
 BrK t23_24 (@hid _ ⟨
 CutK1 (@hid _ ⟨fun R26 =>
 DrawK (@hid _ ⟨fun S29 w30 =>
 BinT Tryd.prog S29 .add 3 (.int .i64 97) x5_19 (@hid _ ⟨fun t28_31 =>
 TakeS Tryd.prog S29 (convert 3 5 t28_31) (@hid _ ⟨fun t29_32 =>
 BinT Tryd.prog S29 .sub 3 (.int .i64 122) x5_19 (@hid _ ⟨fun t34_33 =>
 TakeS Tryd.prog S29 (convert 3 5 t34_33) (@hid _ ⟨fun t35_34 =>
 TakeS Tryd.prog S29 (Instr.indexAt 80 x0 x5_19) (@hid _ ⟨fun t41_35 =>
 TakeS Tryd.prog S29 (Instr.loadAt 2 t41_35) (@hid _ ⟨fun t42_36 =>
 (BuildSliceK Tryd.prog 82 1 #[(0, t29_32)] (@hid _ ⟨fun t30_37 w38 =>
 S29 w38 ∧
 (ConvK Tryd.prog 82 9 t30_37 (@hid _ ⟨fun t31_39 w40 =>
 S29 w40 ∧
 BinT Tryd.prog S29 .add 9 (.string { data := #[107] }) t31_39 (@hid _ ⟨fun t32_41 =>
 (BuildSliceK Tryd.prog 82 1 #[(0, t35_34)] (@hid _ ⟨fun t36_42 w43 =>
 S29 w43 ∧
 (ConvK Tryd.prog 82 9 t36_42 (@hid _ ⟨fun t37_44 w45 =>
 S29 w45 ∧
 BinT Tryd.prog S29 .add 9 (.string { data := #[47, 122, 47, 109] }) t37_44 (@hid _ ⟨fun t38_46 =>
 (CallV Tryd.prog (.func (.func 35) #[] #[]) #[t32_41, t38_46, t42_36] (@hid _ ⟨fun t43_47 w48 =>
 S29 w48 ∧
 (BuildSliceK Tryd.prog 22 1 #[(0, t43_47)] (@hid _ ⟨fun t44_49 w50 =>
 S29 w50 ∧
 (BuiltinK Tryd.prog .append #[22, 22] 22 #[false, false] #[x3_17, t44_49] (@hid _ ⟨fun t45_51 w52 =>
 S29 w52 ∧
 R26 t45_51 w52⟩) w50) ∧
 True⟩) w48) ∧
 True⟩) w45) ∧
 True⟩)⟩) w43) ∧
 True⟩) w40) ∧
 True⟩)⟩) w38) ∧
 (BuildSliceK Tryd.prog 82 1 #[(0, t35_34)] (@hid _ ⟨fun t36_53 w54 =>
 S29 w54 ∧
 (ConvK Tryd.prog 82 9 t30_37 (@hid _ ⟨fun t31_55 w56 =>
 S29 w56 ∧
 BinT Tryd.prog S29 .add 9 (.string { data := #[107] }) t31_55 (@hid _ ⟨fun t32_57 =>
 (ConvK Tryd.prog 82 9 t36_53 (@hid _ ⟨fun t37_58 w59 =>
 S29 w59 ∧
 BinT Tryd.prog S29 .add 9 (.string { data := #[47, 122, 47, 109] }) t37_58 (@hid _ ⟨fun t38_60 =>
 (CallV Tryd.prog (.func (.func 35) #[] #[]) #[t32_57, t38_60, t42_36] (@hid _ ⟨fun t43_61 w62 =>
 S29 w62 ∧
 (BuildSliceK Tryd.prog 22 1 #[(0, t43_61)] (@hid _ ⟨fun t44_63 w64 =>
 S29 w64 ∧
 (BuiltinK Tryd.prog .append #[22, 22] 22 #[false, false] #[x3_17, t44_63] (@hid _ ⟨fun t45_65 w66 =>
 S29 w66 ∧
 R26 t45_65 w66⟩) w64) ∧
 True⟩) w62) ∧
 True⟩) w59) ∧
 True⟩)⟩) w56) ∧
 True⟩)⟩) w54) ∧
 (ConvK Tryd.prog 82 9 t36_53 (@hid _ ⟨fun t37_67 w68 =>
 S29 w68 ∧
 BinT Tryd.prog S29 .add 9 (.string { data := #[47, 122, 47, 109] }) t37_67 (@hid _ ⟨fun t38_69 =>
 (ConvK Tryd.prog 82 9 t30_37 (@hid _ ⟨fun t31_70 w71 =>
 S29 w71 ∧
 BinT Tryd.prog S29 .add 9 (.string { data := #[107] }) t31_70 (@hid _ ⟨fun t32_72 =>
 (CallV Tryd.prog (.func (.func 35) #[] #[]) #[t32_72, t38_69, t42_36] (@hid _ ⟨fun t43_73 w74 =>
 S29 w74 ∧
 (BuildSliceK Tryd.prog 22 1 #[(0, t43_73)] (@hid _ ⟨fun t44_75 w76 =>
 S29 w76 ∧
 (BuiltinK Tryd.prog .append #[22, 22] 22 #[false, false] #[x3_17, t44_75] (@hid _ ⟨fun t45_77 w78 =>
 S29 w78 ∧
 R26 t45_77 w78⟩) w76) ∧
 True⟩) w74) ∧
 True⟩) w71) ∧
 True⟩)⟩) w68) ∧
 True⟩)⟩) w54) ∧
 True⟩) w38) ∧
 True⟩) w30) ∧
 (BuildSliceK Tryd.prog 82 1 #[(0, t35_34)] (@hid _ ⟨fun t36_79 w80 =>
 S29 w80 ∧
 (BuildSliceK Tryd.prog 82 1 #[(0, t29_32)] (@hid _ ⟨fun t30_81 w82 =>
 S29 w82 ∧
 (ConvK Tryd.prog 82 9 t30_81 (@hid _ ⟨fun t31_83 w84 =>
 S29 w84 ∧
 BinT Tryd.prog S29 .add 9 (.string { data := #[107] }) t31_83 (@hid _ ⟨fun t32_85 =>
 (ConvK Tryd.prog 82 9 t36_79 (@hid _ ⟨fun t37_86 w87 =>
 S29 w87 ∧
 BinT Tryd.prog S29 .add 9 (.string { data := #[47, 122, 47, 109] }) t37_86 (@hid _ ⟨fun t38_88 =>
 (CallV Tryd.prog (.func (.func 35) #[] #[]) #[t32_85, t38_88, t42_36] (@hid _ ⟨fun t43_89 w90 =>
 S29 w90 ∧
 (BuildSliceK Tryd.prog 22 1 #[(0, t43_89)] (@hid _ ⟨fun t44_91 w92 =>
 S29 w92 ∧
 (BuiltinK Tryd.prog .append #[22, 22] 22 #[false, false] #[x3_17, t44_91] (@hid _ ⟨fun t45_93 w94 =>
 S29 w94 ∧
 R26 t45_93 w94⟩) w92) ∧
 True⟩) w90) ∧
 True⟩) w87) ∧
 True⟩)⟩) w84) ∧
 True⟩)⟩) w82) ∧
 (ConvK Tryd.prog 82 9 t36_79 (@hid _ ⟨fun t37_95 w96 =>
 S29 w96 ∧
 BinT Tryd.prog S29 .add 9 (.string { data := #[47, 122, 47, 109] }) t37_95 (@hid _ ⟨fun t38_97 =>
 (ConvK Tryd.prog 82 9 t30_81 (@hid _ ⟨fun t31_98 w99 =>
 S29 w99 ∧
 BinT Tryd.prog S29 .add 9 (.string { data := #[107] }) t31_98 (@hid _ ⟨fun t32_100 =>
 (CallV Tryd.prog (.func (.func 35) #[] #[]) #[t32_100, t38_97, t42_36] (@hid _ ⟨fun t43_101 w102 =>
 S29 w102 ∧
 (BuildSliceK Tryd.prog 22 1 #[(0, t43_101)] (@hid _ ⟨fun t44_103 w104 =>
 S29 w104 ∧
 (BuiltinK Tryd.prog .append #[22, 22] 22 #[false, false] #[x3_17, t44_103] (@hid _ ⟨fun t45_105 w106 =>
 S29 w106 ∧
 R26 t45_105 w106⟩) w104) ∧
 True⟩) w102) ∧
 True⟩) w99) ∧
 True⟩)⟩) w96) ∧
 True⟩)⟩) w82) ∧
 True⟩) w80) ∧
 (ConvK Tryd.prog 82 9 t36_79 (@hid _ ⟨fun t37_107 w108 =>
 S29 w108 ∧
 BinT Tryd.prog S29 .add 9 (.string { data := #[47, 122, 47, 109] }) t37_107 (@hid _ ⟨fun t38_109 =>
 (BuildSliceK Tryd.prog 82 1 #[(0, t29_32)] (@hid _ ⟨fun t30_110 w111 =>
 S29 w111 ∧
 (ConvK Tryd.prog 82 9 t30_110 (@hid _ ⟨fun t31_112 w113 =>
 S29 w113 ∧
 BinT Tryd.prog S29 .add 9 (.string { data := #[107] }) t31_112 (@hid _ ⟨fun t32_114 =>
 (CallV Tryd.prog (.func (.func 35) #[] #[]) #[t32_114, t38_109, t42_36] (@hid _ ⟨fun t43_115 w116 =>
 S29 w116 ∧
 (BuildSliceK Tryd.prog 22 1 #[(0, t43_115)] (@hid _ ⟨fun t44_117 w118 =>
 S29 w118 ∧
 (BuiltinK Tryd.prog .append #[22, 22] 22 #[false, false] #[x3_17, t44_117] (@hid _ ⟨fun t45_119 w120 =>
 S29 w120 ∧
 R26 t45_119 w120⟩) w118) ∧
 True⟩) w116) ∧
 True⟩) w113) ∧
 True⟩)⟩) w111) ∧
 True⟩) w108) ∧
 True⟩)⟩) w80) ∧
 True⟩) w30) ∧
 True⟩)⟩)⟩)⟩)⟩)⟩)⟩) w25⟩)
 (@hid _ ⟨fun _ x3_27 w28 =>
 DrawK (@hid _ ⟨fun S121 w122 =>
 TakeS Tryd.prog S121 (Instr.indexAt 80 x0 x5_19) (@hid _ ⟨fun t48_123 =>
 TakeS Tryd.prog S121 (Instr.loadAt 2 t48_123) (@hid _ ⟨fun t49_124 =>
 TakeS Tryd.prog S121 (Instr.indexAt 80 x0 x4_18) (@hid _ ⟨fun t52_125 =>
 TakeS Tryd.prog S121 (Instr.loadAt 2 t52_125) (@hid _ ⟨fun t53_126 =>
 BinT Tryd.prog S121 .leq 2 t49_124 t53_126 (@hid _ ⟨fun t54_127 =>
 BrK t54_127 (@hid _ ⟨
 BinK Tryd.prog .add 3 x5_19 (.int .i64 1) (@hid _ ⟨fun t25_128 w129 =>
 B21 x3_27 x5_19 t25_128 w129⟩) w122⟩) (@hid _ ⟨
 BinK Tryd.prog .add 3 x5_19 (.int .i64 1) (@hid _ ⟨fun t25_130 w131 =>
 B21 x3_27 x4_18 t25_130 w131⟩) w122⟩)⟩)⟩)⟩)⟩)⟩)⟩) w28⟩)⟩) (@hid _ ⟨
 CallV Tryd.prog (.func (.func 33) #[] #[]) #[x3_17] (@hid _ ⟨fun t58_132 w133 =>
 ExtractK Tryd.prog t58_132 0 (@hid _ ⟨fun t59_134 w135 =>
 ExtractK Tryd.prog t58_132 1 (@hid _ ⟨fun t60_136 w137 =>
 AllocK Tryd.prog 73 (@hid _ ⟨fun t6_138 w139 =>
 StoreK Tryd.prog 73 t6_138 t59_134 (@hid _ ⟨fun tu_140 w141 =>
 CallV Tryd.prog (.func (.func 31) #[] #[]) #[x3_17] (@hid _ ⟨fun t62_142 w143 =>
 DrawK (@hid _ ⟨fun S144 w145 =>
 TakeS Tryd.prog S144 (Op.unary .not t60_136) (@hid _ ⟨fun t64_146 =>
 TakeG t64_146 false (fun k => k t62_142) (@hid _ ⟨fun t66_147 =>
 TakeG t64_146 false (fun k => TakeO Tryd.prog S144 (builtin .len #[68] 3 #[false] #[t66_147]) k) (@hid _ ⟨fun t67_148 =>
 TakeG t64_146 false (fun k => k x3_17) (@hid _ ⟨fun t68_149 =>
 TakeG t64_146 false (fun k => TakeO Tryd.prog S144 (builtin .len #[22] 3 #[false] #[t68_149]) k) (@hid _ ⟨fun t69_150 =>
 TakeG t64_146 false (fun k => BinT Tryd.prog S144 .neq 3 t67_148 t69_150 k) (@hid _ ⟨fun t70_151 =>
 PickT t64_146 (.bool true) t70_151 (@hid _ ⟨fun t71_152 =>
 TakeG t71_152 false (fun k => TakeS Tryd.prog S144 (Instr.fieldAt 73 t6_138 0) k) (@hid _ ⟨fun t73_153 =>
 TakeG t71_152 false (fun k => TakeS Tryd.prog S144 (Instr.loadAt 9 t73_153) k) (@hid _ ⟨fun t74_154 =>
 TakeG t71_152 false (fun k => k x3_17) (@hid _ ⟨fun t75_155 =>
 TakeG t71_152 false (fun k => k x4_18) (@hid _ ⟨fun t76_156 =>
 TakeG t71_152 false (fun k => TakeS Tryd.prog S144 (Instr.indexAt 22 t75_155 t76_156) k) (@hid _ ⟨fun t77_157 =>
 TakeG t71_152 false (fun k => TakeS Tryd.prog S144 (Instr.fieldAt 55 t77_157 0) k) (@hid _ ⟨fun t78_158 =>
 TakeG t71_152 false (fun k => TakeS Tryd.prog S144 (Instr.loadAt 9 t78_158) k) (@hid _ ⟨fun t79_159 =>
 TakeG t71_152 false (fun k => BinT Tryd.prog S144 .neq 9 t74_154 t79_159 k) (@hid _ ⟨fun t80_160 =>
 PickT t71_152 (.bool true) t80_160 (@hid _ ⟨fun t81_161 =>
 TakeG t81_161 false (fun k => TakeS Tryd.prog S144 (Instr.fieldAt 73 t6_138 2) k) (@hid _ ⟨fun t83_162 =>
 TakeG t81_161 false (fun k => TakeS Tryd.prog S144 (Instr.loadAt 2 t83_162) k) (@hid _ ⟨fun t84_163 =>
 TakeG t81_161 false (fun k => k x0) (@hid _ ⟨fun t85_164 =>
 TakeG t81_161 false (fun k => k x4_18) (@hid _ ⟨fun t86_165 =>
 TakeG t81_161 false (fun k => TakeS Tryd.prog S144 (Instr.indexAt 80 t85_164 t86_165) k) (@hid _ ⟨fun t87_166 =>
 TakeG t81_161 false (fun k => TakeS Tryd.prog S144 (Instr.loadAt 2 t87_166) k) (@hid _ ⟨fun t88_167 =>
 TakeG t81_161 false (fun k => BinT Tryd.prog S144 .neq 2 t84_163 t88_167 k) (@hid _ ⟨fun t89_168 =>
 PickT t81_161 (.bool true) t89_168 (@hid _ ⟨fun t90_169 =>
 BrK t90_169 (@hid _ ⟨
 R (.bool false) w145⟩) (@hid _ ⟨
 LoopK1 (.int .i64 1) w145 (@hid _ ⟨fun _ x9_170 w171 B172 =>
 BuiltinK Tryd.prog .len #[68] 3 #[false] #[t62_142] (@hid _ ⟨fun t93_173 w174 =>
 BinK Tryd.prog .lss 3 x9_170 t93_173 (@hid _ ⟨fun t94_175 w176 =>
 BrK t94_175 (@hid _ ⟨
 DrawK (@hid _ ⟨fun S177 w178 =>
 BinT Tryd.prog S177 .sub 3 x9_170 (.int .i64 1) (@hid _ ⟨fun t99_179 =>
 TakeS Tryd.prog S177 (Instr.indexAt 68 t62_142 t99_179) (@hid _ ⟨fun t100_180 =>
 TakeS Tryd.prog S177 (Instr.fieldAt 73 t100_180 2) (@hid _ ⟨fun t101_181 =>
 TakeS Tryd.prog S177 (Instr.loadAt 2 t101_181) (@hid _ ⟨fun t102_182 =>
 TakeS Tryd.prog S177 (Instr.indexAt 68 t62_142 x9_170) (@hid _ ⟨fun t105_183 =>
 TakeS Tryd.prog S177 (Instr.fieldAt 73 t105_183 2) (@hid _ ⟨fun t106_184 =>
 TakeS Tryd.prog S177 (Instr.loadAt 2 t106_184) (@hid _ ⟨fun t107_185 =>
 BinT Tryd.prog S177 .gtr 2 t102_182 t107_185 (@hid _ ⟨fun t108_186 =>
 TakeG t108_186 false (fun k => k t62_142) (@hid _ ⟨fun t110_187 =>
 TakeG t108_186 false (fun k => k x9_170) (@hid _ ⟨fun t111_188 =>
 TakeG t108_186 false (fun k => BinT Tryd.prog S177 .sub 3 t111_188 (.int .i64 1) k) (@hid _ ⟨fun t112_189 =>
 TakeG t108_186 false (fun k => TakeS Tryd.prog S177 (Instr.indexAt 68 t110_187 t112_189) k) (@hid _ ⟨fun t113_190 =>
 TakeG t108_186 false (fun k => TakeS Tryd.prog S177 (Instr.fieldAt 73 t113_190 2) k) (@hid _ ⟨fun t114_191 =>
 TakeG t108_186 false (fun k => TakeS Tryd.prog S177 (Instr.loadAt 2 t114_191) k) (@hid _ ⟨fun t115_192 =>
 TakeG t108_186 false (fun k => k t62_142) (@hid _ ⟨fun t116_193 =>
 TakeG t108_186 false (fun k => k x9_170) (@hid _ ⟨fun t117_194 =>
 TakeG t108_186 false (fun k => TakeS Tryd.prog S177 (Instr.indexAt 68 t116_193 t117_194) k) (@hid _ ⟨fun t118_195 =>
 TakeG t108_186 false (fun k => TakeS Tryd.prog S177 (Instr.fieldAt 73 t118_195 2) k) (@hid _ ⟨fun t119_196 =>
 TakeG t108_186 false (fun k => TakeS Tryd.prog S177 (Instr.loadAt 2 t119_196) k) (@hid _ ⟨fun t120_197 =>
 TakeG t108_186 false (fun k => BinT Tryd.prog S177 .eql 2 t115_192 t120_197 k) (@hid _ ⟨fun t121_198 =>
 TakeG t108_186 false (fun k => k t121_198) (@hid _ ⟨fun t122_199 =>
 TakeG t122_199 true (fun k => k t62_142) (@hid _ ⟨fun t123_200 =>
 TakeG t122_199 true (fun k => k x9_170) (@hid _ ⟨fun t124_201 =>
 TakeG t122_199 true (fun k => BinT Tryd.prog S177 .sub 3 t124_201 (.int .i64 1) k) (@hid _ ⟨fun t125_202 =>
 TakeG t122_199 true (fun k => TakeS Tryd.prog S177 (Instr.indexAt 68 t123_200 t125_202) k) (@hid _ ⟨fun t126_203 =>
 TakeG t122_199 true (fun k => TakeS Tryd.prog S177 (Instr.fieldAt 73 t126_203 1) k) (@hid _ ⟨fun t127_204 =>
 TakeG t122_199 true (fun k => TakeS Tryd.prog S177 (Instr.loadAt 9 t127_204) k) (@hid _ ⟨fun t128_205 =>
 TakeG t122_199 true (fun k => k t62_142) (@hid _ ⟨fun t129_206 =>
 TakeG t122_199 true (fun k => k x9_170) (@hid _ ⟨fun t130_207 =>
 TakeG t122_199 true (fun k => TakeS Tryd.prog S177 (Instr.indexAt 68 t129_206 t130_207) k) (@hid _ ⟨fun t131_208 =>
 TakeG t122_199 true (fun k => TakeS Tryd.prog S177 (Instr.fieldAt 73 t131_208 1) k) (@hid _ ⟨fun t132_209 =>
 TakeG t122_199 true (fun k => TakeS Tryd.prog S177 (Instr.loadAt 9 t132_209) k) (@hid _ ⟨fun t133_210 =>
 TakeG t122_199 true (fun k => BinT Tryd.prog S177 .geq 9 t128_205 t133_210 k) (@hid _ ⟨fun t134_211 =>
 TakeG t108_186 false (fun k => PickT t122_199 t134_211 (.bool false) k) (@hid _ ⟨fun t135_212 =>
 PickT t108_186 (.bool true) t135_212 (@hid _ ⟨fun t136_213 =>
 BrK t136_213 (@hid _ ⟨
 R (.bool false) w178⟩) (@hid _ ⟨
 BinK Tryd.prog .add 3 x9_170 (.int .i64 1) (@hid _ ⟨fun t96_214 w215 =>
 B172 t96_214 w215⟩) w178⟩)⟩)⟩)⟩)⟩)⟩)⟩)⟩)⟩)⟩)⟩)⟩)⟩)⟩)⟩)⟩)⟩)⟩)⟩)⟩)⟩)⟩)⟩)⟩)⟩)⟩)⟩)⟩)⟩)⟩)⟩)⟩)⟩)⟩)⟩)⟩)⟩) w176⟩) (@hid _ ⟨
 R (.bool true) w176⟩)⟩) w174⟩) w171⟩)⟩)⟩)⟩)⟩)⟩)⟩)⟩)⟩)⟩)⟩)⟩)⟩)⟩)⟩)⟩)⟩)⟩)⟩)⟩)⟩)⟩)⟩)⟩)⟩)⟩)⟩) w143⟩) w141⟩) w139⟩) w137⟩) w135⟩) w133⟩) w25⟩)⟩) w23⟩) w20⟩)⟩)⟩) w14⟩) w12⟩) w10⟩) w8⟩) w6⟩) w4⟩)⟩) w2⟩) w0
def a8 : Ann := (.seq .no (.seq (.seq .no (.cond (.seq .no .no) .no)) (.seq (.seq .no (.cond (.seq .no .no) .no)) (.seq .no (.seq .no (.seq (.seq .no (.block (.loop [3, 4, 5] [(20, 55)] (.seq (.seq .no (.cond .no .no)) (.seq (.block (.cut [3] [(26, 45)] (.plan (.take 0 (.take 1 (.take 2 (.take 3 (.take 7 (.take 8 (.take 9 (.take 13 (.take 14 (.take 15 (.take 16 (.alt 4 (.alt 5 (.take 6 (.alt 10 (.alt 11 (.take 12 (.alt 17 (.alt 18 (.alt 19 (.take 20 .done) .nil) .nil) .nil)) .nil) .nil)) (.alt 10 (.alt 5 (.take 6 (.alt 11 (.take 12 (.alt 17 (.alt 18 (.alt 19 (.take 20 .done) .nil) .nil) .nil)) .nil)) (.alt 11 (.take 12 (.alt 5 (.take 6 (.alt 17 (.alt 18 (.alt 19 (.take 20 .done) .nil) .nil) .nil)) .nil)) .nil)) .nil)) (.alt 10 (.alt 4 (.alt 5 (.take 6 (.alt 11 (.take 12 (.alt 17 (.alt 18 (.alt 19 (.take 20 .done) .nil) .nil) .nil)) .nil)) (.alt 11 (.take 12 (.alt 5 (.take 6 (.alt 17 (.alt 18 (.alt 19 (.take 20 .done) .nil) .nil) .nil)) .nil)) .nil)) (.alt 11 (.take 12 (.alt 4 (.alt 5 (.take 6 (.alt 17 (.alt 18 (.alt 19 (.take 20 .done) .nil) .nil) .nil)) .nil) .nil)) .nil)) .nil)))))))))))))) (.seq (.plan (.take 0 (.take 1 (.take 2 (.take 3 (.take 4 (.take 5 (.take 6 (.take 7 (.take 8 .done)))))))))) (.cond .no .no)))) .no))))) (.seq .no (.seq .no (.seq (.seq (.plan (.take 0 (.take 1 (.take 2 (.take 3 (.take 4 (.take 5 (.take 6 (.take 7 (.take 8 (.take 9 (.take 10 (.take 11 (.take 12 (.take 13 (.take 14 (.take 15 (.take 16 (.take 17 (.take 18 (.take 19 (.take 20 (.take 21 (.take 22 (.take 23 (.take 24 (.take 25 (.take 26 (.take 27 .done))))))))))))))))))))))))))))) (.cond (.seq .no .no) .no)) (.seq (.seq .no (.block (.loop [9] [(2, 2), (91, 136)] (.seq (.seq .no (.cond .no .no)) (.seq (.block (.seq (.plan (.take 0 (.take 1 (.take 2 (.take 3 (.take 4 (.take 5 (.take 6 (.take 7 (.take 8 (.take 9 (.take 10 (.take 11 (.take 12 (.take 13 (.take 14 (.take 15 (.take 16 (.take 17 (.take 18 (.take 19 (.take 20 (.take 21 (.take 22 (.take 23 (.take 24 (.take 25 (.take 26 (.take 27 (.take 28 (.take 29 (.take 30 (.take 31 (.take 32 (.take 33 (.take 34 (.take 35 (.take 36 (.take 37 (.take 38 (.take 39 .done))))))))))))))))))))))))))))))))))))))))) (.cond (.seq .no .no) .no))) .no))))) (.seq .no .no)))))))))))
theorem F8_eq (x0 : Value) (R : Value → World → Prop) (w0 : World) : F8 x0 R w0 = vc Tryd.prog (bodyOf Tryd.f8) a8 (retQ Tryd.prog Tryd.f8 R) (envOf 0 [x0]) w0 := by kernel_rfl
theorem F8_calls (x0 : Value) (R : Value → World → Prop) (w0 : World) (h : F8 x0 R w0) : CallK Tryd.prog 8 #[x0] R w0 :=
 calls_vc (c := bodyOf Tryd.f8) Tryd.func8 (by kernel_rfl) (by kernel_rfl) a8 (by kernel_rfl) (by kernel_rfl) [x0] (by rw [Tryd.ntmps8]; exact Nat.le_of_ble_eq_true rfl) w0 R ((F8_eq x0 R w0).mp h)

/-- canton/cantonlaw14.known, its body as a formula. -/
def F9 (R : Value → World → Prop) (w0 : World) : Prop :=
 BuildK Tryd.prog 52 #[(0, (.int .i64 5)), (3, (.string { data := #[47, 122] }))] (@hid _ ⟨fun t7_1 w2 =>
 BuildK Tryd.prog 55 #[(0, (.string { data := #[97] })), (1, t7_1)] (@hid _ ⟨fun t8_3 w4 =>
 BuildK Tryd.prog 52 #[(0, (.int .i64 2)), (3, (.string { data := #[47, 122] }))] (@hid _ ⟨fun t9_5 w6 =>
 BuildK Tryd.prog 55 #[(0, (.string { data := #[98] })), (1, t9_5)] (@hid _ ⟨fun t10_7 w8 =>
 BuildSliceK Tryd.prog 22 2 #[(0, t8_3), (1, t10_7)] (@hid _ ⟨fun t11_9 w10 =>
 BuildK Tryd.prog 52 #[(0, (.int .i64 3)), (3, (.string { data := #[47, 122] }))] (@hid _ ⟨fun t12_11 w12 =>
 BuildK Tryd.prog 85 #[(0, (.string { data := #[98] })), (1, t12_11)] (@hid _ ⟨fun t13_13 w14 =>
 BuildK Tryd.prog 52 #[(0, (.int .i64 1)), (3, (.string { data := #[47, 122] }))] (@hid _ ⟨fun t14_15 w16 =>
 BuildK Tryd.prog 85 #[(0, (.string { data := #[99] })), (1, t14_15)] (@hid _ ⟨fun t15_17 w18 =>
 BuildSliceK Tryd.prog 23 2 #[(0, t13_13), (1, t15_17)] (@hid _ ⟨fun t16_19 w20 =>
 CallV Tryd.prog (.func (.func 16) #[] #[]) #[t11_9] (@hid _ ⟨fun t18_21 w22 =>
 CallV Tryd.prog (.func (.func 19) #[] #[]) #[t11_9, t16_19] (@hid _ ⟨fun t21_23 w24 =>
 CallV Tryd.prog (.func (.func 22) #[] #[]) #[t11_9, t16_19] (@hid _ ⟨fun t24_25 w26 =>
 BuildSliceK Tryd.prog 24 2 #[(0, (.string { data := #[98] })), (1, (.string { data := #[120] }))] (@hid _ ⟨fun t26_27 w28 =>
 CallV Tryd.prog (.func (.func 24) #[] #[]) #[t11_9, t26_27] (@hid _ ⟨fun t27_29 w30 =>
 BuiltinK Tryd.prog .len #[23] 3 #[false] #[t18_21] (@hid _ ⟨fun t29_31 w32 =>
 BinK Tryd.prog .eql 3 t29_31 (.int .i64 2) (@hid _ ⟨fun t30_33 w34 =>
 GuardK t30_33 true (fun k w => k t18_21 w) (@hid _ ⟨fun t32_35 w36 =>
 GuardK t30_33 true (fun k w => IndexAtK Tryd.prog 23 t32_35 (.int .i64 0) k w) (@hid _ ⟨fun t33_37 w38 =>
 GuardK t30_33 true (fun k w => FieldAtK Tryd.prog 85 t33_37 0 k w) (@hid _ ⟨fun t34_39 w40 =>
 GuardK t30_33 true (fun k w => LoadK Tryd.prog 9 t34_39 k w) (@hid _ ⟨fun t35_41 w42 =>
 GuardK t30_33 true (fun k w => BinK Tryd.prog .eql 9 t35_41 (.string { data := #[97] }) k w) (@hid _ ⟨fun t36_43 w44 =>
 PickK Tryd.prog t30_33 t36_43 (.bool false) (@hid _ ⟨fun t37_45 w46 =>
 GuardK t37_45 true (fun k w => k t21_23 w) (@hid _ ⟨fun t39_47 w48 =>
 GuardK t37_45 true (fun k w => BuiltinK Tryd.prog .len #[22] 3 #[false] #[t39_47] k w) (@hid _ ⟨fun t40_49 w50 =>
 GuardK t37_45 true (fun k w => BinK Tryd.prog .eql 3 t40_49 (.int .i64 1) k w) (@hid _ ⟨fun t41_51 w52 =>
 PickK Tryd.prog t37_45 t41_51 (.bool false) (@hid _ ⟨fun t42_53 w54 =>
 GuardK t42_53 true (fun k w => k t21_23 w) (@hid _ ⟨fun t44_55 w56 =>
 GuardK t42_53 true (fun k w => IndexAtK Tryd.prog 22 t44_55 (.int .i64 0) k w) (@hid _ ⟨fun t45_57 w58 =>
 GuardK t42_53 true (fun k w => FieldAtK Tryd.prog 55 t45_57 0 k w) (@hid _ ⟨fun t46_59 w60 =>
 GuardK t42_53 true (fun k w => LoadK Tryd.prog 9 t46_59 k w) (@hid _ ⟨fun t47_61 w62 =>
 GuardK t42_53 true (fun k w => BinK Tryd.prog .eql 9 t47_61 (.string { data := #[97] }) k w) (@hid _ ⟨fun t48_63 w64 =>
 PickK Tryd.prog t42_53 t48_63 (.bool false) (@hid _ ⟨fun t49_65 w66 =>
 GuardK t49_65 true (fun k w => k t24_25 w) (@hid _ ⟨fun t51_67 w68 =>
 GuardK t49_65 true (fun k w => BuiltinK Tryd.prog .len #[24] 3 #[false] #[t51_67] k w) (@hid _ ⟨fun t52_69 w70 =>
 GuardK t49_65 true (fun k w => BinK Tryd.prog .eql 3 t52_69 (.int .i64 2) k w) (@hid _ ⟨fun t53_71 w72 =>
 PickK Tryd.prog t49_65 t53_71 (.bool false) (@hid _ ⟨fun t54_73 w74 =>
 GuardK t54_73 true (fun k w => k t24_25 w) (@hid _ ⟨fun t56_75 w76 =>
 GuardK t54_73 true (fun k w => IndexAtK Tryd.prog 24 t56_75 (.int .i64 0) k w) (@hid _ ⟨fun t57_77 w78 =>
 GuardK t54_73 true (fun k w => LoadK Tryd.prog 9 t57_77 k w) (@hid _ ⟨fun t58_79 w80 =>
 GuardK t54_73 true (fun k w => BinK Tryd.prog .eql 9 t58_79 (.string { data := #[98] }) k w) (@hid _ ⟨fun t59_81 w82 =>
 PickK Tryd.prog t54_73 t59_81 (.bool false) (@hid _ ⟨fun t60_83 w84 =>
 GuardK t60_83 true (fun k w => k t24_25 w) (@hid _ ⟨fun t62_85 w86 =>
 GuardK t60_83 true (fun k w => IndexAtK Tryd.prog 24 t62_85 (.int .i64 1) k w) (@hid _ ⟨fun t63_87 w88 =>
 GuardK t60_83 true (fun k w => LoadK Tryd.prog 9 t63_87 k w) (@hid _ ⟨fun t64_89 w90 =>
 GuardK t60_83 true (fun k w => BinK Tryd.prog .eql 9 t64_89 (.string { data := #[99] }) k w) (@hid _ ⟨fun t65_91 w92 =>
 PickK Tryd.prog t60_83 t65_91 (.bool false) (@hid _ ⟨fun t66_93 w94 =>
 GuardK t66_93 true (fun k w => k t27_29 w) (@hid _ ⟨fun t68_95 w96 =>
 GuardK t66_93 true (fun k w => BuiltinK Tryd.prog .len #[22] 3 #[false] #[t68_95] k w) (@hid _ ⟨fun t69_97 w98 =>
 GuardK t66_93 true (fun k w => BinK Tryd.prog .eql 3 t69_97 (.int .i64 1) k w) (@hid _ ⟨fun t70_99 w100 =>
 PickK Tryd.prog t66_93 t70_99 (.bool false) (@hid _ ⟨fun t71_101 w102 =>
 GuardK t71_101 true (fun k w => k t27_29 w) (@hid _ ⟨fun t73_103 w104 =>
 GuardK t71_101 true (fun k w => IndexAtK Tryd.prog 22 t73_103 (.int .i64 0) k w) (@hid _ ⟨fun t74_105 w106 =>
 GuardK t71_101 true (fun k w => FieldAtK Tryd.prog 55 t74_105 0 k w) (@hid _ ⟨fun t75_107 w108 =>
 GuardK t71_101 true (fun k w => LoadK Tryd.prog 9 t75_107 k w) (@hid _ ⟨fun t76_109 w110 =>
 GuardK t71_101 true (fun k w => BinK Tryd.prog .eql 9 t76_109 (.string { data := #[98] }) k w) (@hid _ ⟨fun t77_111 w112 =>
 PickK Tryd.prog t71_101 t77_111 (.bool false) (@hid _ ⟨fun t78_113 w114 =>
 GuardK t78_113 true (fun k w => k t16_19 w) (@hid _ ⟨fun t80_115 w116 =>
 GuardK t78_113 true (fun k w => CallV Tryd.prog (.func (.func 13) #[] #[]) #[t80_115] k w) (@hid _ ⟨fun t81_117 w118 =>
 GuardK t78_113 true (fun k w => BinK Tryd.prog .eql 3 t81_117 (.int .i64 0) k w) (@hid _ ⟨fun t82_119 w120 =>
 PickK Tryd.prog t78_113 t82_119 (.bool false) (@hid _ ⟨fun t83_121 w122 =>
 GuardK t83_121 true (fun k w => BuildK Tryd.prog 85 #[(0, (.string { data := #[65] }))] k w) (@hid _ ⟨fun t85_123 w124 =>
 GuardK t83_121 true (fun k w => BuildSliceK Tryd.prog 23 1 #[(0, t85_123)] k w) (@hid _ ⟨fun t86_125 w126 =>
 GuardK t83_121 true (fun k w => CallV Tryd.prog (.func (.func 13) #[] #[]) #[t86_125] k w) (@hid _ ⟨fun t87_127 w128 =>
 GuardK t83_121 true (fun k w => BinK Tryd.prog .eql 3 t87_127 (.int .i64 5) k w) (@hid _ ⟨fun t88_129 w130 =>
 PickK Tryd.prog t83_121 t88_129 (.bool false) (@hid _ ⟨fun t89_131 w132 =>
 R t89_131 w132⟩) w130⟩) w128⟩) w126⟩) w124⟩) w122⟩) w120⟩) w118⟩) w116⟩) w114⟩) w112⟩) w110⟩) w108⟩) w106⟩) w104⟩) w102⟩) w100⟩) w98⟩) w96⟩) w94⟩) w92⟩) w90⟩) w88⟩) w86⟩) w84⟩) w82⟩) w80⟩) w78⟩) w76⟩) w74⟩) w72⟩) w70⟩) w68⟩) w66⟩) w64⟩) w62⟩) w60⟩) w58⟩) w56⟩) w54⟩) w52⟩) w50⟩) w48⟩) w46⟩) w44⟩) w42⟩) w40⟩) w38⟩) w36⟩) w34⟩) w32⟩) w30⟩) w28⟩) w26⟩) w24⟩) w22⟩) w20⟩) w18⟩) w16⟩) w14⟩) w12⟩) w10⟩) w8⟩) w6⟩) w4⟩) w2⟩) w0
def a9 : Ann := (.seq .no (.seq .no (.seq .no (.seq .no (.seq .no (.seq .no (.seq .no (.seq .no .no))))))))
theorem F9_eq (R : Value → World → Prop) (w0 : World) : F9  R w0 = vc Tryd.prog (bodyOf Tryd.f9) a9 (retQ Tryd.prog Tryd.f9 R) (envOf 0 []) w0 := by kernel_rfl
theorem F9_calls (R : Value → World → Prop) (w0 : World) (h : F9  R w0) : CallK Tryd.prog 9 #[] R w0 :=
 calls_vc (c := bodyOf Tryd.f9) Tryd.func9 (by kernel_rfl) (by kernel_rfl) a9 (by kernel_rfl) (by kernel_rfl) [] (by rw [Tryd.ntmps9]; exact Nat.le_of_ble_eq_true rfl) w0 R ((F9_eq  R w0).mp h)

/-- canton/cantonlaw14.Few, its body as a formula. -/
def F10 (x0 : Value) (R : Value → World → Prop) (w0 : World) : Prop :=
 BuiltinK Tryd.prog .len #[23] 3 #[false] #[x0] (@hid _ ⟨fun t5_1 w2 =>
 BinK Tryd.prog .gtr 3 t5_1 (.int .i64 70) (@hid _ ⟨fun t6_3 w4 =>
 BrK t6_3 (@hid _ ⟨
 R (.bool false) w4⟩) (@hid _ ⟨
 LoopK1 (.int .i64 0) w4 (@hid _ ⟨fun _ x3_5 w6 B7 =>
 BuiltinK Tryd.prog .len #[23] 3 #[false] #[x0] (@hid _ ⟨fun t9_8 w9 =>
 BinK Tryd.prog .lss 3 x3_5 t9_8 (@hid _ ⟨fun t10_10 w11 =>
 BrK t10_10 (@hid _ ⟨
 IndexAtK Tryd.prog 23 x0 x3_5 (@hid _ ⟨fun t15_12 w13 =>
 FieldAtK Tryd.prog 85 t15_12 0 (@hid _ ⟨fun t16_14 w15 =>
 LoadK Tryd.prog 9 t16_14 (@hid _ ⟨fun t17_16 w17 =>
 BuiltinK Tryd.prog .len #[9] 3 #[false] #[t17_16] (@hid _ ⟨fun t18_18 w19 =>
 BinK Tryd.prog .gtr 3 t18_18 (.int .i64 100) (@hid _ ⟨fun t19_20 w21 =>
 GuardK t19_20 false (fun k w => k x0 w) (@hid _ ⟨fun t21_22 w23 =>
 GuardK t19_20 false (fun k w => k x3_5 w) (@hid _ ⟨fun t22_24 w25 =>
 GuardK t19_20 false (fun k w => IndexAtK Tryd.prog 23 t21_22 t22_24 k w) (@hid _ ⟨fun t23_26 w27 =>
 GuardK t19_20 false (fun k w => FieldAtK Tryd.prog 85 t23_26 1 k w) (@hid _ ⟨fun t24_28 w29 =>
 GuardK t19_20 false (fun k w => FieldAtK Tryd.prog 52 t24_28 3 k w) (@hid _ ⟨fun t25_30 w31 =>
 GuardK t19_20 false (fun k w => LoadK Tryd.prog 9 t25_30 k w) (@hid _ ⟨fun t26_32 w33 =>
 GuardK t19_20 false (fun k w => BuiltinK Tryd.prog .len #[9] 3 #[false] #[t26_32] k w) (@hid _ ⟨fun t27_34 w35 =>
 GuardK t19_20 false (fun k w => BinK Tryd.prog .gtr 3 t27_34 (.int .i64 100) k w) (@hid _ ⟨fun t28_36 w37 =>
 PickK Tryd.prog t19_20 (.bool true) t28_36 (@hid _ ⟨fun t29_38 w39 =>
 BrK t29_38 (@hid _ ⟨
 R (.bool false) w39⟩) (@hid _ ⟨
 BinK Tryd.prog .add 3 x3_5 (.int .i64 1) (@hid _ ⟨fun t12_40 w41 =>
 B7 t12_40 w41⟩) w39⟩)⟩) w37⟩) w35⟩) w33⟩) w31⟩) w29⟩) w27⟩) w25⟩) w23⟩) w21⟩) w19⟩) w17⟩) w15⟩) w13⟩) w11⟩) (@hid _ ⟨
 R (.bool true) w11⟩)⟩) w9⟩) w6⟩)⟩)⟩) w2⟩) w0
def a10 : Ann := (.seq .no (.seq (.seq .no (.cond (.seq .no .no) .no)) (.seq (.seq .no (.block (.loop [3] [(2, 2), (7, 29)] (.seq (.seq .no (.cond .no .no)) (.seq (.block (.seq .no (.cond (.seq .no .no) .no))) .no))))) (.seq .no .no))))
theorem F10_eq (x0 : Value) (R : Value → World → Prop) (w0 : World) : F10 x0 R w0 = vc Tryd.prog (bodyOf Tryd.f10) a10 (retQ Tryd.prog Tryd.f10 R) (envOf 0 [x0]) w0 := by kernel_rfl
theorem F10_calls (x0 : Value) (R : Value → World → Prop) (w0 : World) (h : F10 x0 R w0) : CallK Tryd.prog 10 #[x0] R w0 :=
 calls_vc (c := bodyOf Tryd.f10) Tryd.func10 (by kernel_rfl) (by kernel_rfl) a10 (by kernel_rfl) (by kernel_rfl) [x0] (by rw [Tryd.ntmps10]; exact Nat.le_of_ble_eq_true rfl) w0 R ((F10_eq x0 R w0).mp h)

/-- canton/cantonref21.CheckMarks, its body as a formula. -/
def F11 (x0 : Value) (R : Value → World → Prop) (w0 : World) : Prop :=
 BuiltinK Tryd.prog .len #[28] 3 #[false] #[x0] (@hid _ ⟨fun t6_1 w2 =>
 BinK Tryd.prog .gtr 3 t6_1 (.int .i64 64) (@hid _ ⟨fun t7_3 w4 =>
 BrK t7_3 (@hid _ ⟨
 R (.int .i64 4) w4⟩) (@hid _ ⟨
 LoopK1 (.int .i64 0) w4 (@hid _ ⟨fun _ x3_5 w6 B7 =>
 BuiltinK Tryd.prog .len #[28] 3 #[false] #[x0] (@hid _ ⟨fun t10_8 w9 =>
 BinK Tryd.prog .lss 3 x3_5 t10_8 (@hid _ ⟨fun t11_10 w11 =>
 BrK t11_10 (@hid _ ⟨
 IndexAtK Tryd.prog 28 x0 x3_5 (@hid _ ⟨fun t16_12 w13 =>
 FieldAtK Tryd.prog 40 t16_12 1 (@hid _ ⟨fun t17_14 w15 =>
 LoadK Tryd.prog 38 t17_14 (@hid _ ⟨fun t18_16 w17 =>
 CallV Tryd.prog (.func (.func 36) #[] #[]) #[t18_16] (@hid _ ⟨fun t19_18 w19 =>
 IndexAtK Tryd.prog 28 x0 x3_5 (@hid _ ⟨fun t23_20 w21 =>
 FieldAtK Tryd.prog 40 t23_20 0 (@hid _ ⟨fun t24_22 w23 =>
 LoadK Tryd.prog 9 t24_22 (@hid _ ⟨fun t25_24 w25 =>
 CallV Tryd.prog (.func (.func 37) #[] #[]) #[t25_24] (@hid _ ⟨fun t26_26 w27 =>
 UnK Tryd.prog .not t26_26 (@hid _ ⟨fun t27_28 w29 =>
 BrK t27_28 (@hid _ ⟨
 R (.int .i64 5) w29⟩) (@hid _ ⟨
 DrawK (@hid _ ⟨fun S30 w31 =>
 BinT Tryd.prog S30 .gtr 3 x3_5 (.int .i64 0) (@hid _ ⟨fun t30_32 =>
 TakeG t30_32 true (fun k => k x0) (@hid _ ⟨fun t32_33 =>
 TakeG t30_32 true (fun k => k x3_5) (@hid _ ⟨fun t33_34 =>
 TakeG t30_32 true (fun k => BinT Tryd.prog S30 .sub 3 t33_34 (.int .i64 1) k) (@hid _ ⟨fun t34_35 =>
 TakeG t30_32 true (fun k => TakeS Tryd.prog S30 (Instr.indexAt 28 t32_33 t34_35) k) (@hid _ ⟨fun t35_36 =>
 TakeG t30_32 true (fun k => TakeS Tryd.prog S30 (Instr.fieldAt 40 t35_36 0) k) (@hid _ ⟨fun t36_37 =>
 TakeG t30_32 true (fun k => TakeS Tryd.prog S30 (Instr.loadAt 9 t36_37) k) (@hid _ ⟨fun t37_38 =>
 TakeG t30_32 true (fun k => k x0) (@hid _ ⟨fun t38_39 =>
 TakeG t30_32 true (fun k => k x3_5) (@hid _ ⟨fun t39_40 =>
 TakeG t30_32 true (fun k => TakeS Tryd.prog S30 (Instr.indexAt 28 t38_39 t39_40) k) (@hid _ ⟨fun t40_41 =>
 TakeG t30_32 true (fun k => TakeS Tryd.prog S30 (Instr.fieldAt 40 t40_41 0) k) (@hid _ ⟨fun t41_42 =>
 TakeG t30_32 true (fun k => TakeS Tryd.prog S30 (Instr.loadAt 9 t41_42) k) (@hid _ ⟨fun t42_43 =>
 TakeG t30_32 true (fun k => BinT Tryd.prog S30 .geq 9 t37_38 t42_43 k) (@hid _ ⟨fun t43_44 =>
 PickT t30_32 t43_44 (.bool false) (@hid _ ⟨fun t44_45 =>
 BrK t44_45 (@hid _ ⟨
 R (.int .i64 6) w31⟩) (@hid _ ⟨
 BinK Tryd.prog .neq 3 t19_18 (.int .i64 0) (@hid _ ⟨fun t47_46 w47 =>
 BrK t47_46 (@hid _ ⟨
 R t19_18 w47⟩) (@hid _ ⟨
 BinK Tryd.prog .add 3 x3_5 (.int .i64 1) (@hid _ ⟨fun t13_48 w49 =>
 B7 t13_48 w49⟩) w47⟩)⟩) w31⟩)⟩)⟩)⟩)⟩)⟩)⟩)⟩)⟩)⟩)⟩)⟩)⟩)⟩)⟩)⟩) w29⟩)⟩) w27⟩) w25⟩) w23⟩) w21⟩) w19⟩) w17⟩) w15⟩) w13⟩) w11⟩) (@hid _ ⟨
 R (.int .i64 0) w11⟩)⟩) w9⟩) w6⟩)⟩)⟩) w2⟩) w0
def a11 : Ann := (.seq .no (.seq (.seq .no (.cond (.seq .no .no) .no)) (.seq (.seq .no (.block (.loop [3] [(2, 2), (4, 4), (8, 48)] (.seq (.seq .no (.cond .no .no)) (.seq (.block (.seq .no (.block (.seq .no (.cond (.seq .no .no) (.seq (.plan (.take 0 (.take 1 (.take 2 (.take 3 (.take 4 (.take 5 (.take 6 (.take 7 (.take 8 (.take 9 (.take 10 (.take 11 (.take 12 (.take 13 (.take 14 (.take 15 (.take 16 .done)))))))))))))))))) (.cond (.seq .no .no) (.seq .no (.cond (.seq .no .no) .no))))))))) .no))))) (.seq .no .no))))
theorem F11_eq (x0 : Value) (R : Value → World → Prop) (w0 : World) : F11 x0 R w0 = vc Tryd.prog (bodyOf Tryd.f11) a11 (retQ Tryd.prog Tryd.f11 R) (envOf 0 [x0]) w0 := by kernel_rfl
theorem F11_calls (x0 : Value) (R : Value → World → Prop) (w0 : World) (h : F11 x0 R w0) : CallK Tryd.prog 11 #[x0] R w0 :=
 calls_vc (c := bodyOf Tryd.f11) Tryd.func11 (by kernel_rfl) (by kernel_rfl) a11 (by kernel_rfl) (by kernel_rfl) [x0] (by rw [Tryd.ntmps11]; exact Nat.le_of_ble_eq_true rfl) w0 R ((F11_eq x0 R w0).mp h)

/-- canton/cantonlaw14.Of, its body as a formula. -/
def F12 (x0 : Value) (R : Value → World → Prop) (w0 : World) : Prop :=
 LoopK2 (.slice none 0 0) (.int .i64 0) w0 (@hid _ ⟨fun _ x3_1 x4_2 w3 B4 =>
 BuiltinK Tryd.prog .len #[23] 3 #[false] #[x0] (@hid _ ⟨fun t7_5 w6 =>
 BinK Tryd.prog .lss 3 x4_2 t7_5 (@hid _ ⟨fun t8_7 w8 =>
 BrK t8_7 (@hid _ ⟨
 DrawK (@hid _ ⟨fun S9 w10 =>
 TakeS Tryd.prog S9 (Instr.indexAt 23 x0 x4_2) (@hid _ ⟨fun t14_11 =>
 TakeS Tryd.prog S9 (Instr.fieldAt 85 t14_11 0) (@hid _ ⟨fun t15_12 =>
 TakeS Tryd.prog S9 (Instr.loadAt 9 t15_12) (@hid _ ⟨fun t16_13 =>
 TakeS Tryd.prog S9 (Instr.indexAt 23 x0 x4_2) (@hid _ ⟨fun t19_14 =>
 TakeS Tryd.prog S9 (Instr.fieldAt 85 t19_14 1) (@hid _ ⟨fun t20_15 =>
 TakeS Tryd.prog S9 (Instr.loadAt 52 t20_15) (@hid _ ⟨fun t21_16 =>
 (CallV Tryd.prog (.func (.func 38) #[] #[]) #[t21_16] (@hid _ ⟨fun t22_17 w18 =>
 S9 w18 ∧
 (BuildK Tryd.prog 40 #[(0, t16_13), (1, t22_17)] (@hid _ ⟨fun t23_19 w20 =>
 S9 w20 ∧
 (BuildSliceK Tryd.prog 28 1 #[(0, t23_19)] (@hid _ ⟨fun t24_21 w22 =>
 S9 w22 ∧
 (BuiltinK Tryd.prog .append #[28, 28] 28 #[false, false] #[x3_1, t24_21] (@hid _ ⟨fun t25_23 w24 =>
 S9 w24 ∧
 BinK Tryd.prog .add 3 x4_2 (.int .i64 1) (@hid _ ⟨fun t10_25 w26 =>
 B4 t25_23 t10_25 w26⟩) w24⟩) w22) ∧
 True⟩) w20) ∧
 True⟩) w18) ∧
 True⟩) w10) ∧
 True⟩)⟩)⟩)⟩)⟩)⟩)⟩) w8⟩) (@hid _ ⟨
 R x3_1 w8⟩)⟩) w6⟩) w3⟩)
def a12 : Ann := (.seq .no (.seq .no (.seq (.seq .no (.block (.loop [3, 4] [(5, 25)] (.seq (.seq .no (.cond .no .no)) (.seq (.block (.plan (.take 0 (.take 1 (.take 2 (.take 3 (.take 4 (.take 5 (.take 6 (.take 7 (.take 8 (.take 9 (.take 10 (.alt 11 (.alt 12 (.alt 13 (.alt 14 (.take 15 .done) .nil) .nil) .nil) .nil)))))))))))))) .no))))) (.seq .no .no))))
theorem F12_eq (x0 : Value) (R : Value → World → Prop) (w0 : World) : F12 x0 R w0 = vc Tryd.prog (bodyOf Tryd.f12) a12 (retQ Tryd.prog Tryd.f12 R) (envOf 0 [x0]) w0 := by kernel_rfl
theorem F12_calls (x0 : Value) (R : Value → World → Prop) (w0 : World) (h : F12 x0 R w0) : CallK Tryd.prog 12 #[x0] R w0 :=
 calls_vc (c := bodyOf Tryd.f12) Tryd.func12 (by kernel_rfl) (by kernel_rfl) a12 (by kernel_rfl) (by kernel_rfl) [x0] (by rw [Tryd.ntmps12]; exact Nat.le_of_ble_eq_true rfl) w0 R ((F12_eq x0 R w0).mp h)

/-- canton/digest.Check, its body as a formula. -/
def F13 (x0 : Value) (R : Value → World → Prop) (w0 : World) : Prop :=
 BuiltinK Tryd.prog .len #[23] 3 #[false] #[x0] (@hid _ ⟨fun t7_1 w2 =>
 BinK Tryd.prog .gtr 3 t7_1 (.int .i64 64) (@hid _ ⟨fun t8_3 w4 =>
 BrK t8_3 (@hid _ ⟨
 R (.int .i64 4) w4⟩) (@hid _ ⟨
 BuiltinK Tryd.prog .len #[23] 3 #[false] #[x0] (@hid _ ⟨fun t10_5 w6 =>
 LoopK1 (.int .i64 0) w6 (@hid _ ⟨fun _ x11_7 w8 B9 =>
 BinK Tryd.prog .lss 3 x11_7 t10_5 (@hid _ ⟨fun t12_10 w11 =>
 BrK t12_10 (@hid _ ⟨
 IndexAtK Tryd.prog 23 x0 x11_7 (@hid _ ⟨fun t14_12 w13 =>
 LoadK Tryd.prog 85 t14_12 (@hid _ ⟨fun t15_14 w15 =>
 AllocK Tryd.prog 85 (@hid _ ⟨fun t4_16 w17 =>
 StoreK Tryd.prog 85 t4_16 t15_14 (@hid _ ⟨fun tu_18 w19 =>
 FieldAtK Tryd.prog 85 t4_16 0 (@hid _ ⟨fun t17_20 w21 =>
 LoadK Tryd.prog 9 t17_20 (@hid _ ⟨fun t18_22 w23 =>
 CallV Tryd.prog (.func (.func 39) #[] #[]) #[t18_22] (@hid _ ⟨fun t19_24 w25 =>
 UnK Tryd.prog .not t19_24 (@hid _ ⟨fun t20_26 w27 =>
 BrK t20_26 (@hid _ ⟨
 R (.int .i64 5) w27⟩) (@hid _ ⟨
 DrawK (@hid _ ⟨fun S28 w29 =>
 BinT Tryd.prog S28 .gtr 3 x11_7 (.int .i64 0) (@hid _ ⟨fun t23_30 =>
 TakeG t23_30 true (fun k => k x0) (@hid _ ⟨fun t25_31 =>
 TakeG t23_30 true (fun k => k x11_7) (@hid _ ⟨fun t26_32 =>
 TakeG t23_30 true (fun k => BinT Tryd.prog S28 .sub 3 t26_32 (.int .i64 1) k) (@hid _ ⟨fun t27_33 =>
 TakeG t23_30 true (fun k => TakeS Tryd.prog S28 (Instr.indexAt 23 t25_31 t27_33) k) (@hid _ ⟨fun t28_34 =>
 TakeG t23_30 true (fun k => TakeS Tryd.prog S28 (Instr.fieldAt 85 t28_34 0) k) (@hid _ ⟨fun t29_35 =>
 TakeG t23_30 true (fun k => TakeS Tryd.prog S28 (Instr.loadAt 9 t29_35) k) (@hid _ ⟨fun t30_36 =>
 TakeG t23_30 true (fun k => TakeS Tryd.prog S28 (Instr.fieldAt 85 t4_16 0) k) (@hid _ ⟨fun t31_37 =>
 TakeG t23_30 true (fun k => TakeS Tryd.prog S28 (Instr.loadAt 9 t31_37) k) (@hid _ ⟨fun t32_38 =>
 (GuardK t23_30 true (fun k w => CallV Tryd.prog (.func (.func 40) #[] #[]) #[t30_36, t32_38] k w) (@hid _ ⟨fun t33_39 w40 =>
 S28 w40 ∧
 TakeG t23_30 true (fun k => BinT Tryd.prog S28 .geq 3 t33_39 (.int .i64 0) k) (@hid _ ⟨fun t34_41 =>
 PickT t23_30 t34_41 (.bool false) (@hid _ ⟨fun t35_42 =>
 BrK t35_42 (@hid _ ⟨
 R (.int .i64 6) w40⟩) (@hid _ ⟨
 FieldAtK Tryd.prog 85 t4_16 1 (@hid _ ⟨fun t36_43 w44 =>
 LoadK Tryd.prog 52 t36_43 (@hid _ ⟨fun t37_45 w46 =>
 CallV Tryd.prog (.func (.func 41) #[] #[]) #[t37_45] (@hid _ ⟨fun t38_47 w48 =>
 BinK Tryd.prog .neq 30 t38_47 (.int .i64 0) (@hid _ ⟨fun t40_49 w50 =>
 BrK t40_49 (@hid _ ⟨
 R t38_47 w50⟩) (@hid _ ⟨
 BinK Tryd.prog .add 3 x11_7 (.int .i64 1) (@hid _ ⟨fun t42_51 w52 =>
 B9 t42_51 w52⟩) w50⟩)⟩) w48⟩) w46⟩) w44⟩) w40⟩)⟩)⟩)⟩) w29) ∧
 True⟩)⟩)⟩)⟩)⟩)⟩)⟩)⟩)⟩)⟩) w27⟩)⟩) w25⟩) w23⟩) w21⟩) w19⟩) w17⟩) w15⟩) w13⟩) w11⟩) (@hid _ ⟨
 R (.int .i64 0) w11⟩)⟩) w8⟩)⟩) w4⟩)⟩) w2⟩) w0
def a13 : Ann := (.seq .no (.seq (.seq .no (.cond (.seq .no .no) .no)) (.seq (.seq .no (.block (.loop [11] [(2, 5), (12, 42)] (.seq .no (.seq (.cond .no .no) (.seq (.block (.seq .no (.seq (.block (.seq .no (.cond (.seq .no .no) (.seq (.plan (.take 0 (.take 1 (.take 2 (.take 3 (.take 4 (.take 5 (.take 6 (.take 7 (.take 8 (.take 9 (.take 10 (.alt 11 (.take 12 (.take 13 (.take 14 .done))) .nil))))))))))))) (.cond (.seq .no .no) .no))))) (.seq .no (.seq .no (.cond (.seq .no .no) .no)))))) .no)))))) (.seq .no .no))))
theorem F13_eq (x0 : Value) (R : Value → World → Prop) (w0 : World) : F13 x0 R w0 = vc Tryd.prog (bodyOf Tryd.f13) a13 (retQ Tryd.prog Tryd.f13 R) (envOf 0 [x0]) w0 := by kernel_rfl
theorem F13_calls (x0 : Value) (R : Value → World → Prop) (w0 : World) (h : F13 x0 R w0) : CallK Tryd.prog 13 #[x0] R w0 :=
 calls_vc (c := bodyOf Tryd.f13) Tryd.func13 (by kernel_rfl) (by kernel_rfl) a13 (by kernel_rfl) (by kernel_rfl) [x0] (by rw [Tryd.ntmps13]; exact Nat.le_of_ble_eq_true rfl) w0 R ((F13_eq x0 R w0).mp h)

/-- canton/cantonlaw14.Rise, its body as a formula. -/
def F14 (x0 : Value) (R : Value → World → Prop) (w0 : World) : Prop :=
 CallV Tryd.prog (.func (.func 42) #[] #[]) #[x0] (@hid _ ⟨fun t5_1 w2 =>
 UnK Tryd.prog .not t5_1 (@hid _ ⟨fun t6_3 w4 =>
 GuardK t6_3 false (fun k w => k x0 w) (@hid _ ⟨fun t8_5 w6 =>
 GuardK t6_3 false (fun k w => BuiltinK Tryd.prog .len #[22] 3 #[false] #[t8_5] k w) (@hid _ ⟨fun t9_7 w8 =>
 GuardK t6_3 false (fun k w => BinK Tryd.prog .gtr 3 t9_7 (.int .i64 64) k w) (@hid _ ⟨fun t10_9 w10 =>
 PickK Tryd.prog t6_3 (.bool true) t10_9 (@hid _ ⟨fun t11_11 w12 =>
 BrK t11_11 (@hid _ ⟨
 R (.bool false) w12⟩) (@hid _ ⟨
 LoopK1 (.int .i64 0) w12 (@hid _ ⟨fun _ x3_13 w14 B15 =>
 BuiltinK Tryd.prog .len #[22] 3 #[false] #[x0] (@hid _ ⟨fun t14_16 w17 =>
 BinK Tryd.prog .lss 3 x3_13 t14_16 (@hid _ ⟨fun t15_18 w19 =>
 BrK t15_18 (@hid _ ⟨
 DrawK (@hid _ ⟨fun S20 w21 =>
 TakeS Tryd.prog S20 (Instr.indexAt 22 x0 x3_13) (@hid _ ⟨fun t20_22 =>
 TakeS Tryd.prog S20 (Instr.loadAt 55 t20_22) (@hid _ ⟨fun t21_23 =>
 (CallV Tryd.prog (.func (.func 44) #[] #[]) #[t21_23] (@hid _ ⟨fun t22_24 w25 =>
 S20 w25 ∧
 (CallV Tryd.prog (.func (.func 43) #[] #[]) #[t22_24] (@hid _ ⟨fun t23_26 w27 =>
 S20 w27 ∧
 BinT Tryd.prog S20 .neq 3 t23_26 (.int .i64 0) (@hid _ ⟨fun t24_28 =>
 TakeG t24_28 false (fun k => k x3_13) (@hid _ ⟨fun t26_29 =>
 TakeG t24_28 false (fun k => BinT Tryd.prog S20 .gtr 3 t26_29 (.int .i64 0) k) (@hid _ ⟨fun t27_30 =>
 TakeG t24_28 false (fun k => k t27_30) (@hid _ ⟨fun t28_31 =>
 TakeG t28_31 true (fun k => k x0) (@hid _ ⟨fun t29_32 =>
 TakeG t28_31 true (fun k => k x3_13) (@hid _ ⟨fun t30_33 =>
 TakeG t28_31 true (fun k => BinT Tryd.prog S20 .sub 3 t30_33 (.int .i64 1) k) (@hid _ ⟨fun t31_34 =>
 TakeG t28_31 true (fun k => TakeS Tryd.prog S20 (Instr.indexAt 22 t29_32 t31_34) k) (@hid _ ⟨fun t32_35 =>
 TakeG t28_31 true (fun k => TakeS Tryd.prog S20 (Instr.fieldAt 55 t32_35 0) k) (@hid _ ⟨fun t33_36 =>
 TakeG t28_31 true (fun k => TakeS Tryd.prog S20 (Instr.loadAt 9 t33_36) k) (@hid _ ⟨fun t34_37 =>
 TakeG t28_31 true (fun k => k x0) (@hid _ ⟨fun t35_38 =>
 TakeG t28_31 true (fun k => k x3_13) (@hid _ ⟨fun t36_39 =>
 TakeG t28_31 true (fun k => TakeS Tryd.prog S20 (Instr.indexAt 22 t35_38 t36_39) k) (@hid _ ⟨fun t37_40 =>
 TakeG t28_31 true (fun k => TakeS Tryd.prog S20 (Instr.fieldAt 55 t37_40 0) k) (@hid _ ⟨fun t38_41 =>
 TakeG t28_31 true (fun k => TakeS Tryd.prog S20 (Instr.loadAt 9 t38_41) k) (@hid _ ⟨fun t39_42 =>
 TakeG t28_31 true (fun k => BinT Tryd.prog S20 .geq 9 t34_37 t39_42 k) (@hid _ ⟨fun t40_43 =>
 TakeG t24_28 false (fun k => PickT t28_31 t40_43 (.bool false) k) (@hid _ ⟨fun t41_44 =>
 PickT t24_28 (.bool true) t41_44 (@hid _ ⟨fun t42_45 =>
 BrK t42_45 (@hid _ ⟨
 R (.bool false) w27⟩) (@hid _ ⟨
 BinK Tryd.prog .add 3 x3_13 (.int .i64 1) (@hid _ ⟨fun t17_46 w47 =>
 B15 t17_46 w47⟩) w27⟩)⟩)⟩)⟩)⟩)⟩)⟩)⟩)⟩)⟩)⟩)⟩)⟩)⟩)⟩)⟩)⟩)⟩)⟩)⟩) w25) ∧
 True⟩) w21) ∧
 True⟩)⟩)⟩) w19⟩) (@hid _ ⟨
 R (.bool true) w19⟩)⟩) w17⟩) w14⟩)⟩)⟩) w10⟩) w8⟩) w6⟩) w4⟩) w2⟩) w0
def a14 : Ann := (.seq .no (.seq (.seq .no (.cond (.seq .no .no) .no)) (.seq (.seq .no (.block (.loop [3] [(2, 2), (12, 42)] (.seq (.seq .no (.cond .no .no)) (.seq (.block (.seq (.plan (.take 0 (.take 1 (.take 2 (.take 3 (.alt 4 (.alt 5 (.take 6 (.take 7 (.take 8 (.take 9 (.take 10 (.take 11 (.take 12 (.take 13 (.take 14 (.take 15 (.take 16 (.take 17 (.take 18 (.take 19 (.take 20 (.take 21 (.take 22 (.take 23 (.take 24 .done))))))))))))))))))) .nil) .nil)))))) (.cond (.seq .no .no) .no))) .no))))) (.seq .no .no))))
theorem F14_eq (x0 : Value) (R : Value → World → Prop) (w0 : World) : F14 x0 R w0 = vc Tryd.prog (bodyOf Tryd.f14) a14 (retQ Tryd.prog Tryd.f14 R) (envOf 0 [x0]) w0 := by kernel_rfl
theorem F14_calls (x0 : Value) (R : Value → World → Prop) (w0 : World) (h : F14 x0 R w0) : CallK Tryd.prog 14 #[x0] R w0 :=
 calls_vc (c := bodyOf Tryd.f14) Tryd.func14 (by kernel_rfl) (by kernel_rfl) a14 (by kernel_rfl) (by kernel_rfl) [x0] (by rw [Tryd.ntmps14]; exact Nat.le_of_ble_eq_true rfl) w0 R ((F14_eq x0 R w0).mp h)

/-- canton/cantonlaw4.OfRows, its body as a formula. -/
def F15 (x0 : Value) (R : Value → World → Prop) (w0 : World) : Prop :=
 LoopK2 (.slice none 0 0) (.int .i64 0) w0 (@hid _ ⟨fun _ x3_1 x4_2 w3 B4 =>
 BuiltinK Tryd.prog .len #[22] 3 #[false] #[x0] (@hid _ ⟨fun t7_5 w6 =>
 BinK Tryd.prog .lss 3 x4_2 t7_5 (@hid _ ⟨fun t8_7 w8 =>
 BrK t8_7 (@hid _ ⟨
 IndexAtK Tryd.prog 22 x0 x4_2 (@hid _ ⟨fun t14_9 w10 =>
 LoadK Tryd.prog 55 t14_9 (@hid _ ⟨fun t15_11 w12 =>
 CallV Tryd.prog (.func (.func 44) #[] #[]) #[t15_11] (@hid _ ⟨fun t16_13 w14 =>
 BuildSliceK Tryd.prog 33 1 #[(0, t16_13)] (@hid _ ⟨fun t17_15 w16 =>
 BuiltinK Tryd.prog .append #[33, 33] 33 #[false, false] #[x3_1, t17_15] (@hid _ ⟨fun t18_17 w18 =>
 BinK Tryd.prog .add 3 x4_2 (.int .i64 1) (@hid _ ⟨fun t10_19 w20 =>
 B4 t18_17 t10_19 w20⟩) w18⟩) w16⟩) w14⟩) w12⟩) w10⟩) w8⟩) (@hid _ ⟨
 R x3_1 w8⟩)⟩) w6⟩) w3⟩)
def a15 : Ann := (.seq .no (.seq .no (.seq (.seq .no (.block (.loop [3, 4] [(5, 18)] (.seq (.seq .no (.cond .no .no)) (.seq (.block .no) .no))))) (.seq .no .no))))
theorem F15_eq (x0 : Value) (R : Value → World → Prop) (w0 : World) : F15 x0 R w0 = vc Tryd.prog (bodyOf Tryd.f15) a15 (retQ Tryd.prog Tryd.f15 R) (envOf 0 [x0]) w0 := by kernel_rfl
theorem F15_calls (x0 : Value) (R : Value → World → Prop) (w0 : World) (h : F15 x0 R w0) : CallK Tryd.prog 15 #[x0] R w0 :=
 calls_vc (c := bodyOf Tryd.f15) Tryd.func15 (by kernel_rfl) (by kernel_rfl) a15 (by kernel_rfl) (by kernel_rfl) [x0] (by rw [Tryd.ntmps15]; exact Nat.le_of_ble_eq_true rfl) w0 R ((F15_eq x0 R w0).mp h)

/-- canton/digest.Of, its body as a formula. -/
def F16 (x0 : Value) (R : Value → World → Prop) (w0 : World) : Prop :=
 BuiltinK Tryd.prog .len #[22] 3 #[false] #[x0] (@hid _ ⟨fun t7_1 w2 =>
 LoopK2 (.slice none 0 0) (.int .i64 0) w2 (@hid _ ⟨fun _ x3_3 x8_4 w5 B6 =>
 BinK Tryd.prog .lss 3 x8_4 t7_1 (@hid _ ⟨fun t9_7 w8 =>
 BrK t9_7 (@hid _ ⟨
 IndexAtK Tryd.prog 22 x0 x8_4 (@hid _ ⟨fun t10_9 w10 =>
 LoadK Tryd.prog 55 t10_9 (@hid _ ⟨fun t11_11 w12 =>
 AllocK Tryd.prog 55 (@hid _ ⟨fun t5_13 w14 =>
 StoreK Tryd.prog 55 t5_13 t11_11 (@hid _ ⟨fun tu_15 w16 =>
 FieldAtK Tryd.prog 55 t5_13 0 (@hid _ ⟨fun t13_17 w18 =>
 LoadK Tryd.prog 9 t13_17 (@hid _ ⟨fun t14_19 w20 =>
 FieldAtK Tryd.prog 55 t5_13 1 (@hid _ ⟨fun t15_21 w22 =>
 LoadK Tryd.prog 52 t15_21 (@hid _ ⟨fun t16_23 w24 =>
 BuildK Tryd.prog 85 #[(0, t14_19), (1, t16_23)] (@hid _ ⟨fun t17_25 w26 =>
 BuildSliceK Tryd.prog 23 1 #[(0, t17_25)] (@hid _ ⟨fun t18_27 w28 =>
 BuiltinK Tryd.prog .append #[23, 23] 23 #[false, false] #[x3_3, t18_27] (@hid _ ⟨fun t19_29 w30 =>
 BinK Tryd.prog .add 3 x8_4 (.int .i64 1) (@hid _ ⟨fun t20_31 w32 =>
 B6 t19_29 t20_31 w32⟩) w30⟩) w28⟩) w26⟩) w24⟩) w22⟩) w20⟩) w18⟩) w16⟩) w14⟩) w12⟩) w10⟩) w8⟩) (@hid _ ⟨
 CallV Tryd.prog (.func (.func 45) #[] #[]) #[x3_3] (@hid _ ⟨fun t22_33 w34 =>
 R t22_33 w34⟩) w8⟩)⟩) w5⟩)⟩) w0
def a16 : Ann := (.seq .no (.seq .no (.seq (.seq .no (.block (.loop [3, 8] [(5, 5), (9, 20)] (.seq .no (.seq (.cond .no .no) (.seq (.block (.seq .no .no)) .no)))))) (.seq .no .no))))
theorem F16_eq (x0 : Value) (R : Value → World → Prop) (w0 : World) : F16 x0 R w0 = vc Tryd.prog (bodyOf Tryd.f16) a16 (retQ Tryd.prog Tryd.f16 R) (envOf 0 [x0]) w0 := by kernel_rfl
theorem F16_calls (x0 : Value) (R : Value → World → Prop) (w0 : World) (h : F16 x0 R w0) : CallK Tryd.prog 16 #[x0] R w0 :=
 calls_vc (c := bodyOf Tryd.f16) Tryd.func16 (by kernel_rfl) (by kernel_rfl) a16 (by kernel_rfl) (by kernel_rfl) [x0] (by rw [Tryd.ntmps16]; exact Nat.le_of_ble_eq_true rfl) w0 R ((F16_eq x0 R w0).mp h)

/-- canton/cantonref21.Marks, its body as a formula. -/
def F17 (x0 : Value) (R : Value → World → Prop) (w0 : World) : Prop :=
 LoopK2 (.slice none 0 0) (.int .i64 0) w0 (@hid _ ⟨fun _ x3_1 x4_2 w3 B4 =>
 BuiltinK Tryd.prog .len #[33] 3 #[false] #[x0] (@hid _ ⟨fun t7_5 w6 =>
 BinK Tryd.prog .lss 3 x4_2 t7_5 (@hid _ ⟨fun t8_7 w8 =>
 BrK t8_7 (@hid _ ⟨
 DrawK (@hid _ ⟨fun S9 w10 =>
 TakeS Tryd.prog S9 (Instr.indexAt 33 x0 x4_2) (@hid _ ⟨fun t14_11 =>
 TakeS Tryd.prog S9 (Instr.fieldAt 65 t14_11 0) (@hid _ ⟨fun t15_12 =>
 TakeS Tryd.prog S9 (Instr.loadAt 9 t15_12) (@hid _ ⟨fun t16_13 =>
 TakeS Tryd.prog S9 (Instr.indexAt 33 x0 x4_2) (@hid _ ⟨fun t19_14 =>
 TakeS Tryd.prog S9 (Instr.fieldAt 65 t19_14 1) (@hid _ ⟨fun t20_15 =>
 TakeS Tryd.prog S9 (Instr.loadAt 38 t20_15) (@hid _ ⟨fun t21_16 =>
 (BuildK Tryd.prog 40 #[(0, t16_13), (1, t21_16)] (@hid _ ⟨fun t22_17 w18 =>
 S9 w18 ∧
 (BuildSliceK Tryd.prog 28 1 #[(0, t22_17)] (@hid _ ⟨fun t23_19 w20 =>
 S9 w20 ∧
 (BuiltinK Tryd.prog .append #[28, 28] 28 #[false, false] #[x3_1, t23_19] (@hid _ ⟨fun t24_21 w22 =>
 S9 w22 ∧
 BinK Tryd.prog .add 3 x4_2 (.int .i64 1) (@hid _ ⟨fun t10_23 w24 =>
 B4 t24_21 t10_23 w24⟩) w22⟩) w20) ∧
 True⟩) w18) ∧
 True⟩) w10) ∧
 True⟩)⟩)⟩)⟩)⟩)⟩)⟩) w8⟩) (@hid _ ⟨
 R x3_1 w8⟩)⟩) w6⟩) w3⟩)
def a17 : Ann := (.seq .no (.seq .no (.seq (.seq .no (.block (.loop [3, 4] [(5, 24)] (.seq (.seq .no (.cond .no .no)) (.seq (.block (.plan (.take 0 (.take 1 (.take 2 (.take 3 (.take 4 (.take 5 (.take 6 (.take 7 (.take 8 (.take 9 (.take 10 (.alt 11 (.alt 12 (.alt 13 (.take 14 .done) .nil) .nil) .nil)))))))))))))) .no))))) (.seq .no .no))))
theorem F17_eq (x0 : Value) (R : Value → World → Prop) (w0 : World) : F17 x0 R w0 = vc Tryd.prog (bodyOf Tryd.f17) a17 (retQ Tryd.prog Tryd.f17 R) (envOf 0 [x0]) w0 := by kernel_rfl
theorem F17_calls (x0 : Value) (R : Value → World → Prop) (w0 : World) (h : F17 x0 R w0) : CallK Tryd.prog 17 #[x0] R w0 :=
 calls_vc (c := bodyOf Tryd.f17) Tryd.func17 (by kernel_rfl) (by kernel_rfl) a17 (by kernel_rfl) (by kernel_rfl) [x0] (by rw [Tryd.ntmps17]; exact Nat.le_of_ble_eq_true rfl) w0 R ((F17_eq x0 R w0).mp h)

/-- canton/cantonlaw14.rows, its body as a formula. -/
def F18 (x0 x1 : Value) (R : Value → World → Prop) (w0 : World) : Prop :=
 CallV Tryd.prog (.func (.func 15) #[] #[]) #[x0] (@hid _ ⟨fun t6_1 w2 =>
 CallV Tryd.prog (.func (.func 29) #[] #[]) #[t6_1, x1] (@hid _ ⟨fun t8_3 w4 =>
 R t8_3 w4⟩) w2⟩) w0
def a18 : Ann := (.seq .no (.seq .no .no))
theorem F18_eq (x0 x1 : Value) (R : Value → World → Prop) (w0 : World) : F18 x0 x1 R w0 = vc Tryd.prog (bodyOf Tryd.f18) a18 (retQ Tryd.prog Tryd.f18 R) (envOf 0 [x0, x1]) w0 := by kernel_rfl
theorem F18_calls (x0 x1 : Value) (R : Value → World → Prop) (w0 : World) (h : F18 x0 x1 R w0) : CallK Tryd.prog 18 #[x0, x1] R w0 :=
 calls_vc (c := bodyOf Tryd.f18) Tryd.func18 (by kernel_rfl) (by kernel_rfl) a18 (by kernel_rfl) (by kernel_rfl) [x0, x1] (by rw [Tryd.ntmps18]; exact Nat.le_of_ble_eq_true rfl) w0 R ((F18_eq x0 x1 R w0).mp h)

/-- canton/digest.Send, its body as a formula. -/
def F19 (x0 x1 : Value) (R : Value → World → Prop) (w0 : World) : Prop :=
 AllocK Tryd.prog 22 (@hid _ ⟨fun t5_1 w2 =>
 ValK Tryd.prog (Instr.makeFunc (Go.Fn.func 49) #[] #[t5_1]) (@hid _ ⟨fun t8_3 w4 =>
 CallV Tryd.prog (.func (.func 46) #[] #[]) #[x0, x1, (.func (.func 47) #[] #[]), (.func (.func 48) #[] #[]), t8_3] (@hid _ ⟨fun t9_5 w6 =>
 LoadK Tryd.prog 22 t5_1 (@hid _ ⟨fun t10_7 w8 =>
 CallV Tryd.prog (.func (.func 52) #[] #[]) #[t10_7] (@hid _ ⟨fun t11_9 w10 =>
 R t11_9 w10⟩) w8⟩) w6⟩) w4⟩) w2⟩) w0
def a19 : Ann := (.seq .no (.seq .no (.seq .no (.seq .no .no))))
theorem F19_eq (x0 x1 : Value) (R : Value → World → Prop) (w0 : World) : F19 x0 x1 R w0 = vc Tryd.prog (bodyOf Tryd.f19) a19 (retQ Tryd.prog Tryd.f19 R) (envOf 0 [x0, x1]) w0 := by kernel_rfl
theorem F19_calls (x0 x1 : Value) (R : Value → World → Prop) (w0 : World) (h : F19 x0 x1 R w0) : CallK Tryd.prog 19 #[x0, x1] R w0 :=
 calls_vc (c := bodyOf Tryd.f19) Tryd.func19 (by kernel_rfl) (by kernel_rfl) a19 (by kernel_rfl) (by kernel_rfl) [x0, x1] (by rw [Tryd.ntmps19]; exact Nat.le_of_ble_eq_true rfl) w0 R ((F19_eq x0 x1 R w0).mp h)

/-- canton/cantonref21.Send, its body as a formula. -/
def F20 (x0 x1 : Value) (R : Value → World → Prop) (w0 : World) : Prop :=
 LoopK2 (.slice none 0 0) (.int .i64 0) w0 (@hid _ ⟨fun _ x5_1 x6_2 w3 B4 =>
 BuiltinK Tryd.prog .len #[33] 3 #[false] #[x0] (@hid _ ⟨fun t11_5 w6 =>
 BinK Tryd.prog .lss 3 x6_2 t11_5 (@hid _ ⟨fun t12_7 w8 =>
 BrK t12_7 (@hid _ ⟨
 LoopK2 (.bool false) (.int .i64 0) w8 (@hid _ ⟨fun _ x7_9 x8_10 w11 B12 =>
 BuiltinK Tryd.prog .len #[28] 3 #[false] #[x1] (@hid _ ⟨fun t17_13 w14 =>
 BinK Tryd.prog .lss 3 x8_10 t17_13 (@hid _ ⟨fun t18_15 w16 =>
 BrK t18_15 (@hid _ ⟨
 DrawK (@hid _ ⟨fun S17 w18 =>
 TakeG x7_9 false (fun k => k x1) (@hid _ ⟨fun t23_19 =>
 TakeG x7_9 false (fun k => k x8_10) (@hid _ ⟨fun t24_20 =>
 TakeG x7_9 false (fun k => TakeS Tryd.prog S17 (Instr.indexAt 28 t23_19 t24_20) k) (@hid _ ⟨fun t25_21 =>
 TakeG x7_9 false (fun k => TakeS Tryd.prog S17 (Instr.fieldAt 40 t25_21 0) k) (@hid _ ⟨fun t26_22 =>
 TakeG x7_9 false (fun k => TakeS Tryd.prog S17 (Instr.loadAt 9 t26_22) k) (@hid _ ⟨fun t27_23 =>
 TakeG x7_9 false (fun k => k x0) (@hid _ ⟨fun t28_24 =>
 TakeG x7_9 false (fun k => k x6_2) (@hid _ ⟨fun t29_25 =>
 TakeG x7_9 false (fun k => TakeS Tryd.prog S17 (Instr.indexAt 33 t28_24 t29_25) k) (@hid _ ⟨fun t30_26 =>
 TakeG x7_9 false (fun k => TakeS Tryd.prog S17 (Instr.fieldAt 65 t30_26 0) k) (@hid _ ⟨fun t31_27 =>
 TakeG x7_9 false (fun k => TakeS Tryd.prog S17 (Instr.loadAt 9 t31_27) k) (@hid _ ⟨fun t32_28 =>
 TakeG x7_9 false (fun k => BinT Tryd.prog S17 .eql 9 t27_23 t32_28 k) (@hid _ ⟨fun t33_29 =>
 TakeG x7_9 false (fun k => k t33_29) (@hid _ ⟨fun t34_30 =>
 TakeG t34_30 true (fun k => k x0) (@hid _ ⟨fun t35_31 =>
 TakeG t34_30 true (fun k => k x6_2) (@hid _ ⟨fun t36_32 =>
 TakeG t34_30 true (fun k => TakeS Tryd.prog S17 (Instr.indexAt 33 t35_31 t36_32) k) (@hid _ ⟨fun t37_33 =>
 TakeG t34_30 true (fun k => TakeS Tryd.prog S17 (Instr.fieldAt 65 t37_33 1) k) (@hid _ ⟨fun t38_34 =>
 TakeG t34_30 true (fun k => TakeS Tryd.prog S17 (Instr.loadAt 38 t38_34) k) (@hid _ ⟨fun t39_35 =>
 TakeG t34_30 true (fun k => k x1) (@hid _ ⟨fun t40_36 =>
 TakeG t34_30 true (fun k => k x8_10) (@hid _ ⟨fun t41_37 =>
 TakeG t34_30 true (fun k => TakeS Tryd.prog S17 (Instr.indexAt 28 t40_36 t41_37) k) (@hid _ ⟨fun t42_38 =>
 TakeG t34_30 true (fun k => TakeS Tryd.prog S17 (Instr.fieldAt 40 t42_38 1) k) (@hid _ ⟨fun t43_39 =>
 TakeG t34_30 true (fun k => TakeS Tryd.prog S17 (Instr.loadAt 38 t43_39) k) (@hid _ ⟨fun t44_40 =>
 (GuardK t34_30 true (fun k w => CallV Tryd.prog (.func (.func 53) #[] #[]) #[t39_35, t44_40] k w) (@hid _ ⟨fun t45_41 w42 =>
 S17 w42 ∧
 TakeG t34_30 true (fun k => BinT Tryd.prog S17 .leq 3 t45_41 (.int .i64 0) k) (@hid _ ⟨fun t46_43 =>
 TakeG x7_9 false (fun k => PickT t34_30 t46_43 (.bool false) k) (@hid _ ⟨fun t47_44 =>
 PickT x7_9 (.bool true) t47_44 (@hid _ ⟨fun t48_45 =>
 BinK Tryd.prog .add 3 x8_10 (.int .i64 1) (@hid _ ⟨fun t20_46 w47 =>
 B12 t48_45 t20_46 w47⟩) w42⟩)⟩)⟩)⟩) w18) ∧
 True⟩)⟩)⟩)⟩)⟩)⟩)⟩)⟩)⟩)⟩)⟩)⟩)⟩)⟩)⟩)⟩)⟩)⟩)⟩)⟩)⟩)⟩)⟩) w16⟩) (@hid _ ⟨
 UnK Tryd.prog .not x7_9 (@hid _ ⟨fun t50_48 w49 =>
 BrK t50_48 (@hid _ ⟨
 IndexAtK Tryd.prog 33 x0 x6_2 (@hid _ ⟨fun t54_50 w51 =>
 LoadK Tryd.prog 65 t54_50 (@hid _ ⟨fun t55_52 w53 =>
 BuildSliceK Tryd.prog 33 1 #[(0, t55_52)] (@hid _ ⟨fun t56_54 w55 =>
 BuiltinK Tryd.prog .append #[33, 33] 33 #[false, false] #[x5_1, t56_54] (@hid _ ⟨fun t57_56 w57 =>
 BinK Tryd.prog .add 3 x6_2 (.int .i64 1) (@hid _ ⟨fun t14_58 w59 =>
 B4 t57_56 t14_58 w59⟩) w57⟩) w55⟩) w53⟩) w51⟩) w49⟩) (@hid _ ⟨
 BinK Tryd.prog .add 3 x6_2 (.int .i64 1) (@hid _ ⟨fun t14_60 w61 =>
 B4 x5_1 t14_60 w61⟩) w49⟩)⟩) w16⟩)⟩) w14⟩) w11⟩)⟩) (@hid _ ⟨
 R x5_1 w8⟩)⟩) w6⟩) w3⟩)
def a20 : Ann := (.seq .no (.seq .no (.seq (.seq .no (.block (.loop [5, 6] [(7, 57)] (.seq (.seq .no (.cond .no .no)) (.seq (.block (.seq .no (.seq (.seq .no (.block (.loop [7, 8] [(15, 48)] (.seq (.seq .no (.cond .no .no)) (.seq (.block (.plan (.take 0 (.take 1 (.take 2 (.take 3 (.take 4 (.take 5 (.take 6 (.take 7 (.take 8 (.take 9 (.take 10 (.take 11 (.take 12 (.take 13 (.take 14 (.take 15 (.take 16 (.take 17 (.take 18 (.take 19 (.take 20 (.take 21 (.take 22 (.take 23 (.alt 24 (.take 25 (.take 26 (.take 27 (.take 28 .done)))) .nil))))))))))))))))))))))))))) .no))))) (.seq .no (.cond .no .no))))) .no))))) (.seq .no .no))))
theorem F20_eq (x0 x1 : Value) (R : Value → World → Prop) (w0 : World) : F20 x0 x1 R w0 = vc Tryd.prog (bodyOf Tryd.f20) a20 (retQ Tryd.prog Tryd.f20 R) (envOf 0 [x0, x1]) w0 := by kernel_rfl
theorem F20_calls (x0 x1 : Value) (R : Value → World → Prop) (w0 : World) (h : F20 x0 x1 R w0) : CallK Tryd.prog 20 #[x0, x1] R w0 :=
 calls_vc (c := bodyOf Tryd.f20) Tryd.func20 (by kernel_rfl) (by kernel_rfl) a20 (by kernel_rfl) (by kernel_rfl) [x0, x1] (by rw [Tryd.ntmps20]; exact Nat.le_of_ble_eq_true rfl) w0 R ((F20_eq x0 x1 R w0).mp h)

/-- canton/cantonlaw6.Texts, its body as a formula. -/
def F21 (x0 x1 : Value) (R : Value → World → Prop) (w0 : World) : Prop :=
 BuiltinK Tryd.prog .len #[24] 3 #[false] #[x0] (@hid _ ⟨fun t7_1 w2 =>
 BuiltinK Tryd.prog .len #[24] 3 #[false] #[x1] (@hid _ ⟨fun t9_3 w4 =>
 BinK Tryd.prog .neq 3 t7_1 t9_3 (@hid _ ⟨fun t10_5 w6 =>
 BrK t10_5 (@hid _ ⟨
 R (.bool false) w6⟩) (@hid _ ⟨
 LoopK1 (.int .i64 0) w6 (@hid _ ⟨fun _ x5_7 w8 B9 =>
 BuiltinK Tryd.prog .len #[24] 3 #[false] #[x0] (@hid _ ⟨fun t13_10 w11 =>
 BinK Tryd.prog .lss 3 x5_7 t13_10 (@hid _ ⟨fun t14_12 w13 =>
 BrK t14_12 (@hid _ ⟨
 DrawK (@hid _ ⟨fun S14 w15 =>
 TakeS Tryd.prog S14 (Instr.indexAt 24 x0 x5_7) (@hid _ ⟨fun t19_16 =>
 TakeS Tryd.prog S14 (Instr.loadAt 9 t19_16) (@hid _ ⟨fun t20_17 =>
 TakeS Tryd.prog S14 (Instr.indexAt 24 x1 x5_7) (@hid _ ⟨fun t23_18 =>
 TakeS Tryd.prog S14 (Instr.loadAt 9 t23_18) (@hid _ ⟨fun t24_19 =>
 BinT Tryd.prog S14 .neq 9 t20_17 t24_19 (@hid _ ⟨fun t25_20 =>
 BrK t25_20 (@hid _ ⟨
 R (.bool false) w15⟩) (@hid _ ⟨
 BinK Tryd.prog .add 3 x5_7 (.int .i64 1) (@hid _ ⟨fun t16_21 w22 =>
 B9 t16_21 w22⟩) w15⟩)⟩)⟩)⟩)⟩)⟩)⟩) w13⟩) (@hid _ ⟨
 R (.bool true) w13⟩)⟩) w11⟩) w8⟩)⟩)⟩) w4⟩) w2⟩) w0
def a21 : Ann := (.seq .no (.seq (.seq .no (.cond (.seq .no .no) .no)) (.seq (.seq .no (.block (.loop [5] [(4, 4), (11, 25)] (.seq (.seq .no (.cond .no .no)) (.seq (.block (.seq (.plan (.take 0 (.take 1 (.take 2 (.take 3 (.take 4 (.take 5 (.take 6 (.take 7 (.take 8 .done)))))))))) (.cond (.seq .no .no) .no))) .no))))) (.seq .no .no))))
theorem F21_eq (x0 x1 : Value) (R : Value → World → Prop) (w0 : World) : F21 x0 x1 R w0 = vc Tryd.prog (bodyOf Tryd.f21) a21 (retQ Tryd.prog Tryd.f21 R) (envOf 0 [x0, x1]) w0 := by kernel_rfl
theorem F21_calls (x0 x1 : Value) (R : Value → World → Prop) (w0 : World) (h : F21 x0 x1 R w0) : CallK Tryd.prog 21 #[x0, x1] R w0 :=
 calls_vc (c := bodyOf Tryd.f21) Tryd.func21 (by kernel_rfl) (by kernel_rfl) a21 (by kernel_rfl) (by kernel_rfl) [x0, x1] (by rw [Tryd.ntmps21]; exact Nat.le_of_ble_eq_true rfl) w0 R ((F21_eq x0 x1 R w0).mp h)

/-- canton/digest.Want, its body as a formula. -/
def F22 (x0 x1 : Value) (R : Value → World → Prop) (w0 : World) : Prop :=
 AllocK Tryd.prog 24 (@hid _ ⟨fun t5_1 w2 =>
 ValK Tryd.prog (Instr.makeFunc (Go.Fn.func 55) #[] #[t5_1]) (@hid _ ⟨fun t8_3 w4 =>
 CallV Tryd.prog (.func (.func 54) #[] #[]) #[x1, x0, (.func (.func 48) #[] #[]), (.func (.func 47) #[] #[]), t8_3] (@hid _ ⟨fun t9_5 w6 =>
 LoadK Tryd.prog 24 t5_1 (@hid _ ⟨fun t10_7 w8 =>
 CallV Tryd.prog (.func (.func 56) #[] #[]) #[t10_7] (@hid _ ⟨fun t11_9 w10 =>
 R t11_9 w10⟩) w8⟩) w6⟩) w4⟩) w2⟩) w0
def a22 : Ann := (.seq .no (.seq .no (.seq .no (.seq .no .no))))
theorem F22_eq (x0 x1 : Value) (R : Value → World → Prop) (w0 : World) : F22 x0 x1 R w0 = vc Tryd.prog (bodyOf Tryd.f22) a22 (retQ Tryd.prog Tryd.f22 R) (envOf 0 [x0, x1]) w0 := by kernel_rfl
theorem F22_calls (x0 x1 : Value) (R : Value → World → Prop) (w0 : World) (h : F22 x0 x1 R w0) : CallK Tryd.prog 22 #[x0, x1] R w0 :=
 calls_vc (c := bodyOf Tryd.f22) Tryd.func22 (by kernel_rfl) (by kernel_rfl) a22 (by kernel_rfl) (by kernel_rfl) [x0, x1] (by rw [Tryd.ntmps22]; exact Nat.le_of_ble_eq_true rfl) w0 R ((F22_eq x0 x1 R w0).mp h)

/-- canton/cantonref21.Want, its body as a formula. -/
def F23 (x0 x1 : Value) (R : Value → World → Prop) (w0 : World) : Prop :=
 LoopK2 (.slice none 0 0) (.int .i64 0) w0 (@hid _ ⟨fun _ x5_1 x6_2 w3 B4 =>
 BuiltinK Tryd.prog .len #[28] 3 #[false] #[x1] (@hid _ ⟨fun t11_5 w6 =>
 BinK Tryd.prog .lss 3 x6_2 t11_5 (@hid _ ⟨fun t12_7 w8 =>
 BrK t12_7 (@hid _ ⟨
 LoopK2 (.bool false) (.int .i64 0) w8 (@hid _ ⟨fun _ x7_9 x8_10 w11 B12 =>
 BuiltinK Tryd.prog .len #[33] 3 #[false] #[x0] (@hid _ ⟨fun t17_13 w14 =>
 BinK Tryd.prog .lss 3 x8_10 t17_13 (@hid _ ⟨fun t18_15 w16 =>
 BrK t18_15 (@hid _ ⟨
 DrawK (@hid _ ⟨fun S17 w18 =>
 TakeG x7_9 false (fun k => k x1) (@hid _ ⟨fun t23_19 =>
 TakeG x7_9 false (fun k => k x6_2) (@hid _ ⟨fun t24_20 =>
 TakeG x7_9 false (fun k => TakeS Tryd.prog S17 (Instr.indexAt 28 t23_19 t24_20) k) (@hid _ ⟨fun t25_21 =>
 TakeG x7_9 false (fun k => TakeS Tryd.prog S17 (Instr.fieldAt 40 t25_21 0) k) (@hid _ ⟨fun t26_22 =>
 TakeG x7_9 false (fun k => TakeS Tryd.prog S17 (Instr.loadAt 9 t26_22) k) (@hid _ ⟨fun t27_23 =>
 TakeG x7_9 false (fun k => k x0) (@hid _ ⟨fun t28_24 =>
 TakeG x7_9 false (fun k => k x8_10) (@hid _ ⟨fun t29_25 =>
 TakeG x7_9 false (fun k => TakeS Tryd.prog S17 (Instr.indexAt 33 t28_24 t29_25) k) (@hid _ ⟨fun t30_26 =>
 TakeG x7_9 false (fun k => TakeS Tryd.prog S17 (Instr.fieldAt 65 t30_26 0) k) (@hid _ ⟨fun t31_27 =>
 TakeG x7_9 false (fun k => TakeS Tryd.prog S17 (Instr.loadAt 9 t31_27) k) (@hid _ ⟨fun t32_28 =>
 TakeG x7_9 false (fun k => BinT Tryd.prog S17 .eql 9 t27_23 t32_28 k) (@hid _ ⟨fun t33_29 =>
 TakeG x7_9 false (fun k => k t33_29) (@hid _ ⟨fun t34_30 =>
 TakeG t34_30 true (fun k => k x0) (@hid _ ⟨fun t35_31 =>
 TakeG t34_30 true (fun k => k x8_10) (@hid _ ⟨fun t36_32 =>
 TakeG t34_30 true (fun k => TakeS Tryd.prog S17 (Instr.indexAt 33 t35_31 t36_32) k) (@hid _ ⟨fun t37_33 =>
 TakeG t34_30 true (fun k => TakeS Tryd.prog S17 (Instr.fieldAt 65 t37_33 1) k) (@hid _ ⟨fun t38_34 =>
 TakeG t34_30 true (fun k => TakeS Tryd.prog S17 (Instr.loadAt 38 t38_34) k) (@hid _ ⟨fun t39_35 =>
 TakeG t34_30 true (fun k => k x1) (@hid _ ⟨fun t40_36 =>
 TakeG t34_30 true (fun k => k x6_2) (@hid _ ⟨fun t41_37 =>
 TakeG t34_30 true (fun k => TakeS Tryd.prog S17 (Instr.indexAt 28 t40_36 t41_37) k) (@hid _ ⟨fun t42_38 =>
 TakeG t34_30 true (fun k => TakeS Tryd.prog S17 (Instr.fieldAt 40 t42_38 1) k) (@hid _ ⟨fun t43_39 =>
 TakeG t34_30 true (fun k => TakeS Tryd.prog S17 (Instr.loadAt 38 t43_39) k) (@hid _ ⟨fun t44_40 =>
 (GuardK t34_30 true (fun k w => CallV Tryd.prog (.func (.func 53) #[] #[]) #[t39_35, t44_40] k w) (@hid _ ⟨fun t45_41 w42 =>
 S17 w42 ∧
 TakeG t34_30 true (fun k => BinT Tryd.prog S17 .geq 3 t45_41 (.int .i64 0) k) (@hid _ ⟨fun t46_43 =>
 TakeG x7_9 false (fun k => PickT t34_30 t46_43 (.bool false) k) (@hid _ ⟨fun t47_44 =>
 PickT x7_9 (.bool true) t47_44 (@hid _ ⟨fun t48_45 =>
 BinK Tryd.prog .add 3 x8_10 (.int .i64 1) (@hid _ ⟨fun t20_46 w47 =>
 B12 t48_45 t20_46 w47⟩) w42⟩)⟩)⟩)⟩) w18) ∧
 True⟩)⟩)⟩)⟩)⟩)⟩)⟩)⟩)⟩)⟩)⟩)⟩)⟩)⟩)⟩)⟩)⟩)⟩)⟩)⟩)⟩)⟩)⟩) w16⟩) (@hid _ ⟨
 UnK Tryd.prog .not x7_9 (@hid _ ⟨fun t50_48 w49 =>
 BrK t50_48 (@hid _ ⟨
 IndexAtK Tryd.prog 28 x1 x6_2 (@hid _ ⟨fun t54_50 w51 =>
 FieldAtK Tryd.prog 40 t54_50 0 (@hid _ ⟨fun t55_52 w53 =>
 LoadK Tryd.prog 9 t55_52 (@hid _ ⟨fun t56_54 w55 =>
 BuildSliceK Tryd.prog 24 1 #[(0, t56_54)] (@hid _ ⟨fun t57_56 w57 =>
 BuiltinK Tryd.prog .append #[24, 24] 24 #[false, false] #[x5_1, t57_56] (@hid _ ⟨fun t58_58 w59 =>
 BinK Tryd.prog .add 3 x6_2 (.int .i64 1) (@hid _ ⟨fun t14_60 w61 =>
 B4 t58_58 t14_60 w61⟩) w59⟩) w57⟩) w55⟩) w53⟩) w51⟩) w49⟩) (@hid _ ⟨
 BinK Tryd.prog .add 3 x6_2 (.int .i64 1) (@hid _ ⟨fun t14_62 w63 =>
 B4 x5_1 t14_62 w63⟩) w49⟩)⟩) w16⟩)⟩) w14⟩) w11⟩)⟩) (@hid _ ⟨
 R x5_1 w8⟩)⟩) w6⟩) w3⟩)
def a23 : Ann := (.seq .no (.seq .no (.seq (.seq .no (.block (.loop [5, 6] [(7, 58)] (.seq (.seq .no (.cond .no .no)) (.seq (.block (.seq .no (.seq (.seq .no (.block (.loop [7, 8] [(15, 48)] (.seq (.seq .no (.cond .no .no)) (.seq (.block (.plan (.take 0 (.take 1 (.take 2 (.take 3 (.take 4 (.take 5 (.take 6 (.take 7 (.take 8 (.take 9 (.take 10 (.take 11 (.take 12 (.take 13 (.take 14 (.take 15 (.take 16 (.take 17 (.take 18 (.take 19 (.take 20 (.take 21 (.take 22 (.take 23 (.alt 24 (.take 25 (.take 26 (.take 27 (.take 28 .done)))) .nil))))))))))))))))))))))))))) .no))))) (.seq .no (.cond .no .no))))) .no))))) (.seq .no .no))))
theorem F23_eq (x0 x1 : Value) (R : Value → World → Prop) (w0 : World) : F23 x0 x1 R w0 = vc Tryd.prog (bodyOf Tryd.f23) a23 (retQ Tryd.prog Tryd.f23 R) (envOf 0 [x0, x1]) w0 := by kernel_rfl
theorem F23_calls (x0 x1 : Value) (R : Value → World → Prop) (w0 : World) (h : F23 x0 x1 R w0) : CallK Tryd.prog 23 #[x0, x1] R w0 :=
 calls_vc (c := bodyOf Tryd.f23) Tryd.func23 (by kernel_rfl) (by kernel_rfl) a23 (by kernel_rfl) (by kernel_rfl) [x0, x1] (by rw [Tryd.ntmps23]; exact Nat.le_of_ble_eq_true rfl) w0 R ((F23_eq x0 x1 R w0).mp h)

/-- canton/digest.Pick, its body as a formula. -/
def F24 (x0 x1 : Value) (R : Value → World → Prop) (w0 : World) : Prop :=
 BuiltinK Tryd.prog .len #[22] 3 #[false] #[x0] (@hid _ ⟨fun t9_1 w2 =>
 LoopK2 (.slice none 0 0) (.int .i64 0) w2 (@hid _ ⟨fun _ x5_3 x10_4 w5 B6 =>
 BinK Tryd.prog .lss 3 x10_4 t9_1 (@hid _ ⟨fun t11_7 w8 =>
 BrK t11_7 (@hid _ ⟨
 IndexAtK Tryd.prog 22 x0 x10_4 (@hid _ ⟨fun t12_9 w10 =>
 LoadK Tryd.prog 55 t12_9 (@hid _ ⟨fun t13_11 w12 =>
 AllocK Tryd.prog 55 (@hid _ ⟨fun t7_13 w14 =>
 StoreK Tryd.prog 55 t7_13 t13_11 (@hid _ ⟨fun tu_15 w16 =>
 FieldAtK Tryd.prog 55 t7_13 0 (@hid _ ⟨fun t15_17 w18 =>
 LoadK Tryd.prog 9 t15_17 (@hid _ ⟨fun t16_19 w20 =>
 CallV Tryd.prog (.func (.func 57) #[] #[]) #[x1, t16_19] (@hid _ ⟨fun t17_21 w22 =>
 BrK t17_21 (@hid _ ⟨
 LoadK Tryd.prog 55 t7_13 (@hid _ ⟨fun t19_23 w24 =>
 CallV Tryd.prog (.func (.func 51) #[] #[]) #[t19_23] (@hid _ ⟨fun t20_25 w26 =>
 BuildSliceK Tryd.prog 22 1 #[(0, t20_25)] (@hid _ ⟨fun t21_27 w28 =>
 BuiltinK Tryd.prog .append #[22, 22] 22 #[false, false] #[x5_3, t21_27] (@hid _ ⟨fun t22_29 w30 =>
 BinK Tryd.prog .add 3 x10_4 (.int .i64 1) (@hid _ ⟨fun t23_31 w32 =>
 B6 t22_29 t23_31 w32⟩) w30⟩) w28⟩) w26⟩) w24⟩) w22⟩) (@hid _ ⟨
 BinK Tryd.prog .add 3 x10_4 (.int .i64 1) (@hid _ ⟨fun t23_33 w34 =>
 B6 x5_3 t23_33 w34⟩) w22⟩)⟩) w20⟩) w18⟩) w16⟩) w14⟩) w12⟩) w10⟩) w8⟩) (@hid _ ⟨
 CallV Tryd.prog (.func (.func 52) #[] #[]) #[x5_3] (@hid _ ⟨fun t25_35 w36 =>
 R t25_35 w36⟩) w8⟩)⟩) w5⟩)⟩) w0
def a24 : Ann := (.seq .no (.seq .no (.seq (.seq .no (.block (.loop [5, 10] [(7, 7), (11, 23)] (.seq .no (.seq (.cond .no .no) (.seq (.block (.seq .no (.seq .no (.cond .no .no)))) .no)))))) (.seq .no .no))))
theorem F24_eq (x0 x1 : Value) (R : Value → World → Prop) (w0 : World) : F24 x0 x1 R w0 = vc Tryd.prog (bodyOf Tryd.f24) a24 (retQ Tryd.prog Tryd.f24 R) (envOf 0 [x0, x1]) w0 := by kernel_rfl
theorem F24_calls (x0 x1 : Value) (R : Value → World → Prop) (w0 : World) (h : F24 x0 x1 R w0) : CallK Tryd.prog 24 #[x0, x1] R w0 :=
 calls_vc (c := bodyOf Tryd.f24) Tryd.func24 (by kernel_rfl) (by kernel_rfl) a24 (by kernel_rfl) (by kernel_rfl) [x0, x1] (by rw [Tryd.ntmps24]; exact Nat.le_of_ble_eq_true rfl) w0 R ((F24_eq x0 x1 R w0).mp h)

/-- canton/cantonref21.Pick, its body as a formula. -/
def F25 (x0 x1 : Value) (R : Value → World → Prop) (w0 : World) : Prop :=
 LoopK2 (.slice none 0 0) (.int .i64 0) w0 (@hid _ ⟨fun _ x5_1 x6_2 w3 B4 =>
 BuiltinK Tryd.prog .len #[33] 3 #[false] #[x0] (@hid _ ⟨fun t10_5 w6 =>
 BinK Tryd.prog .lss 3 x6_2 t10_5 (@hid _ ⟨fun t11_7 w8 =>
 BrK t11_7 (@hid _ ⟨
 LoopK2 x5_1 (.int .i64 0) w8 (@hid _ ⟨fun _ x5_9 x7_10 w11 B12 =>
 BuiltinK Tryd.prog .len #[24] 3 #[false] #[x1] (@hid _ ⟨fun t16_13 w14 =>
 BinK Tryd.prog .lss 3 x7_10 t16_13 (@hid _ ⟨fun t17_15 w16 =>
 BrK t17_15 (@hid _ ⟨
 DrawK (@hid _ ⟨fun S17 w18 =>
 TakeS Tryd.prog S17 (Instr.indexAt 24 x1 x7_10) (@hid _ ⟨fun t22_19 =>
 TakeS Tryd.prog S17 (Instr.loadAt 9 t22_19) (@hid _ ⟨fun t23_20 =>
 TakeS Tryd.prog S17 (Instr.indexAt 33 x0 x6_2) (@hid _ ⟨fun t26_21 =>
 TakeS Tryd.prog S17 (Instr.fieldAt 65 t26_21 0) (@hid _ ⟨fun t27_22 =>
 TakeS Tryd.prog S17 (Instr.loadAt 9 t27_22) (@hid _ ⟨fun t28_23 =>
 BinT Tryd.prog S17 .eql 9 t23_20 t28_23 (@hid _ ⟨fun t29_24 =>
 BrK t29_24 (@hid _ ⟨
 IndexAtK Tryd.prog 33 x0 x6_2 (@hid _ ⟨fun t33_25 w26 =>
 LoadK Tryd.prog 65 t33_25 (@hid _ ⟨fun t34_27 w28 =>
 BuildSliceK Tryd.prog 33 1 #[(0, t34_27)] (@hid _ ⟨fun t35_29 w30 =>
 BuiltinK Tryd.prog .append #[33, 33] 33 #[false, false] #[x5_9, t35_29] (@hid _ ⟨fun t36_31 w32 =>
 BinK Tryd.prog .add 3 x6_2 (.int .i64 1) (@hid _ ⟨fun t13_33 w34 =>
 B4 t36_31 t13_33 w34⟩) w32⟩) w30⟩) w28⟩) w26⟩) w18⟩) (@hid _ ⟨
 BinK Tryd.prog .add 3 x7_10 (.int .i64 1) (@hid _ ⟨fun t19_35 w36 =>
 B12 x5_9 t19_35 w36⟩) w18⟩)⟩)⟩)⟩)⟩)⟩)⟩)⟩) w16⟩) (@hid _ ⟨
 BinK Tryd.prog .add 3 x6_2 (.int .i64 1) (@hid _ ⟨fun t13_37 w38 =>
 B4 x5_9 t13_37 w38⟩) w16⟩)⟩) w14⟩) w11⟩)⟩) (@hid _ ⟨
 R x5_1 w8⟩)⟩) w6⟩) w3⟩)
def a25 : Ann := (.seq .no (.seq .no (.seq (.seq .no (.block (.loop [5, 6] [(7, 36)] (.seq (.seq .no (.cond .no .no)) (.seq (.block (.seq .no (.block (.loop [5, 7] [(14, 36)] (.seq (.seq .no (.cond .no .no)) (.seq (.block (.seq (.plan (.take 0 (.take 1 (.take 2 (.take 3 (.take 4 (.take 5 (.take 6 (.take 7 (.take 8 (.take 9 .done))))))))))) (.cond (.seq .no .no) .no))) .no)))))) .no))))) (.seq .no .no))))
theorem F25_eq (x0 x1 : Value) (R : Value → World → Prop) (w0 : World) : F25 x0 x1 R w0 = vc Tryd.prog (bodyOf Tryd.f25) a25 (retQ Tryd.prog Tryd.f25 R) (envOf 0 [x0, x1]) w0 := by kernel_rfl
theorem F25_calls (x0 x1 : Value) (R : Value → World → Prop) (w0 : World) (h : F25 x0 x1 R w0) : CallK Tryd.prog 25 #[x0, x1] R w0 :=
 calls_vc (c := bodyOf Tryd.f25) Tryd.func25 (by kernel_rfl) (by kernel_rfl) a25 (by kernel_rfl) (by kernel_rfl) [x0, x1] (by rw [Tryd.ntmps25]; exact Nat.le_of_ble_eq_true rfl) w0 R ((F25_eq x0 x1 R w0).mp h)

/-- canton/stamp.Compare, its body as a formula. -/
def F26 (x0 x1 : Value) (R : Value → World → Prop) (w0 : World) : Prop :=
 BoxK Tryd.prog 52 x0 (@hid _ ⟨fun t2_1 w2 =>
 BoxK Tryd.prog 52 x1 (@hid _ ⟨fun t3_3 w4 =>
 DrawK (@hid _ ⟨fun S5 w6 =>
 TakeS Tryd.prog S5 (Instr.fieldAt 52 t2_1 0) (@hid _ ⟨fun t5_7 =>
 TakeS Tryd.prog S5 (Instr.loadAt 2 t5_7) (@hid _ ⟨fun t6_8 =>
 TakeS Tryd.prog S5 (Instr.fieldAt 52 t3_3 0) (@hid _ ⟨fun t7_9 =>
 TakeS Tryd.prog S5 (Instr.loadAt 2 t7_9) (@hid _ ⟨fun t8_10 =>
 TakeS Tryd.prog S5 (Instr.fieldAt 52 t2_1 1) (@hid _ ⟨fun t10_11 =>
 TakeS Tryd.prog S5 (Instr.loadAt 2 t10_11) (@hid _ ⟨fun t11_12 =>
 TakeS Tryd.prog S5 (Instr.fieldAt 52 t3_3 1) (@hid _ ⟨fun t12_13 =>
 TakeS Tryd.prog S5 (Instr.loadAt 2 t12_13) (@hid _ ⟨fun t13_14 =>
 TakeS Tryd.prog S5 (Instr.fieldAt 52 t2_1 2) (@hid _ ⟨fun t15_15 =>
 TakeS Tryd.prog S5 (Instr.loadAt 2 t15_15) (@hid _ ⟨fun t16_16 =>
 TakeS Tryd.prog S5 (Instr.fieldAt 52 t3_3 2) (@hid _ ⟨fun t17_17 =>
 TakeS Tryd.prog S5 (Instr.loadAt 2 t17_17) (@hid _ ⟨fun t18_18 =>
 TakeS Tryd.prog S5 (Instr.fieldAt 52 t2_1 3) (@hid _ ⟨fun t20_19 =>
 TakeS Tryd.prog S5 (Instr.loadAt 9 t20_19) (@hid _ ⟨fun t21_20 =>
 TakeS Tryd.prog S5 (Instr.fieldAt 52 t3_3 3) (@hid _ ⟨fun t22_21 =>
 TakeS Tryd.prog S5 (Instr.loadAt 9 t22_21) (@hid _ ⟨fun t23_22 =>
 (CallV Tryd.prog (.func (.func 59) #[] #[]) #[t6_8, t8_10] (@hid _ ⟨fun t9_23 w24 =>
 S5 w24 ∧
 (CallV Tryd.prog (.func (.func 59) #[] #[]) #[t11_12, t13_14] (@hid _ ⟨fun t14_25 w26 =>
 S5 w26 ∧
 (CallV Tryd.prog (.func (.func 59) #[] #[]) #[t16_16, t18_18] (@hid _ ⟨fun t19_27 w28 =>
 S5 w28 ∧
 (CallV Tryd.prog (.func (.func 40) #[] #[]) #[t21_20, t23_22] (@hid _ ⟨fun t24_29 w30 =>
 S5 w30 ∧
 (BuildSliceK Tryd.prog 136 4 #[(0, t9_23), (1, t14_25), (2, t19_27), (3, t24_29)] (@hid _ ⟨fun t25_31 w32 =>
 S5 w32 ∧
 (CallV Tryd.prog (.func (.func 58) #[] #[]) #[t25_31] (@hid _ ⟨fun t26_33 w34 =>
 S5 w34 ∧
 R t26_33 w34⟩) w32) ∧
 True⟩) w30) ∧
 True⟩) w28) ∧
 True⟩) w26) ∧
 True⟩) w24) ∧
 True⟩) w6) ∧
 True⟩)⟩)⟩)⟩)⟩)⟩)⟩)⟩)⟩)⟩)⟩)⟩)⟩)⟩)⟩)⟩)⟩) w4⟩) w2⟩) w0
def a26 : Ann := (.seq .no (.seq (.plan (.take 0 (.take 1 (.take 2 (.take 3 (.take 5 (.take 6 (.take 7 (.take 8 (.take 10 (.take 11 (.take 12 (.take 13 (.take 15 (.take 16 (.take 17 (.take 18 (.alt 4 (.alt 9 (.alt 14 (.alt 19 (.alt 20 (.alt 21 (.take 22 .done) .nil) .nil) .nil) .nil) .nil) .nil)))))))))))))))))) .no))
theorem F26_eq (x0 x1 : Value) (R : Value → World → Prop) (w0 : World) : F26 x0 x1 R w0 = vc Tryd.prog (bodyOf Tryd.f26) a26 (retQ Tryd.prog Tryd.f26 R) (envOf 0 [x0, x1]) w0 := by kernel_rfl
theorem F26_calls (x0 x1 : Value) (R : Value → World → Prop) (w0 : World) (h : F26 x0 x1 R w0) : CallK Tryd.prog 26 #[x0, x1] R w0 :=
 calls_vc (c := bodyOf Tryd.f26) Tryd.func26 (by kernel_rfl) (by kernel_rfl) a26 (by kernel_rfl) (by kernel_rfl) [x0, x1] (by rw [Tryd.ntmps26]; exact Nat.le_of_ble_eq_true rfl) w0 R ((F26_eq x0 x1 R w0).mp h)

/-- canton/row.Same, its body as a formula. -/
def F27 (x0 x1 : Value) (R : Value → World → Prop) (w0 : World) : Prop :=
 BoxK Tryd.prog 55 x0 (@hid _ ⟨fun t2_1 w2 =>
 BoxK Tryd.prog 55 x1 (@hid _ ⟨fun t3_3 w4 =>
 FieldAtK Tryd.prog 55 t2_1 0 (@hid _ ⟨fun t5_5 w6 =>
 LoadK Tryd.prog 9 t5_5 (@hid _ ⟨fun t6_7 w8 =>
 FieldAtK Tryd.prog 55 t3_3 0 (@hid _ ⟨fun t7_9 w10 =>
 LoadK Tryd.prog 9 t7_9 (@hid _ ⟨fun t8_11 w12 =>
 BinK Tryd.prog .eql 9 t6_7 t8_11 (@hid _ ⟨fun t9_13 w14 =>
 GuardK t9_13 true (fun k w => FieldAtK Tryd.prog 55 t2_1 1 k w) (@hid _ ⟨fun t11_15 w16 =>
 GuardK t9_13 true (fun k w => LoadK Tryd.prog 52 t11_15 k w) (@hid _ ⟨fun t12_17 w18 =>
 GuardK t9_13 true (fun k w => FieldAtK Tryd.prog 55 t3_3 1 k w) (@hid _ ⟨fun t13_19 w20 =>
 GuardK t9_13 true (fun k w => LoadK Tryd.prog 52 t13_19 k w) (@hid _ ⟨fun t14_21 w22 =>
 GuardK t9_13 true (fun k w => CallV Tryd.prog (.func (.func 26) #[] #[]) #[t12_17, t14_21] k w) (@hid _ ⟨fun t15_23 w24 =>
 GuardK t9_13 true (fun k w => BinK Tryd.prog .eql 3 t15_23 (.int .i64 0) k w) (@hid _ ⟨fun t16_25 w26 =>
 PickK Tryd.prog t9_13 t16_25 (.bool false) (@hid _ ⟨fun t17_27 w28 =>
 GuardK t17_27 true (fun k w => FieldAtK Tryd.prog 55 t2_1 2 k w) (@hid _ ⟨fun t19_29 w30 =>
 GuardK t17_27 true (fun k w => LoadK Tryd.prog 53 t19_29 k w) (@hid _ ⟨fun t20_31 w32 =>
 GuardK t17_27 true (fun k w => FieldAtK Tryd.prog 55 t3_3 2 k w) (@hid _ ⟨fun t21_33 w34 =>
 GuardK t17_27 true (fun k w => LoadK Tryd.prog 53 t21_33 k w) (@hid _ ⟨fun t22_35 w36 =>
 GuardK t17_27 true (fun k w => CallV Tryd.prog (.func (.func 60) #[] #[]) #[t20_31, t22_35] k w) (@hid _ ⟨fun t23_37 w38 =>
 PickK Tryd.prog t17_27 t23_37 (.bool false) (@hid _ ⟨fun t24_39 w40 =>
 R t24_39 w40⟩) w38⟩) w36⟩) w34⟩) w32⟩) w30⟩) w28⟩) w26⟩) w24⟩) w22⟩) w20⟩) w18⟩) w16⟩) w14⟩) w12⟩) w10⟩) w8⟩) w6⟩) w4⟩) w2⟩) w0
def a27 : Ann := (.seq .no (.seq .no .no))
theorem F27_eq (x0 x1 : Value) (R : Value → World → Prop) (w0 : World) : F27 x0 x1 R w0 = vc Tryd.prog (bodyOf Tryd.f27) a27 (retQ Tryd.prog Tryd.f27 R) (envOf 0 [x0, x1]) w0 := by kernel_rfl
theorem F27_calls (x0 x1 : Value) (R : Value → World → Prop) (w0 : World) (h : F27 x0 x1 R w0) : CallK Tryd.prog 27 #[x0, x1] R w0 :=
 calls_vc (c := bodyOf Tryd.f27) Tryd.func27 (by kernel_rfl) (by kernel_rfl) a27 (by kernel_rfl) (by kernel_rfl) [x0, x1] (by rw [Tryd.ntmps27]; exact Nat.le_of_ble_eq_true rfl) w0 R ((F27_eq x0 x1 R w0).mp h)

/-- (canton/cantonref21.Table).Put, its body as a formula. -/
def F28 (x0 x1 : Value) (R : Value → World → Prop) (w0 : World) : Prop :=
 BoxK Tryd.prog 60 x0 (@hid _ ⟨fun t2_1 w2 =>
 BoxK Tryd.prog 65 x1 (@hid _ ⟨fun t3_3 w4 =>
 AllocK Tryd.prog 60 (@hid _ ⟨fun t4_5 w6 =>
 LoadK Tryd.prog 65 t3_3 (@hid _ ⟨fun t13_7 w8 =>
 CallV Tryd.prog (.func (.func 43) #[] #[]) #[t13_7] (@hid _ ⟨fun t14_9 w10 =>
 BinK Tryd.prog .neq 3 t14_9 (.int .i64 0) (@hid _ ⟨fun t16_11 w12 =>
 BrK t16_11 (@hid _ ⟨
 LoadK Tryd.prog 60 t2_1 (@hid _ ⟨fun t17_13 w14 =>
 StoreK Tryd.prog 60 t4_5 t17_13 (@hid _ ⟨fun tu_15 w16 =>
 LoadK Tryd.prog 60 t4_5 (@hid _ ⟨fun c17 w18 => w18 = w16 ∧ R (.tuple #[c17, t14_9]) w16⟩) w16⟩) w14⟩) w12⟩) (@hid _ ⟨
 LoadK Tryd.prog 60 t2_1 (@hid _ ⟨fun t20_19 w20 =>
 FieldAtK Tryd.prog 65 t3_3 0 (@hid _ ⟨fun t21_21 w22 =>
 LoadK Tryd.prog 9 t21_21 (@hid _ ⟨fun t22_23 w24 =>
 CallV Tryd.prog (.func (.func 61) #[] #[]) #[t20_19, t22_23] (@hid _ ⟨fun t23_25 w26 =>
 ExtractK Tryd.prog t23_25 0 (@hid _ ⟨fun t24_27 w28 =>
 ExtractK Tryd.prog t23_25 1 (@hid _ ⟨fun t25_29 w30 =>
 AllocK Tryd.prog 65 (@hid _ ⟨fun t7_31 w32 =>
 StoreK Tryd.prog 65 t7_31 t24_27 (@hid _ ⟨fun tu_33 w34 =>
 CutK0 (@hid _ ⟨fun R35 =>
 GuardK t25_29 true (fun k w => FieldAtK Tryd.prog 65 t7_31 1 k w) (@hid _ ⟨fun t29_37 w38 =>
 GuardK t25_29 true (fun k w => LoadK Tryd.prog 38 t29_37 k w) (@hid _ ⟨fun t30_39 w40 =>
 GuardK t25_29 true (fun k w => FieldAtK Tryd.prog 65 t3_3 1 k w) (@hid _ ⟨fun t31_41 w42 =>
 GuardK t25_29 true (fun k w => LoadK Tryd.prog 38 t31_41 k w) (@hid _ ⟨fun t32_43 w44 =>
 GuardK t25_29 true (fun k w => CallV Tryd.prog (.func (.func 53) #[] #[]) #[t30_39, t32_43] k w) (@hid _ ⟨fun t33_45 w46 =>
 GuardK t25_29 true (fun k w => BinK Tryd.prog .geq 3 t33_45 (.int .i64 0) k w) (@hid _ ⟨fun t34_47 w48 =>
 PickK Tryd.prog t25_29 t34_47 (.bool false) (@hid _ ⟨fun t35_49 w50 =>
 BrK t35_49 (@hid _ ⟨
 LoadK Tryd.prog 60 t2_1 (@hid _ ⟨fun t36_51 w52 =>
 StoreK Tryd.prog 60 t4_5 t36_51 (@hid _ ⟨fun tu_53 w54 =>
 LoadK Tryd.prog 60 t4_5 (@hid _ ⟨fun c55 w56 => w56 = w54 ∧ R (.tuple #[c55, (.int .i64 11)]) w54⟩) w54⟩) w52⟩) w50⟩) (@hid _ ⟨
 BrK t25_29 (@hid _ ⟨
 LoadK Tryd.prog 60 t2_1 (@hid _ ⟨fun t39_57 w58 =>
 FieldAtK Tryd.prog 65 t3_3 0 (@hid _ ⟨fun t40_59 w60 =>
 LoadK Tryd.prog 9 t40_59 (@hid _ ⟨fun t41_61 w62 =>
 CallV Tryd.prog (.func (.func 62) #[] #[]) #[t39_57, t41_61] (@hid _ ⟨fun t42_63 w64 =>
 StoreK Tryd.prog 60 t2_1 t42_63 (@hid _ ⟨fun tu_65 w66 =>
 R35 w66⟩) w64⟩) w62⟩) w60⟩) w58⟩) w50⟩) (@hid _ ⟨
 FieldAtK Tryd.prog 60 t2_1 1 (@hid _ ⟨fun t44_67 w68 =>
 LoadK Tryd.prog 33 t44_67 (@hid _ ⟨fun t45_69 w70 =>
 BuiltinK Tryd.prog .len #[33] 3 #[false] #[t45_69] (@hid _ ⟨fun t46_71 w72 =>
 FieldAtK Tryd.prog 60 t2_1 0 (@hid _ ⟨fun t47_73 w74 =>
 LoadK Tryd.prog 3 t47_73 (@hid _ ⟨fun t48_75 w76 =>
 BinK Tryd.prog .geq 3 t46_71 t48_75 (@hid _ ⟨fun t49_77 w78 =>
 BrK t49_77 (@hid _ ⟨
 LoadK Tryd.prog 60 t2_1 (@hid _ ⟨fun t50_79 w80 =>
 CallV Tryd.prog (.func (.func 63) #[] #[]) #[t50_79] (@hid _ ⟨fun t51_81 w82 =>
 AllocK Tryd.prog 65 (@hid _ ⟨fun t9_83 w84 =>
 StoreK Tryd.prog 65 t9_83 t51_81 (@hid _ ⟨fun tu_85 w86 =>
 FieldAtK Tryd.prog 65 t9_83 1 (@hid _ ⟨fun t52_87 w88 =>
 LoadK Tryd.prog 38 t52_87 (@hid _ ⟨fun t53_89 w90 =>
 FieldAtK Tryd.prog 65 t3_3 1 (@hid _ ⟨fun t54_91 w92 =>
 LoadK Tryd.prog 38 t54_91 (@hid _ ⟨fun t55_93 w94 =>
 CallV Tryd.prog (.func (.func 53) #[] #[]) #[t53_89, t55_93] (@hid _ ⟨fun t56_95 w96 =>
 BinK Tryd.prog .geq 3 t56_95 (.int .i64 0) (@hid _ ⟨fun t57_97 w98 =>
 BrK t57_97 (@hid _ ⟨
 LoadK Tryd.prog 60 t2_1 (@hid _ ⟨fun t58_99 w100 =>
 StoreK Tryd.prog 60 t4_5 t58_99 (@hid _ ⟨fun tu_101 w102 =>
 LoadK Tryd.prog 60 t4_5 (@hid _ ⟨fun c103 w104 => w104 = w102 ∧ R (.tuple #[c103, (.int .i64 9)]) w102⟩) w102⟩) w100⟩) w98⟩) (@hid _ ⟨
 LoadK Tryd.prog 60 t2_1 (@hid _ ⟨fun t59_105 w106 =>
 FieldAtK Tryd.prog 65 t9_83 0 (@hid _ ⟨fun t60_107 w108 =>
 LoadK Tryd.prog 9 t60_107 (@hid _ ⟨fun t61_109 w110 =>
 CallV Tryd.prog (.func (.func 62) #[] #[]) #[t59_105, t61_109] (@hid _ ⟨fun t62_111 w112 =>
 StoreK Tryd.prog 60 t2_1 t62_111 (@hid _ ⟨fun tu_113 w114 =>
 R35 w114⟩) w112⟩) w110⟩) w108⟩) w106⟩) w98⟩)⟩) w96⟩) w94⟩) w92⟩) w90⟩) w88⟩) w86⟩) w84⟩) w82⟩) w80⟩) w78⟩) (@hid _ ⟨
 R35 w78⟩)⟩) w76⟩) w74⟩) w72⟩) w70⟩) w68⟩) w50⟩)⟩)⟩) w48⟩) w46⟩) w44⟩) w42⟩) w40⟩) w38⟩) w34⟩)
 (@hid _ ⟨fun _ w36 =>
 LoadK Tryd.prog 60 t2_1 (@hid _ ⟨fun t64_115 w116 =>
 FieldAtK Tryd.prog 65 t3_3 0 (@hid _ ⟨fun t65_117 w118 =>
 LoadK Tryd.prog 9 t65_117 (@hid _ ⟨fun t66_119 w120 =>
 CallV Tryd.prog (.func (.func 64) #[] #[]) #[t64_115, t66_119] (@hid _ ⟨fun t67_121 w122 =>
 ExtractK Tryd.prog t67_121 0 (@hid _ ⟨fun t68_123 w124 =>
 ExtractK Tryd.prog t67_121 1 (@hid _ ⟨fun t69_125 w126 =>
 CutK1 (@hid _ ⟨fun R127 =>
 DrawK (@hid _ ⟨fun S130 w131 =>
 TakeS Tryd.prog S130 (Instr.fieldAt 60 t2_1 0) (@hid _ ⟨fun t70_132 =>
 TakeS Tryd.prog S130 (Instr.loadAt 3 t70_132) (@hid _ ⟨fun t71_133 =>
 TakeS Tryd.prog S130 (Instr.fieldAt 60 t2_1 1) (@hid _ ⟨fun t73_134 =>
 TakeS Tryd.prog S130 (Instr.loadAt 33 t73_134) (@hid _ ⟨fun t74_135 =>
 TakeS Tryd.prog S130 (Instr.sliceAt 33 t74_135 none (some t68_123) none) (@hid _ ⟨fun t76_136 =>
 TakeS Tryd.prog S130 (Instr.loadAt 65 t3_3) (@hid _ ⟨fun t78_137 =>
 (BuildSliceK Tryd.prog 33 0 #[] (@hid _ ⟨fun t72_138 w139 =>
 S130 w139 ∧
 (BuiltinK Tryd.prog .append #[33, 33] 33 #[false, false] #[t72_138, t76_136] (@hid _ ⟨fun t77_140 w141 =>
 S130 w141 ∧
 (BuildSliceK Tryd.prog 33 1 #[(0, t78_137)] (@hid _ ⟨fun t79_142 w143 =>
 S130 w143 ∧
 (BuiltinK Tryd.prog .append #[33, 33] 33 #[false, false] #[t77_140, t79_142] (@hid _ ⟨fun t80_144 w145 =>
 S130 w145 ∧
 (BuildK Tryd.prog 60 #[(0, t71_133), (1, t80_144)] (@hid _ ⟨fun t81_146 w147 =>
 S130 w147 ∧
 (AllocK Tryd.prog 60 (@hid _ ⟨fun t12_148 w149 =>
 S130 w149 ∧
 (StoreK Tryd.prog 60 t12_148 t81_146 (@hid _ ⟨fun tu_150 w151 =>
 S130 w151 ∧
 R127 t12_148 w151⟩) w149) ∧
 True⟩) w147) ∧
 True⟩) w145) ∧
 (AllocK Tryd.prog 60 (@hid _ ⟨fun t12_152 w153 =>
 S130 w153 ∧
 (BuildK Tryd.prog 60 #[(0, t71_133), (1, t80_144)] (@hid _ ⟨fun t81_154 w155 =>
 S130 w155 ∧
 (StoreK Tryd.prog 60 t12_152 t81_154 (@hid _ ⟨fun tu_156 w157 =>
 S130 w157 ∧
 R127 t12_152 w157⟩) w155) ∧
 True⟩) w153) ∧
 True⟩) w145) ∧
 True⟩) w143) ∧
 (AllocK Tryd.prog 60 (@hid _ ⟨fun t12_158 w159 =>
 S130 w159 ∧
 (BuiltinK Tryd.prog .append #[33, 33] 33 #[false, false] #[t77_140, t79_142] (@hid _ ⟨fun t80_160 w161 =>
 S130 w161 ∧
 (BuildK Tryd.prog 60 #[(0, t71_133), (1, t80_160)] (@hid _ ⟨fun t81_162 w163 =>
 S130 w163 ∧
 (StoreK Tryd.prog 60 t12_158 t81_162 (@hid _ ⟨fun tu_164 w165 =>
 S130 w165 ∧
 R127 t12_158 w165⟩) w163) ∧
 True⟩) w161) ∧
 True⟩) w159) ∧
 True⟩) w143) ∧
 True⟩) w141) ∧
 (AllocK Tryd.prog 60 (@hid _ ⟨fun t12_166 w167 =>
 S130 w167 ∧
 (BuildSliceK Tryd.prog 33 1 #[(0, t78_137)] (@hid _ ⟨fun t79_168 w169 =>
 S130 w169 ∧
 (BuiltinK Tryd.prog .append #[33, 33] 33 #[false, false] #[t77_140, t79_168] (@hid _ ⟨fun t80_170 w171 =>
 S130 w171 ∧
 (BuildK Tryd.prog 60 #[(0, t71_133), (1, t80_170)] (@hid _ ⟨fun t81_172 w173 =>
 S130 w173 ∧
 (StoreK Tryd.prog 60 t12_166 t81_172 (@hid _ ⟨fun tu_174 w175 =>
 S130 w175 ∧
 R127 t12_166 w175⟩) w173) ∧
 True⟩) w171) ∧
 True⟩) w169) ∧
 True⟩) w167) ∧
 True⟩) w141) ∧
 True⟩) w139) ∧
 (BuildSliceK Tryd.prog 33 1 #[(0, t78_137)] (@hid _ ⟨fun t79_176 w177 =>
 S130 w177 ∧
 (BuiltinK Tryd.prog .append #[33, 33] 33 #[false, false] #[t72_138, t76_136] (@hid _ ⟨fun t77_178 w179 =>
 S130 w179 ∧
 (BuiltinK Tryd.prog .append #[33, 33] 33 #[false, false] #[t77_178, t79_176] (@hid _ ⟨fun t80_180 w181 =>
 S130 w181 ∧
 (BuildK Tryd.prog 60 #[(0, t71_133), (1, t80_180)] (@hid _ ⟨fun t81_182 w183 =>
 S130 w183 ∧
 (AllocK Tryd.prog 60 (@hid _ ⟨fun t12_184 w185 =>
 S130 w185 ∧
 (StoreK Tryd.prog 60 t12_184 t81_182 (@hid _ ⟨fun tu_186 w187 =>
 S130 w187 ∧
 R127 t12_184 w187⟩) w185) ∧
 True⟩) w183) ∧
 True⟩) w181) ∧
 (AllocK Tryd.prog 60 (@hid _ ⟨fun t12_188 w189 =>
 S130 w189 ∧
 (BuildK Tryd.prog 60 #[(0, t71_133), (1, t80_180)] (@hid _ ⟨fun t81_190 w191 =>
 S130 w191 ∧
 (StoreK Tryd.prog 60 t12_188 t81_190 (@hid _ ⟨fun tu_192 w193 =>
 S130 w193 ∧
 R127 t12_188 w193⟩) w191) ∧
 True⟩) w189) ∧
 True⟩) w181) ∧
 True⟩) w179) ∧
 (AllocK Tryd.prog 60 (@hid _ ⟨fun t12_194 w195 =>
 S130 w195 ∧
 (BuiltinK Tryd.prog .append #[33, 33] 33 #[false, false] #[t77_178, t79_176] (@hid _ ⟨fun t80_196 w197 =>
 S130 w197 ∧
 (BuildK Tryd.prog 60 #[(0, t71_133), (1, t80_196)] (@hid _ ⟨fun t81_198 w199 =>
 S130 w199 ∧
 (StoreK Tryd.prog 60 t12_194 t81_198 (@hid _ ⟨fun tu_200 w201 =>
 S130 w201 ∧
 R127 t12_194 w201⟩) w199) ∧
 True⟩) w197) ∧
 True⟩) w195) ∧
 True⟩) w179) ∧
 True⟩) w177) ∧
 (AllocK Tryd.prog 60 (@hid _ ⟨fun t12_202 w203 =>
 S130 w203 ∧
 (BuiltinK Tryd.prog .append #[33, 33] 33 #[false, false] #[t72_138, t76_136] (@hid _ ⟨fun t77_204 w205 =>
 S130 w205 ∧
 (BuiltinK Tryd.prog .append #[33, 33] 33 #[false, false] #[t77_204, t79_176] (@hid _ ⟨fun t80_206 w207 =>
 S130 w207 ∧
 (BuildK Tryd.prog 60 #[(0, t71_133), (1, t80_206)] (@hid _ ⟨fun t81_208 w209 =>
 S130 w209 ∧
 (StoreK Tryd.prog 60 t12_202 t81_208 (@hid _ ⟨fun tu_210 w211 =>
 S130 w211 ∧
 R127 t12_202 w211⟩) w209) ∧
 True⟩) w207) ∧
 True⟩) w205) ∧
 True⟩) w203) ∧
 True⟩) w177) ∧
 True⟩) w139) ∧
 (AllocK Tryd.prog 60 (@hid _ ⟨fun t12_212 w213 =>
 S130 w213 ∧
 (BuiltinK Tryd.prog .append #[33, 33] 33 #[false, false] #[t72_138, t76_136] (@hid _ ⟨fun t77_214 w215 =>
 S130 w215 ∧
 (BuildSliceK Tryd.prog 33 1 #[(0, t78_137)] (@hid _ ⟨fun t79_216 w217 =>
 S130 w217 ∧
 (BuiltinK Tryd.prog .append #[33, 33] 33 #[false, false] #[t77_214, t79_216] (@hid _ ⟨fun t80_218 w219 =>
 S130 w219 ∧
 (BuildK Tryd.prog 60 #[(0, t71_133), (1, t80_218)] (@hid _ ⟨fun t81_220 w221 =>
 S130 w221 ∧
 (StoreK Tryd.prog 60 t12_212 t81_220 (@hid _ ⟨fun tu_222 w223 =>
 S130 w223 ∧
 R127 t12_212 w223⟩) w221) ∧
 True⟩) w219) ∧
 True⟩) w217) ∧
 True⟩) w215) ∧
 True⟩) w213) ∧
 (BuildSliceK Tryd.prog 33 1 #[(0, t78_137)] (@hid _ ⟨fun t79_224 w225 =>
 S130 w225 ∧
 (BuiltinK Tryd.prog .append #[33, 33] 33 #[false, false] #[t72_138, t76_136] (@hid _ ⟨fun t77_226 w227 =>
 S130 w227 ∧
 (BuiltinK Tryd.prog .append #[33, 33] 33 #[false, false] #[t77_226, t79_224] (@hid _ ⟨fun t80_228 w229 =>
 S130 w229 ∧
 (BuildK Tryd.prog 60 #[(0, t71_133), (1, t80_228)] (@hid _ ⟨fun t81_230 w231 =>
 S130 w231 ∧
 (StoreK Tryd.prog 60 t12_212 t81_230 (@hid _ ⟨fun tu_232 w233 =>
 S130 w233 ∧
 R127 t12_212 w233⟩) w231) ∧
 True⟩) w229) ∧
 True⟩) w227) ∧
 True⟩) w225) ∧
 True⟩) w213) ∧
 True⟩) w139) ∧
 True⟩) w131) ∧
 (BuildSliceK Tryd.prog 33 1 #[(0, t78_137)] (@hid _ ⟨fun t79_234 w235 =>
 S130 w235 ∧
 (BuildSliceK Tryd.prog 33 0 #[] (@hid _ ⟨fun t72_236 w237 =>
 S130 w237 ∧
 (BuiltinK Tryd.prog .append #[33, 33] 33 #[false, false] #[t72_236, t76_136] (@hid _ ⟨fun t77_238 w239 =>
 S130 w239 ∧
 (BuiltinK Tryd.prog .append #[33, 33] 33 #[false, false] #[t77_238, t79_234] (@hid _ ⟨fun t80_240 w241 =>
 S130 w241 ∧
 (BuildK Tryd.prog 60 #[(0, t71_133), (1, t80_240)] (@hid _ ⟨fun t81_242 w243 =>
 S130 w243 ∧
 (AllocK Tryd.prog 60 (@hid _ ⟨fun t12_244 w245 =>
 S130 w245 ∧
 (StoreK Tryd.prog 60 t12_244 t81_242 (@hid _ ⟨fun tu_246 w247 =>
 S130 w247 ∧
 R127 t12_244 w247⟩) w245) ∧
 True⟩) w243) ∧
 True⟩) w241) ∧
 (AllocK Tryd.prog 60 (@hid _ ⟨fun t12_248 w249 =>
 S130 w249 ∧
 (BuildK Tryd.prog 60 #[(0, t71_133), (1, t80_240)] (@hid _ ⟨fun t81_250 w251 =>
 S130 w251 ∧
 (StoreK Tryd.prog 60 t12_248 t81_250 (@hid _ ⟨fun tu_252 w253 =>
 S130 w253 ∧
 R127 t12_248 w253⟩) w251) ∧
 True⟩) w249) ∧
 True⟩) w241) ∧
 True⟩) w239) ∧
 (AllocK Tryd.prog 60 (@hid _ ⟨fun t12_254 w255 =>
 S130 w255 ∧
 (BuiltinK Tryd.prog .append #[33, 33] 33 #[false, false] #[t77_238, t79_234] (@hid _ ⟨fun t80_256 w257 =>
 S130 w257 ∧
 (BuildK Tryd.prog 60 #[(0, t71_133), (1, t80_256)] (@hid _ ⟨fun t81_258 w259 =>
 S130 w259 ∧
 (StoreK Tryd.prog 60 t12_254 t81_258 (@hid _ ⟨fun tu_260 w261 =>
 S130 w261 ∧
 R127 t12_254 w261⟩) w259) ∧
 True⟩) w257) ∧
 True⟩) w255) ∧
 True⟩) w239) ∧
 True⟩) w237) ∧
 (AllocK Tryd.prog 60 (@hid _ ⟨fun t12_262 w263 =>
 S130 w263 ∧
 (BuiltinK Tryd.prog .append #[33, 33] 33 #[false, false] #[t72_236, t76_136] (@hid _ ⟨fun t77_264 w265 =>
 S130 w265 ∧
 (BuiltinK Tryd.prog .append #[33, 33] 33 #[false, false] #[t77_264, t79_234] (@hid _ ⟨fun t80_266 w267 =>
 S130 w267 ∧
 (BuildK Tryd.prog 60 #[(0, t71_133), (1, t80_266)] (@hid _ ⟨fun t81_268 w269 =>
 S130 w269 ∧
 (StoreK Tryd.prog 60 t12_262 t81_268 (@hid _ ⟨fun tu_270 w271 =>
 S130 w271 ∧
 R127 t12_262 w271⟩) w269) ∧
 True⟩) w267) ∧
 True⟩) w265) ∧
 True⟩) w263) ∧
 True⟩) w237) ∧
 True⟩) w235) ∧
 (AllocK Tryd.prog 60 (@hid _ ⟨fun t12_272 w273 =>
 S130 w273 ∧
 (BuildSliceK Tryd.prog 33 0 #[] (@hid _ ⟨fun t72_274 w275 =>
 S130 w275 ∧
 (BuiltinK Tryd.prog .append #[33, 33] 33 #[false, false] #[t72_274, t76_136] (@hid _ ⟨fun t77_276 w277 =>
 S130 w277 ∧
 (BuiltinK Tryd.prog .append #[33, 33] 33 #[false, false] #[t77_276, t79_234] (@hid _ ⟨fun t80_278 w279 =>
 S130 w279 ∧
 (BuildK Tryd.prog 60 #[(0, t71_133), (1, t80_278)] (@hid _ ⟨fun t81_280 w281 =>
 S130 w281 ∧
 (StoreK Tryd.prog 60 t12_272 t81_280 (@hid _ ⟨fun tu_282 w283 =>
 S130 w283 ∧
 R127 t12_272 w283⟩) w281) ∧
 True⟩) w279) ∧
 True⟩) w277) ∧
 True⟩) w275) ∧
 True⟩) w273) ∧
 True⟩) w235) ∧
 True⟩) w131) ∧
 (AllocK Tryd.prog 60 (@hid _ ⟨fun t12_284 w285 =>
 S130 w285 ∧
 (BuildSliceK Tryd.prog 33 0 #[] (@hid _ ⟨fun t72_286 w287 =>
 S130 w287 ∧
 (BuiltinK Tryd.prog .append #[33, 33] 33 #[false, false] #[t72_286, t76_136] (@hid _ ⟨fun t77_288 w289 =>
 S130 w289 ∧
 (BuildSliceK Tryd.prog 33 1 #[(0, t78_137)] (@hid _ ⟨fun t79_290 w291 =>
 S130 w291 ∧
 (BuiltinK Tryd.prog .append #[33, 33] 33 #[false, false] #[t77_288, t79_290] (@hid _ ⟨fun t80_292 w293 =>
 S130 w293 ∧
 (BuildK Tryd.prog 60 #[(0, t71_133), (1, t80_292)] (@hid _ ⟨fun t81_294 w295 =>
 S130 w295 ∧
 (StoreK Tryd.prog 60 t12_284 t81_294 (@hid _ ⟨fun tu_296 w297 =>
 S130 w297 ∧
 R127 t12_284 w297⟩) w295) ∧
 True⟩) w293) ∧
 True⟩) w291) ∧
 True⟩) w289) ∧
 True⟩) w287) ∧
 (BuildSliceK Tryd.prog 33 1 #[(0, t78_137)] (@hid _ ⟨fun t79_298 w299 =>
 S130 w299 ∧
 (BuiltinK Tryd.prog .append #[33, 33] 33 #[false, false] #[t72_286, t76_136] (@hid _ ⟨fun t77_300 w301 =>
 S130 w301 ∧
 (BuiltinK Tryd.prog .append #[33, 33] 33 #[false, false] #[t77_300, t79_298] (@hid _ ⟨fun t80_302 w303 =>
 S130 w303 ∧
 (BuildK Tryd.prog 60 #[(0, t71_133), (1, t80_302)] (@hid _ ⟨fun t81_304 w305 =>
 S130 w305 ∧
 (StoreK Tryd.prog 60 t12_284 t81_304 (@hid _ ⟨fun tu_306 w307 =>
 S130 w307 ∧
 R127 t12_284 w307⟩) w305) ∧
 True⟩) w303) ∧
 True⟩) w301) ∧
 True⟩) w299) ∧
 True⟩) w287) ∧
 True⟩) w285) ∧
 (BuildSliceK Tryd.prog 33 1 #[(0, t78_137)] (@hid _ ⟨fun t79_308 w309 =>
 S130 w309 ∧
 (BuildSliceK Tryd.prog 33 0 #[] (@hid _ ⟨fun t72_310 w311 =>
 S130 w311 ∧
 (BuiltinK Tryd.prog .append #[33, 33] 33 #[false, false] #[t72_310, t76_136] (@hid _ ⟨fun t77_312 w313 =>
 S130 w313 ∧
 (BuiltinK Tryd.prog .append #[33, 33] 33 #[false, false] #[t77_312, t79_308] (@hid _ ⟨fun t80_314 w315 =>
 S130 w315 ∧
 (BuildK Tryd.prog 60 #[(0, t71_133), (1, t80_314)] (@hid _ ⟨fun t81_316 w317 =>
 S130 w317 ∧
 (StoreK Tryd.prog 60 t12_284 t81_316 (@hid _ ⟨fun tu_318 w319 =>
 S130 w319 ∧
 R127 t12_284 w319⟩) w317) ∧
 True⟩) w315) ∧
 True⟩) w313) ∧
 True⟩) w311) ∧
 True⟩) w309) ∧
 True⟩) w285) ∧
 True⟩) w131) ∧
 True⟩)⟩)⟩)⟩)⟩)⟩)⟩) w126⟩)
 (@hid _ ⟨fun _ x12_128 w129 =>
 DrawK (@hid _ ⟨fun S320 w321 =>
 TakeS Tryd.prog S320 (Instr.fieldAt 60 x12_128 1) (@hid _ ⟨fun t82_322 =>
 TakeS Tryd.prog S320 (Instr.loadAt 33 t82_322) (@hid _ ⟨fun t83_323 =>
 TakeS Tryd.prog S320 (Instr.fieldAt 60 t2_1 1) (@hid _ ⟨fun t84_324 =>
 TakeS Tryd.prog S320 (Instr.loadAt 33 t84_324) (@hid _ ⟨fun t85_325 =>
 TakeS Tryd.prog S320 (Instr.sliceAt 33 t85_325 (some t68_123) none none) (@hid _ ⟨fun t87_326 =>
 (BuiltinK Tryd.prog .append #[33, 33] 33 #[false, false] #[t83_323, t87_326] (@hid _ ⟨fun t88_327 w328 =>
 S320 w328 ∧
 TakeS Tryd.prog S320 (Instr.fieldAt 60 x12_128 1) (@hid _ ⟨fun t89_329 =>
 (StoreK Tryd.prog 33 t89_329 t88_327 (@hid _ ⟨fun tu_330 w331 =>
 S320 w331 ∧
 LoadK Tryd.prog 60 x12_128 (@hid _ ⟨fun t90_332 w333 =>
 StoreK Tryd.prog 60 t4_5 t90_332 (@hid _ ⟨fun tu_334 w335 =>
 LoadK Tryd.prog 60 t4_5 (@hid _ ⟨fun c336 w337 => w337 = w335 ∧ R (.tuple #[c336, (.int .i64 0)]) w335⟩) w335⟩) w333⟩) w331⟩) w328) ∧
 True⟩)⟩) w321) ∧
 True⟩)⟩)⟩)⟩)⟩)⟩) w129⟩)⟩) w124⟩) w122⟩) w120⟩) w118⟩) w116⟩) w36⟩)⟩) w32⟩) w30⟩) w28⟩) w26⟩) w24⟩) w22⟩) w20⟩) w12⟩)⟩) w10⟩) w8⟩) w6⟩) w4⟩) w2⟩) w0
def a28 : Ann := (.seq .no (.seq .no (.seq (.seq .no (.cond (.seq .no .no) .no)) (.seq .no (.cut [] [(5, 5), (9, 9), (26, 62)] (.block (.seq .no (.cond (.seq .no .no) (.seq .no (.cond .no (.seq .no (.cond (.seq .no (.seq (.seq .no (.cond (.seq .no .no) .no)) .no)) .no))))))) (.seq .no (.cut [12] [(70, 81)] (.plan (.take 0 (.take 1 (.take 3 (.take 4 (.take 5 (.take 6 (.take 8 (.alt 2 (.alt 7 (.alt 9 (.alt 10 (.alt 11 (.alt 12 (.alt 13 .done .nil) .nil) (.alt 12 (.alt 11 (.alt 13 .done .nil) .nil) .nil)) (.alt 12 (.alt 10 (.alt 11 (.alt 13 .done .nil) .nil) .nil) .nil)) (.alt 12 (.alt 9 (.alt 10 (.alt 11 (.alt 13 .done .nil) .nil) .nil) .nil) .nil)) (.alt 9 (.alt 7 (.alt 10 (.alt 11 (.alt 12 (.alt 13 .done .nil) .nil) (.alt 12 (.alt 11 (.alt 13 .done .nil) .nil) .nil)) (.alt 12 (.alt 10 (.alt 11 (.alt 13 .done .nil) .nil) .nil) .nil)) (.alt 12 (.alt 7 (.alt 10 (.alt 11 (.alt 13 .done .nil) .nil) .nil) .nil) .nil)) (.alt 12 (.alt 7 (.alt 9 (.alt 10 (.alt 11 (.alt 13 .done .nil) .nil) .nil) .nil) (.alt 9 (.alt 7 (.alt 10 (.alt 11 (.alt 13 .done .nil) .nil) .nil) .nil) .nil)) .nil))) (.alt 9 (.alt 2 (.alt 7 (.alt 10 (.alt 11 (.alt 12 (.alt 13 .done .nil) .nil) (.alt 12 (.alt 11 (.alt 13 .done .nil) .nil) .nil)) (.alt 12 (.alt 10 (.alt 11 (.alt 13 .done .nil) .nil) .nil) .nil)) (.alt 12 (.alt 7 (.alt 10 (.alt 11 (.alt 13 .done .nil) .nil) .nil) .nil) .nil)) (.alt 12 (.alt 2 (.alt 7 (.alt 10 (.alt 11 (.alt 13 .done .nil) .nil) .nil) .nil) .nil) .nil)) (.alt 12 (.alt 2 (.alt 7 (.alt 9 (.alt 10 (.alt 11 (.alt 13 .done .nil) .nil) .nil) .nil) (.alt 9 (.alt 7 (.alt 10 (.alt 11 (.alt 13 .done .nil) .nil) .nil) .nil) .nil)) (.alt 9 (.alt 2 (.alt 7 (.alt 10 (.alt 11 (.alt 13 .done .nil) .nil) .nil) .nil) .nil) .nil)) .nil))))))))))) (.seq (.plan (.take 0 (.take 1 (.take 2 (.take 3 (.take 4 (.take 5 (.alt 6 (.take 7 (.alt 8 .done .nil)) .nil)))))))) (.seq .no .no)))))))))
theorem F28_eq (x0 x1 : Value) (R : Value → World → Prop) (w0 : World) : F28 x0 x1 R w0 = vc Tryd.prog (bodyOf Tryd.f28) a28 (retQ Tryd.prog Tryd.f28 R) (envOf 0 [x0, x1]) w0 := by kernel_rfl
theorem F28_calls (x0 x1 : Value) (R : Value → World → Prop) (w0 : World) (h : F28 x0 x1 R w0) : CallK Tryd.prog 28 #[x0, x1] R w0 :=
 calls_vc (c := bodyOf Tryd.f28) Tryd.func28 (by kernel_rfl) (by kernel_rfl) a28 (by kernel_rfl) (by kernel_rfl) [x0, x1] (by rw [Tryd.ntmps28]; exact Nat.le_of_ble_eq_true rfl) w0 R ((F28_eq x0 x1 R w0).mp h)

/-- canton/cantonref21.SameRows, its body as a formula. -/
def F29 (x0 x1 : Value) (R : Value → World → Prop) (w0 : World) : Prop :=
 BuiltinK Tryd.prog .len #[33] 3 #[false] #[x0] (@hid _ ⟨fun t7_1 w2 =>
 BuiltinK Tryd.prog .len #[33] 3 #[false] #[x1] (@hid _ ⟨fun t9_3 w4 =>
 BinK Tryd.prog .neq 3 t7_1 t9_3 (@hid _ ⟨fun t10_5 w6 =>
 BrK t10_5 (@hid _ ⟨
 R (.bool false) w6⟩) (@hid _ ⟨
 LoopK1 (.int .i64 0) w6 (@hid _ ⟨fun _ x5_7 w8 B9 =>
 BuiltinK Tryd.prog .len #[33] 3 #[false] #[x0] (@hid _ ⟨fun t13_10 w11 =>
 BinK Tryd.prog .lss 3 x5_7 t13_10 (@hid _ ⟨fun t14_12 w13 =>
 BrK t14_12 (@hid _ ⟨
 DrawK (@hid _ ⟨fun S14 w15 =>
 TakeS Tryd.prog S14 (Instr.indexAt 33 x0 x5_7) (@hid _ ⟨fun t19_16 =>
 TakeS Tryd.prog S14 (Instr.loadAt 65 t19_16) (@hid _ ⟨fun t20_17 =>
 TakeS Tryd.prog S14 (Instr.indexAt 33 x1 x5_7) (@hid _ ⟨fun t23_18 =>
 TakeS Tryd.prog S14 (Instr.loadAt 65 t23_18) (@hid _ ⟨fun t24_19 =>
 (CallV Tryd.prog (.func (.func 65) #[] #[]) #[t20_17, t24_19] (@hid _ ⟨fun t25_20 w21 =>
 S14 w21 ∧
 TakeS Tryd.prog S14 (Op.unary .not t25_20) (@hid _ ⟨fun t26_22 =>
 BrK t26_22 (@hid _ ⟨
 R (.bool false) w21⟩) (@hid _ ⟨
 BinK Tryd.prog .add 3 x5_7 (.int .i64 1) (@hid _ ⟨fun t16_23 w24 =>
 B9 t16_23 w24⟩) w21⟩)⟩)⟩) w15) ∧
 True⟩)⟩)⟩)⟩)⟩) w13⟩) (@hid _ ⟨
 R (.bool true) w13⟩)⟩) w11⟩) w8⟩)⟩)⟩) w4⟩) w2⟩) w0
def a29 : Ann := (.seq .no (.seq (.seq .no (.cond (.seq .no .no) .no)) (.seq (.seq .no (.block (.loop [5] [(4, 4), (11, 26)] (.seq (.seq .no (.cond .no .no)) (.seq (.block (.seq (.plan (.take 0 (.take 1 (.take 2 (.take 3 (.take 4 (.take 5 (.take 6 (.take 7 (.alt 8 (.take 9 .done) .nil)))))))))) (.cond (.seq .no .no) .no))) .no))))) (.seq .no .no))))
theorem F29_eq (x0 x1 : Value) (R : Value → World → Prop) (w0 : World) : F29 x0 x1 R w0 = vc Tryd.prog (bodyOf Tryd.f29) a29 (retQ Tryd.prog Tryd.f29 R) (envOf 0 [x0, x1]) w0 := by kernel_rfl
theorem F29_calls (x0 x1 : Value) (R : Value → World → Prop) (w0 : World) (h : F29 x0 x1 R w0) : CallK Tryd.prog 29 #[x0, x1] R w0 :=
 calls_vc (c := bodyOf Tryd.f29) Tryd.func29 (by kernel_rfl) (by kernel_rfl) a29 (by kernel_rfl) (by kernel_rfl) [x0, x1] (by rw [Tryd.ntmps29]; exact Nat.le_of_ble_eq_true rfl) w0 R ((F29_eq x0 x1 R w0).mp h)

/-- canton/cantonlaw15.known, its body as a formula. -/
def F30 (R : Value → World → Prop) (w0 : World) : Prop :=
 CallV Tryd.prog (.func (.func 35) #[] #[]) #[(.string { data := #[97] }), (.string { data := #[47, 97, 47, 120] }), (.int .i64 5)] (@hid _ ⟨fun t7_1 w2 =>
 CallV Tryd.prog (.func (.func 35) #[] #[]) #[(.string { data := #[98] }), (.string { data := #[47, 98, 47, 121] }), (.int .i64 2)] (@hid _ ⟨fun t8_3 w4 =>
 BuildK Tryd.prog 55 #[(0, (.string { data := #[99] }))] (@hid _ ⟨fun t9_5 w6 =>
 BuildSliceK Tryd.prog 22 3 #[(0, t7_1), (1, t8_3), (2, t9_5)] (@hid _ ⟨fun t10_7 w8 =>
 CallV Tryd.prog (.func (.func 33) #[] #[]) #[t10_7] (@hid _ ⟨fun t13_9 w10 =>
 ExtractK Tryd.prog t13_9 0 (@hid _ ⟨fun t14_11 w12 =>
 ExtractK Tryd.prog t13_9 1 (@hid _ ⟨fun t15_13 w14 =>
 AllocK Tryd.prog 73 (@hid _ ⟨fun t2_15 w16 =>
 StoreK Tryd.prog 73 t2_15 t14_11 (@hid _ ⟨fun tu_17 w18 =>
 CallV Tryd.prog (.func (.func 31) #[] #[]) #[t10_7] (@hid _ ⟨fun t17_19 w20 =>
 SliceK Tryd.prog 22 t10_7 (some (.int .i64 2)) none none (@hid _ ⟨fun t20_21 w22 =>
 CallV Tryd.prog (.func (.func 33) #[] #[]) #[t20_21] (@hid _ ⟨fun t21_23 w24 =>
 ExtractK Tryd.prog t21_23 0 (@hid _ ⟨fun t22_25 w26 =>
 ExtractK Tryd.prog t21_23 1 (@hid _ ⟨fun t23_27 w28 =>
 AllocK Tryd.prog 73 (@hid _ ⟨fun t5_29 w30 =>
 StoreK Tryd.prog 73 t5_29 t22_25 (@hid _ ⟨fun tu_31 w32 =>
 GuardK t15_13 true (fun k w => FieldAtK Tryd.prog 73 t2_15 0 k w) (@hid _ ⟨fun t26_33 w34 =>
 GuardK t15_13 true (fun k w => LoadK Tryd.prog 9 t26_33 k w) (@hid _ ⟨fun t27_35 w36 =>
 GuardK t15_13 true (fun k w => BinK Tryd.prog .eql 9 t27_35 (.string { data := #[98] }) k w) (@hid _ ⟨fun t28_37 w38 =>
 PickK Tryd.prog t15_13 t28_37 (.bool false) (@hid _ ⟨fun t29_39 w40 =>
 GuardK t29_39 true (fun k w => FieldAtK Tryd.prog 73 t2_15 1 k w) (@hid _ ⟨fun t31_41 w42 =>
 GuardK t29_39 true (fun k w => LoadK Tryd.prog 9 t31_41 k w) (@hid _ ⟨fun t32_43 w44 =>
 GuardK t29_39 true (fun k w => BinK Tryd.prog .eql 9 t32_43 (.string { data := #[47, 98, 47, 121] }) k w) (@hid _ ⟨fun t33_45 w46 =>
 PickK Tryd.prog t29_39 t33_45 (.bool false) (@hid _ ⟨fun t34_47 w48 =>
 GuardK t34_47 true (fun k w => FieldAtK Tryd.prog 73 t2_15 2 k w) (@hid _ ⟨fun t36_49 w50 =>
 GuardK t34_47 true (fun k w => LoadK Tryd.prog 2 t36_49 k w) (@hid _ ⟨fun t37_51 w52 =>
 GuardK t34_47 true (fun k w => BinK Tryd.prog .eql 2 t37_51 (.int .i64 2) k w) (@hid _ ⟨fun t38_53 w54 =>
 PickK Tryd.prog t34_47 t38_53 (.bool false) (@hid _ ⟨fun t39_55 w56 =>
 GuardK t39_55 true (fun k w => k t17_19 w) (@hid _ ⟨fun t41_57 w58 =>
 GuardK t39_55 true (fun k w => BuiltinK Tryd.prog .len #[68] 3 #[false] #[t41_57] k w) (@hid _ ⟨fun t42_59 w60 =>
 GuardK t39_55 true (fun k w => BinK Tryd.prog .eql 3 t42_59 (.int .i64 2) k w) (@hid _ ⟨fun t43_61 w62 =>
 PickK Tryd.prog t39_55 t43_61 (.bool false) (@hid _ ⟨fun t44_63 w64 =>
 GuardK t44_63 true (fun k w => k t17_19 w) (@hid _ ⟨fun t46_65 w66 =>
 GuardK t44_63 true (fun k w => IndexAtK Tryd.prog 68 t46_65 (.int .i64 1) k w) (@hid _ ⟨fun t47_67 w68 =>
 GuardK t44_63 true (fun k w => FieldAtK Tryd.prog 73 t47_67 0 k w) (@hid _ ⟨fun t48_69 w70 =>
 GuardK t44_63 true (fun k w => LoadK Tryd.prog 9 t48_69 k w) (@hid _ ⟨fun t49_71 w72 =>
 GuardK t44_63 true (fun k w => BinK Tryd.prog .eql 9 t49_71 (.string { data := #[97] }) k w) (@hid _ ⟨fun t50_73 w74 =>
 PickK Tryd.prog t44_63 t50_73 (.bool false) (@hid _ ⟨fun t51_75 w76 =>
 GuardK t51_75 true (fun k w => k t23_27 w) (@hid _ ⟨fun t53_77 w78 =>
 GuardK t51_75 true (fun k w => UnK Tryd.prog .not t53_77 k w) (@hid _ ⟨fun t54_79 w80 =>
 PickK Tryd.prog t51_75 t54_79 (.bool false) (@hid _ ⟨fun t55_81 w82 =>
 R t55_81 w82⟩) w80⟩) w78⟩) w76⟩) w74⟩) w72⟩) w70⟩) w68⟩) w66⟩) w64⟩) w62⟩) w60⟩) w58⟩) w56⟩) w54⟩) w52⟩) w50⟩) w48⟩) w46⟩) w44⟩) w42⟩) w40⟩) w38⟩) w36⟩) w34⟩) w32⟩) w30⟩) w28⟩) w26⟩) w24⟩) w22⟩) w20⟩) w18⟩) w16⟩) w14⟩) w12⟩) w10⟩) w8⟩) w6⟩) w4⟩) w2⟩) w0
def a30 : Ann := (.seq .no (.seq .no (.seq .no (.seq .no (.seq .no (.seq .no .no))))))
theorem F30_eq (R : Value → World → Prop) (w0 : World) : F30  R w0 = vc Tryd.prog (bodyOf Tryd.f30) a30 (retQ Tryd.prog Tryd.f30 R) (envOf 0 []) w0 := by kernel_rfl
theorem F30_calls (R : Value → World → Prop) (w0 : World) (h : F30  R w0) : CallK Tryd.prog 30 #[] R w0 :=
 calls_vc (c := bodyOf Tryd.f30) Tryd.func30 (by kernel_rfl) (by kernel_rfl) a30 (by kernel_rfl) (by kernel_rfl) [] (by rw [Tryd.ntmps30]; exact Nat.le_of_ble_eq_true rfl) w0 R ((F30_eq  R w0).mp h)

/-- canton/elect.Order, its body as a formula. -/
def F31 (x0 : Value) (R : Value → World → Prop) (w0 : World) : Prop :=
 BuiltinK Tryd.prog .len #[22] 3 #[false] #[x0] (@hid _ ⟨fun t9_1 w2 =>
 LoopK2 (.slice none 0 0) (.int .i64 0) w2 (@hid _ ⟨fun _ x3_3 x10_4 w5 B6 =>
 BinK Tryd.prog .lss 3 x10_4 t9_1 (@hid _ ⟨fun t11_7 w8 =>
 BrK t11_7 (@hid _ ⟨
 IndexAtK Tryd.prog 22 x0 x10_4 (@hid _ ⟨fun t12_9 w10 =>
 LoadK Tryd.prog 55 t12_9 (@hid _ ⟨fun t13_11 w12 =>
 AllocK Tryd.prog 55 (@hid _ ⟨fun t5_13 w14 =>
 StoreK Tryd.prog 55 t5_13 t13_11 (@hid _ ⟨fun tu_15 w16 =>
 LoadK Tryd.prog 55 t5_13 (@hid _ ⟨fun t15_17 w18 =>
 CallV Tryd.prog (.func (.func 66) #[] #[]) #[t15_17] (@hid _ ⟨fun t16_19 w20 =>
 ExtractK Tryd.prog t16_19 0 (@hid _ ⟨fun t17_21 w22 =>
 ExtractK Tryd.prog t16_19 1 (@hid _ ⟨fun t18_23 w24 =>
 AllocK Tryd.prog 73 (@hid _ ⟨fun t6_25 w26 =>
 StoreK Tryd.prog 73 t6_25 t17_21 (@hid _ ⟨fun tu_27 w28 =>
 BrK t18_23 (@hid _ ⟨
 LoadK Tryd.prog 73 t6_25 (@hid _ ⟨fun t21_29 w30 =>
 BuildSliceK Tryd.prog 68 1 #[(0, t21_29)] (@hid _ ⟨fun t22_31 w32 =>
 BuiltinK Tryd.prog .append #[68, 68] 68 #[false, false] #[x3_3, t22_31] (@hid _ ⟨fun t23_33 w34 =>
 BinK Tryd.prog .add 3 x10_4 (.int .i64 1) (@hid _ ⟨fun t24_35 w36 =>
 B6 t23_33 t24_35 w36⟩) w34⟩) w32⟩) w30⟩) w28⟩) (@hid _ ⟨
 BinK Tryd.prog .add 3 x10_4 (.int .i64 1) (@hid _ ⟨fun t24_37 w38 =>
 B6 x3_3 t24_37 w38⟩) w28⟩)⟩) w26⟩) w24⟩) w22⟩) w20⟩) w18⟩) w16⟩) w14⟩) w12⟩) w10⟩) w8⟩) (@hid _ ⟨
 CallV Tryd.prog (.func (.func 67) #[] #[]) #[x3_3, (.func (.func 68) #[] #[])] (@hid _ ⟨fun t26_39 w40 =>
 CallV Tryd.prog (.func (.func 69) #[] #[]) #[x3_3] (@hid _ ⟨fun t28_41 w42 =>
 R t28_41 w42⟩) w40⟩) w8⟩)⟩) w5⟩)⟩) w0
def a31 : Ann := (.seq .no (.seq .no (.seq (.seq .no (.block (.loop [3, 10] [(5, 7), (11, 24)] (.seq .no (.seq (.cond .no .no) (.seq (.block (.seq .no (.seq .no (.seq .no (.cond .no .no))))) .no)))))) (.seq .no (.seq .no .no)))))
theorem F31_eq (x0 : Value) (R : Value → World → Prop) (w0 : World) : F31 x0 R w0 = vc Tryd.prog (bodyOf Tryd.f31) a31 (retQ Tryd.prog Tryd.f31 R) (envOf 0 [x0]) w0 := by kernel_rfl
theorem F31_calls (x0 : Value) (R : Value → World → Prop) (w0 : World) (h : F31 x0 R w0) : CallK Tryd.prog 31 #[x0] R w0 :=
 calls_vc (c := bodyOf Tryd.f31) Tryd.func31 (by kernel_rfl) (by kernel_rfl) a31 (by kernel_rfl) (by kernel_rfl) [x0] (by rw [Tryd.ntmps31]; exact Nat.le_of_ble_eq_true rfl) w0 R ((F31_eq x0 R w0).mp h)

/-- canton/cantonref21.Order, its body as a formula. -/
def F32 (x0 : Value) (R : Value → World → Prop) (w0 : World) : Prop :=
 LoopK2 (.slice none 0 0) (.int .i64 0) w0 (@hid _ ⟨fun _ x3_1 x4_2 w3 B4 =>
 BuiltinK Tryd.prog .len #[33] 3 #[false] #[x0] (@hid _ ⟨fun t14_5 w6 =>
 BinK Tryd.prog .lss 3 x4_2 t14_5 (@hid _ ⟨fun t15_7 w8 =>
 BrK t15_7 (@hid _ ⟨
 IndexAtK Tryd.prog 33 x0 x4_2 (@hid _ ⟨fun t21_9 w10 =>
 FieldAtK Tryd.prog 65 t21_9 2 (@hid _ ⟨fun t22_11 w12 =>
 LoadK Tryd.prog 63 t22_11 (@hid _ ⟨fun t23_13 w14 =>
 CallV Tryd.prog (.func (.func 70) #[] #[]) #[t23_13, (.string { data := #[114, 101, 112] })] (@hid _ ⟨fun t24_15 w16 =>
 ExtractK Tryd.prog t24_15 0 (@hid _ ⟨fun t25_17 w18 =>
 ExtractK Tryd.prog t24_15 1 (@hid _ ⟨fun t26_19 w20 =>
 AllocK Tryd.prog 121 (@hid _ ⟨fun t5_21 w22 =>
 StoreK Tryd.prog 121 t5_21 t25_17 (@hid _ ⟨fun tu_23 w24 =>
 UnK Tryd.prog .not t26_19 (@hid _ ⟨fun t28_25 w26 =>
 GuardK t28_25 false (fun k w => FieldAtK Tryd.prog 121 t5_21 0 k w) (@hid _ ⟨fun t30_27 w28 =>
 GuardK t28_25 false (fun k w => LoadK Tryd.prog 3 t30_27 k w) (@hid _ ⟨fun t31_29 w30 =>
 GuardK t28_25 false (fun k w => BinK Tryd.prog .neq 3 t31_29 (.int .i64 2) k w) (@hid _ ⟨fun t32_31 w32 =>
 PickK Tryd.prog t28_25 (.bool true) t32_31 (@hid _ ⟨fun t33_33 w34 =>
 GuardK t33_33 false (fun k w => FieldAtK Tryd.prog 121 t5_21 2 k w) (@hid _ ⟨fun t35_35 w36 =>
 GuardK t33_33 false (fun k w => LoadK Tryd.prog 9 t35_35 k w) (@hid _ ⟨fun t36_37 w38 =>
 GuardK t33_33 false (fun k w => CallV Tryd.prog (.func (.func 71) #[] #[]) #[t36_37] k w) (@hid _ ⟨fun t37_39 w40 =>
 GuardK t33_33 false (fun k w => UnK Tryd.prog .not t37_39 k w) (@hid _ ⟨fun t38_41 w42 =>
 PickK Tryd.prog t33_33 (.bool true) t38_41 (@hid _ ⟨fun t39_43 w44 =>
 BrK t39_43 (@hid _ ⟨
 BinK Tryd.prog .add 3 x4_2 (.int .i64 1) (@hid _ ⟨fun t17_45 w46 =>
 B4 x3_1 t17_45 w46⟩) w44⟩) (@hid _ ⟨
 CutK1 (@hid _ ⟨fun R47 =>
 DrawK (@hid _ ⟨fun S50 w51 =>
 TakeS Tryd.prog S50 (Instr.indexAt 33 x0 x4_2) (@hid _ ⟨fun t42_52 =>
 TakeS Tryd.prog S50 (Instr.fieldAt 65 t42_52 0) (@hid _ ⟨fun t43_53 =>
 TakeS Tryd.prog S50 (Instr.loadAt 9 t43_53) (@hid _ ⟨fun t44_54 =>
 TakeS Tryd.prog S50 (Instr.fieldAt 121 t5_21 2) (@hid _ ⟨fun t45_55 =>
 TakeS Tryd.prog S50 (Instr.loadAt 9 t45_55) (@hid _ ⟨fun t46_56 =>
 (BuildK Tryd.prog 76 #[(0, t44_54), (1, t46_56)] (@hid _ ⟨fun t47_57 w58 =>
 S50 w58 ∧
 (AllocK Tryd.prog 76 (@hid _ ⟨fun t7_59 w60 =>
 S50 w60 ∧
 (StoreK Tryd.prog 76 t7_59 t47_57 (@hid _ ⟨fun tu_61 w62 =>
 S50 w62 ∧
 R47 t7_59 w62⟩) w60) ∧
 True⟩) w58) ∧
 True⟩) w51) ∧
 (AllocK Tryd.prog 76 (@hid _ ⟨fun t7_63 w64 =>
 S50 w64 ∧
 (BuildK Tryd.prog 76 #[(0, t44_54), (1, t46_56)] (@hid _ ⟨fun t47_65 w66 =>
 S50 w66 ∧
 (StoreK Tryd.prog 76 t7_63 t47_65 (@hid _ ⟨fun tu_67 w68 =>
 S50 w68 ∧
 R47 t7_63 w68⟩) w66) ∧
 True⟩) w64) ∧
 True⟩) w51) ∧
 True⟩)⟩)⟩)⟩)⟩)⟩) w44⟩)
 (@hid _ ⟨fun _ x7_48 w49 =>
 IndexAtK Tryd.prog 33 x0 x4_2 (@hid _ ⟨fun t51_69 w70 =>
 FieldAtK Tryd.prog 65 t51_69 2 (@hid _ ⟨fun t52_71 w72 =>
 LoadK Tryd.prog 63 t52_71 (@hid _ ⟨fun t53_73 w74 =>
 CallV Tryd.prog (.func (.func 70) #[] #[]) #[t53_73, (.string { data := #[108, 111, 97, 100] })] (@hid _ ⟨fun t54_75 w76 =>
 ExtractK Tryd.prog t54_75 0 (@hid _ ⟨fun t55_77 w78 =>
 ExtractK Tryd.prog t54_75 1 (@hid _ ⟨fun t56_79 w80 =>
 AllocK Tryd.prog 121 (@hid _ ⟨fun t8_81 w82 =>
 StoreK Tryd.prog 121 t8_81 t55_77 (@hid _ ⟨fun tu_83 w84 =>
 CutK0 (@hid _ ⟨fun R85 =>
 GuardK t56_79 true (fun k w => FieldAtK Tryd.prog 121 t8_81 0 k w) (@hid _ ⟨fun t59_87 w88 =>
 GuardK t56_79 true (fun k w => LoadK Tryd.prog 3 t59_87 k w) (@hid _ ⟨fun t60_89 w90 =>
 GuardK t56_79 true (fun k w => BinK Tryd.prog .eql 3 t60_89 (.int .i64 1) k w) (@hid _ ⟨fun t61_91 w92 =>
 PickK Tryd.prog t56_79 t61_91 (.bool false) (@hid _ ⟨fun t62_93 w94 =>
 BrK t62_93 (@hid _ ⟨
 FieldAtK Tryd.prog 121 t8_81 1 (@hid _ ⟨fun t63_95 w96 =>
 LoadK Tryd.prog 2 t63_95 (@hid _ ⟨fun t64_97 w98 =>
 FieldAtK Tryd.prog 76 x7_48 2 (@hid _ ⟨fun t65_99 w100 =>
 StoreK Tryd.prog 2 t65_99 t64_97 (@hid _ ⟨fun tu_101 w102 =>
 R85 w102⟩) w100⟩) w98⟩) w96⟩) w94⟩) (@hid _ ⟨
 R85 w94⟩)⟩) w92⟩) w90⟩) w88⟩) w84⟩)
 (@hid _ ⟨fun _ w86 =>
 LoopK1 (.int .i64 0) w86 (@hid _ ⟨fun _ x10_103 w104 B105 =>
 DrawK (@hid _ ⟨fun S106 w107 =>
 TakeO Tryd.prog S106 (builtin .len #[70] 3 #[false] #[x3_1]) (@hid _ ⟨fun t68_108 =>
 BinT Tryd.prog S106 .lss 3 x10_103 t68_108 (@hid _ ⟨fun t69_109 =>
 TakeG t69_109 true (fun k => TakeS Tryd.prog S106 (Instr.loadAt 76 x7_48) k) (@hid _ ⟨fun t71_110 =>
 TakeG t69_109 true (fun k => k x3_1) (@hid _ ⟨fun t72_111 =>
 TakeG t69_109 true (fun k => k x10_103) (@hid _ ⟨fun t73_112 =>
 TakeG t69_109 true (fun k => TakeS Tryd.prog S106 (Instr.indexAt 70 t72_111 t73_112) k) (@hid _ ⟨fun t74_113 =>
 TakeG t69_109 true (fun k => TakeS Tryd.prog S106 (Instr.loadAt 76 t74_113) k) (@hid _ ⟨fun t75_114 =>
 (GuardK t69_109 true (fun k w => CallV Tryd.prog (.func (.func 72) #[] #[]) #[t71_110, t75_114] k w) (@hid _ ⟨fun t76_115 w116 =>
 S106 w116 ∧
 TakeG t69_109 true (fun k => TakeS Tryd.prog S106 (Op.unary .not t76_115) k) (@hid _ ⟨fun t77_117 =>
 PickT t69_109 t77_117 (.bool false) (@hid _ ⟨fun t78_118 =>
 BrK t78_118 (@hid _ ⟨
 BinK Tryd.prog .add 3 x10_103 (.int .i64 1) (@hid _ ⟨fun t80_119 w120 =>
 B105 t80_119 w120⟩) w116⟩) (@hid _ ⟨
 CutK1 (@hid _ ⟨fun R121 =>
 DrawK (@hid _ ⟨fun S124 w125 =>
 TakeS Tryd.prog S124 (Instr.sliceAt 70 x3_1 none (some x10_103) none) (@hid _ ⟨fun t84_126 =>
 TakeS Tryd.prog S124 (Instr.loadAt 76 x7_48) (@hid _ ⟨fun t86_127 =>
 (BuildSliceK Tryd.prog 70 0 #[] (@hid _ ⟨fun t81_128 w129 =>
 S124 w129 ∧
 (BuiltinK Tryd.prog .append #[70, 70] 70 #[false, false] #[t81_128, t84_126] (@hid _ ⟨fun t85_130 w131 =>
 S124 w131 ∧
 (BuildSliceK Tryd.prog 70 1 #[(0, t86_127)] (@hid _ ⟨fun t87_132 w133 =>
 S124 w133 ∧
 (BuiltinK Tryd.prog .append #[70, 70] 70 #[false, false] #[t85_130, t87_132] (@hid _ ⟨fun t88_134 w135 =>
 S124 w135 ∧
 R121 t88_134 w135⟩) w133) ∧
 True⟩) w131) ∧
 True⟩) w129) ∧
 (BuildSliceK Tryd.prog 70 1 #[(0, t86_127)] (@hid _ ⟨fun t87_136 w137 =>
 S124 w137 ∧
 (BuiltinK Tryd.prog .append #[70, 70] 70 #[false, false] #[t81_128, t84_126] (@hid _ ⟨fun t85_138 w139 =>
 S124 w139 ∧
 (BuiltinK Tryd.prog .append #[70, 70] 70 #[false, false] #[t85_138, t87_136] (@hid _ ⟨fun t88_140 w141 =>
 S124 w141 ∧
 R121 t88_140 w141⟩) w139) ∧
 True⟩) w137) ∧
 True⟩) w129) ∧
 True⟩) w125) ∧
 (BuildSliceK Tryd.prog 70 1 #[(0, t86_127)] (@hid _ ⟨fun t87_142 w143 =>
 S124 w143 ∧
 (BuildSliceK Tryd.prog 70 0 #[] (@hid _ ⟨fun t81_144 w145 =>
 S124 w145 ∧
 (BuiltinK Tryd.prog .append #[70, 70] 70 #[false, false] #[t81_144, t84_126] (@hid _ ⟨fun t85_146 w147 =>
 S124 w147 ∧
 (BuiltinK Tryd.prog .append #[70, 70] 70 #[false, false] #[t85_146, t87_142] (@hid _ ⟨fun t88_148 w149 =>
 S124 w149 ∧
 R121 t88_148 w149⟩) w147) ∧
 True⟩) w145) ∧
 True⟩) w143) ∧
 True⟩) w125) ∧
 True⟩)⟩)⟩) w116⟩)
 (@hid _ ⟨fun _ x11_122 w123 =>
 SliceK Tryd.prog 70 x3_1 (some x10_103) none none (@hid _ ⟨fun t92_150 w151 =>
 BuiltinK Tryd.prog .append #[70, 70] 70 #[false, false] #[x11_122, t92_150] (@hid _ ⟨fun t93_152 w153 =>
 BinK Tryd.prog .add 3 x4_2 (.int .i64 1) (@hid _ ⟨fun t17_154 w155 =>
 B4 t93_152 t17_154 w155⟩) w153⟩) w151⟩) w123⟩)⟩)⟩)⟩)⟩) w107) ∧
 True⟩)⟩)⟩)⟩)⟩)⟩)⟩)⟩) w104⟩)⟩)⟩) w82⟩) w80⟩) w78⟩) w76⟩) w74⟩) w72⟩) w70⟩) w49⟩)⟩)⟩) w42⟩) w40⟩) w38⟩) w36⟩) w34⟩) w32⟩) w30⟩) w28⟩) w26⟩) w24⟩) w22⟩) w20⟩) w18⟩) w16⟩) w14⟩) w12⟩) w10⟩) w8⟩) (@hid _ ⟨
 R x3_1 w8⟩)⟩) w6⟩) w3⟩)
def a32 : Ann := (.seq .no (.seq .no (.seq (.seq .no (.block (.loop [3, 4] [(5, 93)] (.seq (.seq .no (.cond .no .no)) (.seq (.block (.seq .no (.seq (.seq .no (.cond .no .no)) (.cut [7] [(40, 47)] (.plan (.take 0 (.take 1 (.take 2 (.take 3 (.take 4 (.take 5 (.take 6 (.alt 7 (.alt 8 (.alt 9 .done .nil) .nil) (.alt 8 (.alt 7 (.alt 9 .done .nil) .nil) .nil)))))))))) (.seq .no (.cut [] [(57, 65)] (.seq .no (.cond .no .no)) (.seq .no (.seq (.block (.loop [10] [(66, 80)] (.seq (.seq (.plan (.take 0 (.take 1 (.take 2 (.take 3 (.take 4 (.take 5 (.take 6 (.take 7 (.take 8 (.take 9 (.alt 10 (.take 11 (.take 12 .done)) .nil)))))))))))) (.cond .no .no)) (.block .no)))) (.cut [11] [(81, 88)] (.plan (.take 1 (.take 2 (.take 3 (.take 5 (.alt 0 (.alt 4 (.alt 6 (.alt 7 (.take 8 .done) .nil) .nil) (.alt 6 (.alt 4 (.alt 7 (.take 8 .done) .nil) .nil) .nil)) (.alt 6 (.alt 0 (.alt 4 (.alt 7 (.take 8 .done) .nil) .nil) .nil) .nil))))))) .no))))))))) .no))))) (.seq .no .no))))
theorem F32_eq (x0 : Value) (R : Value → World → Prop) (w0 : World) : F32 x0 R w0 = vc Tryd.prog (bodyOf Tryd.f32) a32 (retQ Tryd.prog Tryd.f32 R) (envOf 0 [x0]) w0 := by kernel_rfl
theorem F32_calls (x0 : Value) (R : Value → World → Prop) (w0 : World) (h : F32 x0 R w0) : CallK Tryd.prog 32 #[x0] R w0 :=
 calls_vc (c := bodyOf Tryd.f32) Tryd.func32 (by kernel_rfl) (by kernel_rfl) a32 (by kernel_rfl) (by kernel_rfl) [x0] (by rw [Tryd.ntmps32]; exact Nat.le_of_ble_eq_true rfl) w0 R ((F32_eq x0 R w0).mp h)

/-- canton/elect.Rep, its body as a formula. -/
def F33 (x0 : Value) (R : Value → World → Prop) (w0 : World) : Prop :=
 AllocK Tryd.prog 73 (@hid _ ⟨fun t2_1 w2 =>
 CallV Tryd.prog (.func (.func 31) #[] #[]) #[x0] (@hid _ ⟨fun t5_3 w4 =>
 CallV Tryd.prog (.func (.func 73) #[] #[]) #[t5_3] (@hid _ ⟨fun t6_5 w6 =>
 ExtractK Tryd.prog t6_5 0 (@hid _ ⟨fun t7_7 w8 =>
 ExtractK Tryd.prog t6_5 1 (@hid _ ⟨fun t8_9 w10 =>
 StoreK Tryd.prog 73 t2_1 t7_7 (@hid _ ⟨fun tu_11 w12 =>
 LoadK Tryd.prog 73 t2_1 (@hid _ ⟨fun c13 w14 => w14 = w12 ∧ R (.tuple #[c13, t8_9]) w12⟩) w12⟩) w10⟩) w8⟩) w6⟩) w4⟩) w2⟩) w0
def a33 : Ann := (.seq .no (.seq .no .no))
theorem F33_eq (x0 : Value) (R : Value → World → Prop) (w0 : World) : F33 x0 R w0 = vc Tryd.prog (bodyOf Tryd.f33) a33 (retQ Tryd.prog Tryd.f33 R) (envOf 0 [x0]) w0 := by kernel_rfl
theorem F33_calls (x0 : Value) (R : Value → World → Prop) (w0 : World) (h : F33 x0 R w0) : CallK Tryd.prog 33 #[x0] R w0 :=
 calls_vc (c := bodyOf Tryd.f33) Tryd.func33 (by kernel_rfl) (by kernel_rfl) a33 (by kernel_rfl) (by kernel_rfl) [x0] (by rw [Tryd.ntmps33]; exact Nat.le_of_ble_eq_true rfl) w0 R ((F33_eq x0 R w0).mp h)

/-- canton/cantonref21.Rep, its body as a formula. -/
def F34 (x0 : Value) (R : Value → World → Prop) (w0 : World) : Prop :=
 AllocK Tryd.prog 76 (@hid _ ⟨fun t2_1 w2 =>
 CallV Tryd.prog (.func (.func 32) #[] #[]) #[x0] (@hid _ ⟨fun t6_3 w4 =>
 BuiltinK Tryd.prog .len #[70] 3 #[false] #[t6_3] (@hid _ ⟨fun t8_5 w6 =>
 BinK Tryd.prog .eql 3 t8_5 (.int .i64 0) (@hid _ ⟨fun t9_7 w8 =>
 BrK t9_7 (@hid _ ⟨
 BuildK Tryd.prog 76 #[] (@hid _ ⟨fun t10_9 w10 =>
 StoreK Tryd.prog 76 t2_1 t10_9 (@hid _ ⟨fun tu_11 w12 =>
 LoadK Tryd.prog 76 t2_1 (@hid _ ⟨fun c13 w14 => w14 = w12 ∧ R (.tuple #[c13, (.bool false)]) w12⟩) w12⟩) w10⟩) w8⟩) (@hid _ ⟨
 IndexAtK Tryd.prog 70 t6_3 (.int .i64 0) (@hid _ ⟨fun t12_15 w16 =>
 LoadK Tryd.prog 76 t12_15 (@hid _ ⟨fun t13_17 w18 =>
 StoreK Tryd.prog 76 t2_1 t13_17 (@hid _ ⟨fun tu_19 w20 =>
 LoadK Tryd.prog 76 t2_1 (@hid _ ⟨fun c21 w22 => w22 = w20 ∧ R (.tuple #[c21, (.bool true)]) w20⟩) w20⟩) w18⟩) w16⟩) w8⟩)⟩) w6⟩) w4⟩) w2⟩) w0
def a34 : Ann := (.seq .no (.seq .no (.seq (.seq .no (.cond (.seq .no .no) .no)) (.seq .no .no))))
theorem F34_eq (x0 : Value) (R : Value → World → Prop) (w0 : World) : F34 x0 R w0 = vc Tryd.prog (bodyOf Tryd.f34) a34 (retQ Tryd.prog Tryd.f34 R) (envOf 0 [x0]) w0 := by kernel_rfl
theorem F34_calls (x0 : Value) (R : Value → World → Prop) (w0 : World) (h : F34 x0 R w0) : CallK Tryd.prog 34 #[x0] R w0 :=
 calls_vc (c := bodyOf Tryd.f34) Tryd.func34 (by kernel_rfl) (by kernel_rfl) a34 (by kernel_rfl) (by kernel_rfl) [x0] (by rw [Tryd.ntmps34]; exact Nat.le_of_ble_eq_true rfl) w0 R ((F34_eq x0 R w0).mp h)

/-- canton/cantonlaw15.who, its body as a formula. -/
def F35 (x0 x1 x2 : Value) (R : Value → World → Prop) (w0 : World) : Prop :=
 AllocK Tryd.prog 55 (@hid _ ⟨fun t6_1 w2 =>
 BuildK Tryd.prog 126 #[(0, (.int .i64 1)), (1, x2)] (@hid _ ⟨fun t9_3 w4 =>
 BuildK Tryd.prog 128 #[(0, (.string { data := #[108, 111, 97, 100] })), (1, t9_3)] (@hid _ ⟨fun t10_5 w6 =>
 BuildK Tryd.prog 126 #[(0, (.int .i64 2)), (2, x1)] (@hid _ ⟨fun t12_7 w8 =>
 BuildK Tryd.prog 128 #[(0, (.string { data := #[114, 101, 112] })), (1, t12_7)] (@hid _ ⟨fun t13_9 w10 =>
 BuildSliceK Tryd.prog 53 2 #[(0, t10_5), (1, t13_9)] (@hid _ ⟨fun t14_11 w12 =>
 BuildK Tryd.prog 55 #[(0, x0), (2, t14_11)] (@hid _ ⟨fun t15_13 w14 =>
 StoreK Tryd.prog 55 t6_1 t15_13 (@hid _ ⟨fun tu_15 w16 =>
 LoadK Tryd.prog 55 t6_1 (@hid _ ⟨fun c17 w18 => w18 = w16 ∧ R c17 w16⟩) w16⟩) w14⟩) w12⟩) w10⟩) w8⟩) w6⟩) w4⟩) w2⟩) w0
def a35 : Ann := (.seq .no (.seq .no .no))
theorem F35_eq (x0 x1 x2 : Value) (R : Value → World → Prop) (w0 : World) : F35 x0 x1 x2 R w0 = vc Tryd.prog (bodyOf Tryd.f35) a35 (retQ Tryd.prog Tryd.f35 R) (envOf 0 [x0, x1, x2]) w0 := by kernel_rfl
theorem F35_calls (x0 x1 x2 : Value) (R : Value → World → Prop) (w0 : World) (h : F35 x0 x1 x2 R w0) : CallK Tryd.prog 35 #[x0, x1, x2] R w0 :=
 calls_vc (c := bodyOf Tryd.f35) Tryd.func35 (by kernel_rfl) (by kernel_rfl) a35 (by kernel_rfl) (by kernel_rfl) [x0, x1, x2] (by rw [Tryd.ntmps35]; exact Nat.le_of_ble_eq_true rfl) w0 R ((F35_eq x0 x1 x2 R w0).mp h)

/-- canton/cantonref7.CheckStamp, its body as a formula. -/
def F36 (x0 : Value) (R : Value → World → Prop) (w0 : World) : Prop :=
 BoxK Tryd.prog 38 x0 (@hid _ ⟨fun t1_1 w2 =>
 FieldAtK Tryd.prog 38 t1_1 0 (@hid _ ⟨fun t4_3 w4 =>
 LoadK Tryd.prog 2 t4_3 (@hid _ ⟨fun t5_5 w6 =>
 CallV Tryd.prog (.func (.func 74) #[] #[]) #[t5_5] (@hid _ ⟨fun t6_7 w8 =>
 UnK Tryd.prog .not t6_7 (@hid _ ⟨fun t7_9 w10 =>
 GuardK t7_9 false (fun k w => FieldAtK Tryd.prog 38 t1_1 1 k w) (@hid _ ⟨fun t9_11 w12 =>
 GuardK t7_9 false (fun k w => LoadK Tryd.prog 2 t9_11 k w) (@hid _ ⟨fun t10_13 w14 =>
 GuardK t7_9 false (fun k w => CallV Tryd.prog (.func (.func 74) #[] #[]) #[t10_13] k w) (@hid _ ⟨fun t11_15 w16 =>
 GuardK t7_9 false (fun k w => UnK Tryd.prog .not t11_15 k w) (@hid _ ⟨fun t12_17 w18 =>
 PickK Tryd.prog t7_9 (.bool true) t12_17 (@hid _ ⟨fun t13_19 w20 =>
 GuardK t13_19 false (fun k w => FieldAtK Tryd.prog 38 t1_1 2 k w) (@hid _ ⟨fun t15_21 w22 =>
 GuardK t13_19 false (fun k w => LoadK Tryd.prog 2 t15_21 k w) (@hid _ ⟨fun t16_23 w24 =>
 GuardK t13_19 false (fun k w => CallV Tryd.prog (.func (.func 74) #[] #[]) #[t16_23] k w) (@hid _ ⟨fun t17_25 w26 =>
 GuardK t13_19 false (fun k w => UnK Tryd.prog .not t17_25 k w) (@hid _ ⟨fun t18_27 w28 =>
 PickK Tryd.prog t13_19 (.bool true) t18_27 (@hid _ ⟨fun t19_29 w30 =>
 BrK t19_29 (@hid _ ⟨
 R (.int .i64 1) w30⟩) (@hid _ ⟨
 FieldAtK Tryd.prog 38 t1_1 3 (@hid _ ⟨fun t21_31 w32 =>
 LoadK Tryd.prog 9 t21_31 (@hid _ ⟨fun t22_33 w34 =>
 CallV Tryd.prog (.func (.func 71) #[] #[]) #[t22_33] (@hid _ ⟨fun t23_35 w36 =>
 UnK Tryd.prog .not t23_35 (@hid _ ⟨fun t24_37 w38 =>
 BrK t24_37 (@hid _ ⟨
 R (.int .i64 5) w38⟩) (@hid _ ⟨
 R (.int .i64 0) w38⟩)⟩) w36⟩) w34⟩) w32⟩) w30⟩)⟩) w28⟩) w26⟩) w24⟩) w22⟩) w20⟩) w18⟩) w16⟩) w14⟩) w12⟩) w10⟩) w8⟩) w6⟩) w4⟩) w2⟩) w0
def a36 : Ann := (.seq .no (.seq (.block (.seq .no (.cond (.seq .no .no) (.seq .no (.cond (.seq .no .no) .no))))) (.seq .no .no)))
theorem F36_eq (x0 : Value) (R : Value → World → Prop) (w0 : World) : F36 x0 R w0 = vc Tryd.prog (bodyOf Tryd.f36) a36 (retQ Tryd.prog Tryd.f36 R) (envOf 0 [x0]) w0 := by kernel_rfl
theorem F36_calls (x0 : Value) (R : Value → World → Prop) (w0 : World) (h : F36 x0 R w0) : CallK Tryd.prog 36 #[x0] R w0 :=
 calls_vc (c := bodyOf Tryd.f36) Tryd.func36 (by kernel_rfl) (by kernel_rfl) a36 (by kernel_rfl) (by kernel_rfl) [x0] (by rw [Tryd.ntmps36]; exact Nat.le_of_ble_eq_true rfl) w0 R ((F36_eq x0 R w0).mp h)

/-- canton/cantonref7.Name, its body as a formula. -/
def F37 (x0 : Value) (R : Value → World → Prop) (w0 : World) : Prop :=
 BuiltinK Tryd.prog .len #[9] 3 #[false] #[x0] (@hid _ ⟨fun t5_1 w2 =>
 BinK Tryd.prog .lss 3 t5_1 (.int .i64 1) (@hid _ ⟨fun t6_3 w4 =>
 GuardK t6_3 false (fun k w => k x0 w) (@hid _ ⟨fun t8_5 w6 =>
 GuardK t6_3 false (fun k w => BuiltinK Tryd.prog .len #[9] 3 #[false] #[t8_5] k w) (@hid _ ⟨fun t9_7 w8 =>
 GuardK t6_3 false (fun k w => BinK Tryd.prog .gtr 3 t9_7 (.int .i64 8) k w) (@hid _ ⟨fun t10_9 w10 =>
 PickK Tryd.prog t6_3 (.bool true) t10_9 (@hid _ ⟨fun t11_11 w12 =>
 GuardK t11_11 false (fun k w => k x0 w) (@hid _ ⟨fun t13_13 w14 =>
 GuardK t11_11 false (fun k w => ValK Tryd.prog (Instr.index 9 t13_13 (.int .i64 0)) k w) (@hid _ ⟨fun t14_15 w16 =>
 GuardK t11_11 false (fun k w => BinK Tryd.prog .lss 5 t14_15 (.int .u8 97) k w) (@hid _ ⟨fun t15_17 w18 =>
 PickK Tryd.prog t11_11 (.bool true) t15_17 (@hid _ ⟨fun t16_19 w20 =>
 GuardK t16_19 false (fun k w => k x0 w) (@hid _ ⟨fun t18_21 w22 =>
 GuardK t16_19 false (fun k w => ValK Tryd.prog (Instr.index 9 t18_21 (.int .i64 0)) k w) (@hid _ ⟨fun t19_23 w24 =>
 GuardK t16_19 false (fun k w => BinK Tryd.prog .gtr 5 t19_23 (.int .u8 122) k w) (@hid _ ⟨fun t20_25 w26 =>
 PickK Tryd.prog t16_19 (.bool true) t20_25 (@hid _ ⟨fun t21_27 w28 =>
 BrK t21_27 (@hid _ ⟨
 R (.bool false) w28⟩) (@hid _ ⟨
 LoopK1 (.int .i64 0) w28 (@hid _ ⟨fun _ x3_29 w30 B31 =>
 BuiltinK Tryd.prog .len #[9] 3 #[false] #[x0] (@hid _ ⟨fun t24_32 w33 =>
 BinK Tryd.prog .lss 3 x3_29 t24_32 (@hid _ ⟨fun t25_34 w35 =>
 BrK t25_34 (@hid _ ⟨
 ValK Tryd.prog (Instr.index 9 x0 x3_29) (@hid _ ⟨fun t30_36 w37 =>
 BinK Tryd.prog .lss 5 t30_36 (.int .u8 97) (@hid _ ⟨fun t31_38 w39 =>
 GuardK t31_38 false (fun k w => k x0 w) (@hid _ ⟨fun t33_40 w41 =>
 GuardK t31_38 false (fun k w => k x3_29 w) (@hid _ ⟨fun t34_42 w43 =>
 GuardK t31_38 false (fun k w => ValK Tryd.prog (Instr.index 9 t33_40 t34_42) k w) (@hid _ ⟨fun t35_44 w45 =>
 GuardK t31_38 false (fun k w => BinK Tryd.prog .gtr 5 t35_44 (.int .u8 122) k w) (@hid _ ⟨fun t36_46 w47 =>
 PickK Tryd.prog t31_38 (.bool true) t36_46 (@hid _ ⟨fun t37_48 w49 =>
 GuardK t37_48 true (fun k w => k x0 w) (@hid _ ⟨fun t39_50 w51 =>
 GuardK t37_48 true (fun k w => k x3_29 w) (@hid _ ⟨fun t40_52 w53 =>
 GuardK t37_48 true (fun k w => ValK Tryd.prog (Instr.index 9 t39_50 t40_52) k w) (@hid _ ⟨fun t41_54 w55 =>
 GuardK t37_48 true (fun k w => BinK Tryd.prog .lss 5 t41_54 (.int .u8 48) k w) (@hid _ ⟨fun t42_56 w57 =>
 GuardK t37_48 true (fun k w => k t42_56 w) (@hid _ ⟨fun t43_58 w59 =>
 GuardK t43_58 false (fun k w => k x0 w) (@hid _ ⟨fun t44_60 w61 =>
 GuardK t43_58 false (fun k w => k x3_29 w) (@hid _ ⟨fun t45_62 w63 =>
 GuardK t43_58 false (fun k w => ValK Tryd.prog (Instr.index 9 t44_60 t45_62) k w) (@hid _ ⟨fun t46_64 w65 =>
 GuardK t43_58 false (fun k w => BinK Tryd.prog .gtr 5 t46_64 (.int .u8 57) k w) (@hid _ ⟨fun t47_66 w67 =>
 GuardK t37_48 true (fun k w => PickK Tryd.prog t43_58 (.bool true) t47_66 k w) (@hid _ ⟨fun t48_68 w69 =>
 PickK Tryd.prog t37_48 t48_68 (.bool false) (@hid _ ⟨fun t49_70 w71 =>
 BrK t49_70 (@hid _ ⟨
 R (.bool false) w71⟩) (@hid _ ⟨
 BinK Tryd.prog .add 3 x3_29 (.int .i64 1) (@hid _ ⟨fun t27_72 w73 =>
 B31 t27_72 w73⟩) w71⟩)⟩) w69⟩) w67⟩) w65⟩) w63⟩) w61⟩) w59⟩) w57⟩) w55⟩) w53⟩) w51⟩) w49⟩) w47⟩) w45⟩) w43⟩) w41⟩) w39⟩) w37⟩) w35⟩) (@hid _ ⟨
 R (.bool true) w35⟩)⟩) w33⟩) w30⟩)⟩)⟩) w26⟩) w24⟩) w22⟩) w20⟩) w18⟩) w16⟩) w14⟩) w12⟩) w10⟩) w8⟩) w6⟩) w4⟩) w2⟩) w0
def a37 : Ann := (.seq .no (.seq (.seq .no (.cond (.seq .no .no) .no)) (.seq (.seq .no (.block (.loop [3] [(2, 2), (22, 49)] (.seq (.seq .no (.cond .no .no)) (.seq (.block (.seq .no (.cond (.seq .no .no) .no))) .no))))) (.seq .no .no))))
theorem F37_eq (x0 : Value) (R : Value → World → Prop) (w0 : World) : F37 x0 R w0 = vc Tryd.prog (bodyOf Tryd.f37) a37 (retQ Tryd.prog Tryd.f37 R) (envOf 0 [x0]) w0 := by kernel_rfl
theorem F37_calls (x0 : Value) (R : Value → World → Prop) (w0 : World) (h : F37 x0 R w0) : CallK Tryd.prog 37 #[x0] R w0 :=
 calls_vc (c := bodyOf Tryd.f37) Tryd.func37 (by kernel_rfl) (by kernel_rfl) a37 (by kernel_rfl) (by kernel_rfl) [x0] (by rw [Tryd.ntmps37]; exact Nat.le_of_ble_eq_true rfl) w0 R ((F37_eq x0 R w0).mp h)

/-- canton/cantonlaw3.Of, its body as a formula. -/
def F38 (x0 : Value) (R : Value → World → Prop) (w0 : World) : Prop :=
 BoxK Tryd.prog 52 x0 (@hid _ ⟨fun t1_1 w2 =>
 AllocK Tryd.prog 38 (@hid _ ⟨fun t2_3 w4 =>
 FieldAtK Tryd.prog 52 t1_1 0 (@hid _ ⟨fun t3_5 w6 =>
 LoadK Tryd.prog 2 t3_5 (@hid _ ⟨fun t4_7 w8 =>
 FieldAtK Tryd.prog 52 t1_1 1 (@hid _ ⟨fun t5_9 w10 =>
 LoadK Tryd.prog 2 t5_9 (@hid _ ⟨fun t6_11 w12 =>
 FieldAtK Tryd.prog 52 t1_1 2 (@hid _ ⟨fun t7_13 w14 =>
 LoadK Tryd.prog 2 t7_13 (@hid _ ⟨fun t8_15 w16 =>
 FieldAtK Tryd.prog 52 t1_1 3 (@hid _ ⟨fun t9_17 w18 =>
 LoadK Tryd.prog 9 t9_17 (@hid _ ⟨fun t10_19 w20 =>
 BuildK Tryd.prog 38 #[(0, t4_7), (1, t6_11), (2, t8_15), (3, t10_19)] (@hid _ ⟨fun t11_21 w22 =>
 StoreK Tryd.prog 38 t2_3 t11_21 (@hid _ ⟨fun tu_23 w24 =>
 LoadK Tryd.prog 38 t2_3 (@hid _ ⟨fun c25 w26 => w26 = w24 ∧ R c25 w24⟩) w24⟩) w22⟩) w20⟩) w18⟩) w16⟩) w14⟩) w12⟩) w10⟩) w8⟩) w6⟩) w4⟩) w2⟩) w0
def a38 : Ann := (.seq .no (.seq .no .no))
theorem F38_eq (x0 : Value) (R : Value → World → Prop) (w0 : World) : F38 x0 R w0 = vc Tryd.prog (bodyOf Tryd.f38) a38 (retQ Tryd.prog Tryd.f38 R) (envOf 0 [x0]) w0 := by kernel_rfl
theorem F38_calls (x0 : Value) (R : Value → World → Prop) (w0 : World) (h : F38 x0 R w0) : CallK Tryd.prog 38 #[x0] R w0 :=
 calls_vc (c := bodyOf Tryd.f38) Tryd.func38 (by kernel_rfl) (by kernel_rfl) a38 (by kernel_rfl) (by kernel_rfl) [x0] (by rw [Tryd.ntmps38]; exact Nat.le_of_ble_eq_true rfl) w0 R ((F38_eq x0 R w0).mp h)

/-- canton/row.Name, its body as a formula. -/
def F39 (x0 : Value) (R : Value → World → Prop) (w0 : World) : Prop :=
 BinK Tryd.prog .eql 9 x0 (.string { data := #[] }) (@hid _ ⟨fun t5_1 w2 =>
 GuardK t5_1 false (fun k w => k x0 w) (@hid _ ⟨fun t7_3 w4 =>
 GuardK t5_1 false (fun k w => BuiltinK Tryd.prog .len #[9] 3 #[false] #[t7_3] k w) (@hid _ ⟨fun t8_5 w6 =>
 GuardK t5_1 false (fun k w => BinK Tryd.prog .gtr 3 t8_5 (.int .i64 8) k w) (@hid _ ⟨fun t9_7 w8 =>
 PickK Tryd.prog t5_1 (.bool true) t9_7 (@hid _ ⟨fun t10_9 w10 =>
 GuardK t10_9 false (fun k w => k x0 w) (@hid _ ⟨fun t12_11 w12 =>
 GuardK t10_9 false (fun k w => ValK Tryd.prog (Instr.index 9 t12_11 (.int .i64 0)) k w) (@hid _ ⟨fun t13_13 w14 =>
 GuardK t10_9 false (fun k w => BinK Tryd.prog .lss 5 t13_13 (.int .u8 97) k w) (@hid _ ⟨fun t14_15 w16 =>
 PickK Tryd.prog t10_9 (.bool true) t14_15 (@hid _ ⟨fun t15_17 w18 =>
 BrK t15_17 (@hid _ ⟨
 R (.bool false) w18⟩) (@hid _ ⟨
 BuiltinK Tryd.prog .len #[9] 3 #[false] #[x0] (@hid _ ⟨fun t17_19 w20 =>
 LoopK1 (.int .i64 0) w20 (@hid _ ⟨fun _ x18_21 w22 B23 =>
 BinK Tryd.prog .lss 3 x18_21 t17_19 (@hid _ ⟨fun t19_24 w25 =>
 BrK t19_24 (@hid _ ⟨
 ValK Tryd.prog (Instr.index 9 x0 x18_21) (@hid _ ⟨fun t23_26 w27 =>
 BinK Tryd.prog .lss 5 t23_26 (.int .u8 97) (@hid _ ⟨fun t24_28 w29 =>
 GuardK t24_28 false (fun k w => k x0 w) (@hid _ ⟨fun t26_30 w31 =>
 GuardK t24_28 false (fun k w => k x18_21 w) (@hid _ ⟨fun t27_32 w33 =>
 GuardK t24_28 false (fun k w => ValK Tryd.prog (Instr.index 9 t26_30 t27_32) k w) (@hid _ ⟨fun t28_34 w35 =>
 GuardK t24_28 false (fun k w => BinK Tryd.prog .gtr 5 t28_34 (.int .u8 122) k w) (@hid _ ⟨fun t29_36 w37 =>
 PickK Tryd.prog t24_28 (.bool true) t29_36 (@hid _ ⟨fun t30_38 w39 =>
 GuardK t30_38 true (fun k w => k x0 w) (@hid _ ⟨fun t32_40 w41 =>
 GuardK t30_38 true (fun k w => k x18_21 w) (@hid _ ⟨fun t33_42 w43 =>
 GuardK t30_38 true (fun k w => ValK Tryd.prog (Instr.index 9 t32_40 t33_42) k w) (@hid _ ⟨fun t34_44 w45 =>
 GuardK t30_38 true (fun k w => BinK Tryd.prog .lss 5 t34_44 (.int .u8 48) k w) (@hid _ ⟨fun t35_46 w47 =>
 GuardK t30_38 true (fun k w => k t35_46 w) (@hid _ ⟨fun t36_48 w49 =>
 GuardK t36_48 false (fun k w => k x0 w) (@hid _ ⟨fun t37_50 w51 =>
 GuardK t36_48 false (fun k w => k x18_21 w) (@hid _ ⟨fun t38_52 w53 =>
 GuardK t36_48 false (fun k w => ValK Tryd.prog (Instr.index 9 t37_50 t38_52) k w) (@hid _ ⟨fun t39_54 w55 =>
 GuardK t36_48 false (fun k w => BinK Tryd.prog .gtr 5 t39_54 (.int .u8 57) k w) (@hid _ ⟨fun t40_56 w57 =>
 GuardK t30_38 true (fun k w => PickK Tryd.prog t36_48 (.bool true) t40_56 k w) (@hid _ ⟨fun t41_58 w59 =>
 PickK Tryd.prog t30_38 t41_58 (.bool false) (@hid _ ⟨fun t42_60 w61 =>
 BrK t42_60 (@hid _ ⟨
 R (.bool false) w61⟩) (@hid _ ⟨
 BinK Tryd.prog .add 3 x18_21 (.int .i64 1) (@hid _ ⟨fun t43_62 w63 =>
 B23 t43_62 w63⟩) w61⟩)⟩) w59⟩) w57⟩) w55⟩) w53⟩) w51⟩) w49⟩) w47⟩) w45⟩) w43⟩) w41⟩) w39⟩) w37⟩) w35⟩) w33⟩) w31⟩) w29⟩) w27⟩) w25⟩) (@hid _ ⟨
 R (.bool true) w25⟩)⟩) w22⟩)⟩) w18⟩)⟩) w16⟩) w14⟩) w12⟩) w10⟩) w8⟩) w6⟩) w4⟩) w2⟩) w0
def a39 : Ann := (.seq .no (.seq (.seq .no (.cond (.seq .no .no) .no)) (.seq (.seq .no (.block (.loop [18] [(2, 3), (19, 43)] (.seq .no (.seq (.cond .no .no) (.seq (.block (.seq .no (.seq .no (.cond (.seq .no .no) .no)))) .no)))))) (.seq .no .no))))
theorem F39_eq (x0 : Value) (R : Value → World → Prop) (w0 : World) : F39 x0 R w0 = vc Tryd.prog (bodyOf Tryd.f39) a39 (retQ Tryd.prog Tryd.f39 R) (envOf 0 [x0]) w0 := by kernel_rfl
theorem F39_calls (x0 : Value) (R : Value → World → Prop) (w0 : World) (h : F39 x0 R w0) : CallK Tryd.prog 39 #[x0] R w0 :=
 calls_vc (c := bodyOf Tryd.f39) Tryd.func39 (by kernel_rfl) (by kernel_rfl) a39 (by kernel_rfl) (by kernel_rfl) [x0] (by rw [Tryd.ntmps39]; exact Nat.le_of_ble_eq_true rfl) w0 R ((F39_eq x0 R w0).mp h)

/-- cmp.Compare[string], its body as a formula. -/
def F40 (x0 x1 : Value) (R : Value → World → Prop) (w0 : World) : Prop :=
 CallV Tryd.prog (.func (.func 75) #[] #[]) #[x0] (@hid _ ⟨fun t8_1 w2 =>
 CallV Tryd.prog (.func (.func 75) #[] #[]) #[x1] (@hid _ ⟨fun t10_3 w4 =>
 BrK t8_1 (@hid _ ⟨
 BrK t10_3 (@hid _ ⟨
 R (.int .i64 0) w4⟩) (@hid _ ⟨
 R (.int .i64 (-1)) w4⟩)⟩) (@hid _ ⟨
 BrK t10_3 (@hid _ ⟨
 R (.int .i64 1) w4⟩) (@hid _ ⟨
 BinK Tryd.prog .lss 9 x0 x1 (@hid _ ⟨fun t16_5 w6 =>
 BrK t16_5 (@hid _ ⟨
 R (.int .i64 (-1)) w6⟩) (@hid _ ⟨
 BinK Tryd.prog .gtr 9 x0 x1 (@hid _ ⟨fun t19_7 w8 =>
 BrK t19_7 (@hid _ ⟨
 R (.int .i64 1) w8⟩) (@hid _ ⟨
 R (.int .i64 0) w8⟩)⟩) w6⟩)⟩) w4⟩)⟩)⟩) w2⟩) w0
def a40 : Ann := (.seq .no (.seq .no (.seq .no (.seq (.seq .no (.cond (.seq (.seq .no (.cond (.seq .no .no) .no)) (.seq .no .no)) .no)) (.seq (.seq .no (.cond (.seq .no .no) .no)) (.seq (.seq .no (.cond (.seq .no .no) .no)) (.seq (.seq .no (.cond (.seq .no .no) .no)) (.seq .no .no))))))))
theorem F40_eq (x0 x1 : Value) (R : Value → World → Prop) (w0 : World) : F40 x0 x1 R w0 = vc Tryd.prog (bodyOf Tryd.f40) a40 (retQ Tryd.prog Tryd.f40 R) (envOf 0 [x0, x1]) w0 := by kernel_rfl
theorem F40_calls (x0 x1 : Value) (R : Value → World → Prop) (w0 : World) (h : F40 x0 x1 R w0) : CallK Tryd.prog 40 #[x0, x1] R w0 :=
 calls_vc (c := bodyOf Tryd.f40) Tryd.func40 (by kernel_rfl) (by kernel_rfl) a40 (by kernel_rfl) (by kernel_rfl) [x0, x1] (by rw [Tryd.ntmps40]; exact Nat.le_of_ble_eq_true rfl) w0 R ((F40_eq x0 x1 R w0).mp h)

/-- canton/stamp.Check, its body as a formula. -/
def F41 (x0 : Value) (R : Value → World → Prop) (w0 : World) : Prop :=
 BoxK Tryd.prog 52 x0 (@hid _ ⟨fun t1_1 w2 =>
 FieldAtK Tryd.prog 52 t1_1 0 (@hid _ ⟨fun t4_3 w4 =>
 LoadK Tryd.prog 2 t4_3 (@hid _ ⟨fun t5_5 w6 =>
 CallV Tryd.prog (.func (.func 76) #[] #[]) #[t5_5] (@hid _ ⟨fun t6_7 w8 =>
 UnK Tryd.prog .not t6_7 (@hid _ ⟨fun t7_9 w10 =>
 GuardK t7_9 false (fun k w => FieldAtK Tryd.prog 52 t1_1 1 k w) (@hid _ ⟨fun t9_11 w12 =>
 GuardK t7_9 false (fun k w => LoadK Tryd.prog 2 t9_11 k w) (@hid _ ⟨fun t10_13 w14 =>
 GuardK t7_9 false (fun k w => CallV Tryd.prog (.func (.func 76) #[] #[]) #[t10_13] k w) (@hid _ ⟨fun t11_15 w16 =>
 GuardK t7_9 false (fun k w => UnK Tryd.prog .not t11_15 k w) (@hid _ ⟨fun t12_17 w18 =>
 PickK Tryd.prog t7_9 (.bool true) t12_17 (@hid _ ⟨fun t13_19 w20 =>
 GuardK t13_19 false (fun k w => FieldAtK Tryd.prog 52 t1_1 2 k w) (@hid _ ⟨fun t15_21 w22 =>
 GuardK t13_19 false (fun k w => LoadK Tryd.prog 2 t15_21 k w) (@hid _ ⟨fun t16_23 w24 =>
 GuardK t13_19 false (fun k w => CallV Tryd.prog (.func (.func 76) #[] #[]) #[t16_23] k w) (@hid _ ⟨fun t17_25 w26 =>
 GuardK t13_19 false (fun k w => UnK Tryd.prog .not t17_25 k w) (@hid _ ⟨fun t18_27 w28 =>
 PickK Tryd.prog t13_19 (.bool true) t18_27 (@hid _ ⟨fun t19_29 w30 =>
 BrK t19_29 (@hid _ ⟨
 R (.int .i64 1) w30⟩) (@hid _ ⟨
 FieldAtK Tryd.prog 52 t1_1 3 (@hid _ ⟨fun t21_31 w32 =>
 LoadK Tryd.prog 9 t21_31 (@hid _ ⟨fun t22_33 w34 =>
 CallV Tryd.prog (.func (.func 77) #[] #[]) #[t22_33] (@hid _ ⟨fun t23_35 w36 =>
 UnK Tryd.prog .not t23_35 (@hid _ ⟨fun t24_37 w38 =>
 BrK t24_37 (@hid _ ⟨
 R (.int .i64 5) w38⟩) (@hid _ ⟨
 R (.int .i64 0) w38⟩)⟩) w36⟩) w34⟩) w32⟩) w30⟩)⟩) w28⟩) w26⟩) w24⟩) w22⟩) w20⟩) w18⟩) w16⟩) w14⟩) w12⟩) w10⟩) w8⟩) w6⟩) w4⟩) w2⟩) w0
def a41 : Ann := (.seq .no (.seq (.block (.seq .no (.cond (.seq .no .no) (.seq .no (.cond (.seq .no .no) .no))))) (.seq .no .no)))
theorem F41_eq (x0 : Value) (R : Value → World → Prop) (w0 : World) : F41 x0 R w0 = vc Tryd.prog (bodyOf Tryd.f41) a41 (retQ Tryd.prog Tryd.f41 R) (envOf 0 [x0]) w0 := by kernel_rfl
theorem F41_calls (x0 : Value) (R : Value → World → Prop) (w0 : World) (h : F41 x0 R w0) : CallK Tryd.prog 41 #[x0] R w0 :=
 calls_vc (c := bodyOf Tryd.f41) Tryd.func41 (by kernel_rfl) (by kernel_rfl) a41 (by kernel_rfl) (by kernel_rfl) [x0] (by rw [Tryd.ntmps41]; exact Nat.le_of_ble_eq_true rfl) w0 R ((F41_eq x0 R w0).mp h)

/-- canton/cantonlaw4.FewRows, its body as a formula. -/
def F42 (x0 : Value) (R : Value → World → Prop) (w0 : World) : Prop :=
 BuiltinK Tryd.prog .len #[22] 3 #[false] #[x0] (@hid _ ⟨fun t5_1 w2 =>
 BinK Tryd.prog .gtr 3 t5_1 (.int .i64 70) (@hid _ ⟨fun t6_3 w4 =>
 BrK t6_3 (@hid _ ⟨
 R (.bool false) w4⟩) (@hid _ ⟨
 LoopK1 (.int .i64 0) w4 (@hid _ ⟨fun _ x3_5 w6 B7 =>
 BuiltinK Tryd.prog .len #[22] 3 #[false] #[x0] (@hid _ ⟨fun t9_8 w9 =>
 BinK Tryd.prog .lss 3 x3_5 t9_8 (@hid _ ⟨fun t10_10 w11 =>
 BrK t10_10 (@hid _ ⟨
 IndexAtK Tryd.prog 22 x0 x3_5 (@hid _ ⟨fun t15_12 w13 =>
 LoadK Tryd.prog 55 t15_12 (@hid _ ⟨fun t16_14 w15 =>
 CallV Tryd.prog (.func (.func 78) #[] #[]) #[t16_14] (@hid _ ⟨fun t17_16 w17 =>
 UnK Tryd.prog .not t17_16 (@hid _ ⟨fun t18_18 w19 =>
 BrK t18_18 (@hid _ ⟨
 R (.bool false) w19⟩) (@hid _ ⟨
 BinK Tryd.prog .add 3 x3_5 (.int .i64 1) (@hid _ ⟨fun t12_20 w21 =>
 B7 t12_20 w21⟩) w19⟩)⟩) w17⟩) w15⟩) w13⟩) w11⟩) (@hid _ ⟨
 R (.bool true) w11⟩)⟩) w9⟩) w6⟩)⟩)⟩) w2⟩) w0
def a42 : Ann := (.seq .no (.seq (.seq .no (.cond (.seq .no .no) .no)) (.seq (.seq .no (.block (.loop [3] [(2, 2), (7, 18)] (.seq (.seq .no (.cond .no .no)) (.seq (.block (.seq .no (.cond (.seq .no .no) .no))) .no))))) (.seq .no .no))))
theorem F42_eq (x0 : Value) (R : Value → World → Prop) (w0 : World) : F42 x0 R w0 = vc Tryd.prog (bodyOf Tryd.f42) a42 (retQ Tryd.prog Tryd.f42 R) (envOf 0 [x0]) w0 := by kernel_rfl
theorem F42_calls (x0 : Value) (R : Value → World → Prop) (w0 : World) (h : F42 x0 R w0) : CallK Tryd.prog 42 #[x0] R w0 :=
 calls_vc (c := bodyOf Tryd.f42) Tryd.func42 (by kernel_rfl) (by kernel_rfl) a42 (by kernel_rfl) (by kernel_rfl) [x0] (by rw [Tryd.ntmps42]; exact Nat.le_of_ble_eq_true rfl) w0 R ((F42_eq x0 R w0).mp h)

/-- canton/cantonref7.Check, its body as a formula. -/
def F43 (x0 : Value) (R : Value → World → Prop) (w0 : World) : Prop :=
 BoxK Tryd.prog 65 x0 (@hid _ ⟨fun t1_1 w2 =>
 FieldAtK Tryd.prog 65 t1_1 0 (@hid _ ⟨fun t5_3 w4 =>
 LoadK Tryd.prog 9 t5_3 (@hid _ ⟨fun t6_5 w6 =>
 CallV Tryd.prog (.func (.func 37) #[] #[]) #[t6_5] (@hid _ ⟨fun t7_7 w8 =>
 UnK Tryd.prog .not t7_7 (@hid _ ⟨fun t8_9 w10 =>
 BrK t8_9 (@hid _ ⟨
 R (.int .i64 5) w10⟩) (@hid _ ⟨
 FieldAtK Tryd.prog 65 t1_1 1 (@hid _ ⟨fun t9_11 w12 =>
 LoadK Tryd.prog 38 t9_11 (@hid _ ⟨fun t10_13 w14 =>
 CallV Tryd.prog (.func (.func 36) #[] #[]) #[t10_13] (@hid _ ⟨fun t11_15 w16 =>
 BinK Tryd.prog .neq 3 t11_15 (.int .i64 0) (@hid _ ⟨fun t13_17 w18 =>
 BrK t13_17 (@hid _ ⟨
 R t11_15 w18⟩) (@hid _ ⟨
 FieldAtK Tryd.prog 65 t1_1 2 (@hid _ ⟨fun t15_19 w20 =>
 LoadK Tryd.prog 63 t15_19 (@hid _ ⟨fun t16_21 w22 =>
 BuiltinK Tryd.prog .len #[63] 3 #[false] #[t16_21] (@hid _ ⟨fun t17_23 w24 =>
 BinK Tryd.prog .gtr 3 t17_23 (.int .i64 32) (@hid _ ⟨fun t18_25 w26 =>
 BrK t18_25 (@hid _ ⟨
 R (.int .i64 4) w26⟩) (@hid _ ⟨
 LoopK1 (.int .i64 0) w26 (@hid _ ⟨fun _ x4_27 w28 B29 =>
 FieldAtK Tryd.prog 65 t1_1 2 (@hid _ ⟨fun t20_30 w31 =>
 LoadK Tryd.prog 63 t20_30 (@hid _ ⟨fun t21_32 w33 =>
 BuiltinK Tryd.prog .len #[63] 3 #[false] #[t21_32] (@hid _ ⟨fun t22_34 w35 =>
 BinK Tryd.prog .lss 3 x4_27 t22_34 (@hid _ ⟨fun t23_36 w37 =>
 BrK t23_36 (@hid _ ⟨
 FieldAtK Tryd.prog 65 t1_1 2 (@hid _ ⟨fun t26_38 w39 =>
 LoadK Tryd.prog 63 t26_38 (@hid _ ⟨fun t27_40 w41 =>
 IndexAtK Tryd.prog 63 t27_40 x4_27 (@hid _ ⟨fun t29_42 w43 =>
 FieldAtK Tryd.prog 133 t29_42 1 (@hid _ ⟨fun t30_44 w45 =>
 LoadK Tryd.prog 121 t30_44 (@hid _ ⟨fun t31_46 w47 =>
 CallV Tryd.prog (.func (.func 79) #[] #[]) #[t31_46] (@hid _ ⟨fun t32_48 w49 =>
 FieldAtK Tryd.prog 65 t1_1 2 (@hid _ ⟨fun t34_50 w51 =>
 LoadK Tryd.prog 63 t34_50 (@hid _ ⟨fun t35_52 w53 =>
 IndexAtK Tryd.prog 63 t35_52 x4_27 (@hid _ ⟨fun t37_54 w55 =>
 FieldAtK Tryd.prog 133 t37_54 0 (@hid _ ⟨fun t38_56 w57 =>
 LoadK Tryd.prog 9 t38_56 (@hid _ ⟨fun t39_58 w59 =>
 CallV Tryd.prog (.func (.func 37) #[] #[]) #[t39_58] (@hid _ ⟨fun t40_60 w61 =>
 UnK Tryd.prog .not t40_60 (@hid _ ⟨fun t41_62 w63 =>
 BrK t41_62 (@hid _ ⟨
 R (.int .i64 5) w63⟩) (@hid _ ⟨
 DrawK (@hid _ ⟨fun S64 w65 =>
 BinT Tryd.prog S64 .gtr 3 x4_27 (.int .i64 0) (@hid _ ⟨fun t44_66 =>
 TakeG t44_66 true (fun k => TakeS Tryd.prog S64 (Instr.fieldAt 65 t1_1 2) k) (@hid _ ⟨fun t46_67 =>
 TakeG t44_66 true (fun k => TakeS Tryd.prog S64 (Instr.loadAt 63 t46_67) k) (@hid _ ⟨fun t47_68 =>
 TakeG t44_66 true (fun k => k x4_27) (@hid _ ⟨fun t48_69 =>
 TakeG t44_66 true (fun k => BinT Tryd.prog S64 .sub 3 t48_69 (.int .i64 1) k) (@hid _ ⟨fun t49_70 =>
 TakeG t44_66 true (fun k => TakeS Tryd.prog S64 (Instr.indexAt 63 t47_68 t49_70) k) (@hid _ ⟨fun t50_71 =>
 TakeG t44_66 true (fun k => TakeS Tryd.prog S64 (Instr.fieldAt 133 t50_71 0) k) (@hid _ ⟨fun t51_72 =>
 TakeG t44_66 true (fun k => TakeS Tryd.prog S64 (Instr.loadAt 9 t51_72) k) (@hid _ ⟨fun t52_73 =>
 TakeG t44_66 true (fun k => TakeS Tryd.prog S64 (Instr.fieldAt 65 t1_1 2) k) (@hid _ ⟨fun t53_74 =>
 TakeG t44_66 true (fun k => TakeS Tryd.prog S64 (Instr.loadAt 63 t53_74) k) (@hid _ ⟨fun t54_75 =>
 TakeG t44_66 true (fun k => k x4_27) (@hid _ ⟨fun t55_76 =>
 TakeG t44_66 true (fun k => TakeS Tryd.prog S64 (Instr.indexAt 63 t54_75 t55_76) k) (@hid _ ⟨fun t56_77 =>
 TakeG t44_66 true (fun k => TakeS Tryd.prog S64 (Instr.fieldAt 133 t56_77 0) k) (@hid _ ⟨fun t57_78 =>
 TakeG t44_66 true (fun k => TakeS Tryd.prog S64 (Instr.loadAt 9 t57_78) k) (@hid _ ⟨fun t58_79 =>
 TakeG t44_66 true (fun k => BinT Tryd.prog S64 .geq 9 t52_73 t58_79 k) (@hid _ ⟨fun t59_80 =>
 PickT t44_66 t59_80 (.bool false) (@hid _ ⟨fun t60_81 =>
 BrK t60_81 (@hid _ ⟨
 R (.int .i64 6) w65⟩) (@hid _ ⟨
 BinK Tryd.prog .neq 3 t32_48 (.int .i64 0) (@hid _ ⟨fun t63_82 w83 =>
 BrK t63_82 (@hid _ ⟨
 R t32_48 w83⟩) (@hid _ ⟨
 BinK Tryd.prog .add 3 x4_27 (.int .i64 1) (@hid _ ⟨fun t25_84 w85 =>
 B29 t25_84 w85⟩) w83⟩)⟩) w65⟩)⟩)⟩)⟩)⟩)⟩)⟩)⟩)⟩)⟩)⟩)⟩)⟩)⟩)⟩)⟩)⟩)⟩) w63⟩)⟩) w61⟩) w59⟩) w57⟩) w55⟩) w53⟩) w51⟩) w49⟩) w47⟩) w45⟩) w43⟩) w41⟩) w39⟩) w37⟩) (@hid _ ⟨
 R (.int .i64 0) w37⟩)⟩) w35⟩) w33⟩) w31⟩) w28⟩)⟩)⟩) w24⟩) w22⟩) w20⟩) w18⟩)⟩) w16⟩) w14⟩) w12⟩) w10⟩)⟩) w8⟩) w6⟩) w4⟩) w2⟩) w0
def a43 : Ann := (.seq .no (.seq (.seq .no (.cond (.seq .no .no) .no)) (.seq .no (.seq (.seq .no (.cond (.seq .no .no) .no)) (.seq (.seq .no (.cond (.seq .no .no) .no)) (.seq (.seq .no (.block (.loop [4] [(2, 3), (19, 64)] (.seq (.seq .no (.cond .no .no)) (.seq (.block (.seq .no (.block (.seq .no (.cond (.seq .no .no) (.seq (.plan (.take 0 (.take 1 (.take 2 (.take 3 (.take 4 (.take 5 (.take 6 (.take 7 (.take 8 (.take 9 (.take 10 (.take 11 (.take 12 (.take 13 (.take 14 (.take 15 (.take 16 (.take 17 (.take 18 .done)))))))))))))))))))) (.cond (.seq .no .no) (.seq .no (.cond (.seq .no .no) .no))))))))) .no))))) (.seq .no .no)))))))
theorem F43_eq (x0 : Value) (R : Value → World → Prop) (w0 : World) : F43 x0 R w0 = vc Tryd.prog (bodyOf Tryd.f43) a43 (retQ Tryd.prog Tryd.f43 R) (envOf 0 [x0]) w0 := by kernel_rfl
theorem F43_calls (x0 : Value) (R : Value → World → Prop) (w0 : World) (h : F43 x0 R w0) : CallK Tryd.prog 43 #[x0] R w0 :=
 calls_vc (c := bodyOf Tryd.f43) Tryd.func43 (by kernel_rfl) (by kernel_rfl) a43 (by kernel_rfl) (by kernel_rfl) [x0] (by rw [Tryd.ntmps43]; exact Nat.le_of_ble_eq_true rfl) w0 R ((F43_eq x0 R w0).mp h)

/-- canton/cantonlaw4.Of, its body as a formula. -/
def F44 (x0 : Value) (R : Value → World → Prop) (w0 : World) : Prop :=
 BoxK Tryd.prog 55 x0 (@hid _ ⟨fun t1_1 w2 =>
 AllocK Tryd.prog 65 (@hid _ ⟨fun t2_3 w4 =>
 DrawK (@hid _ ⟨fun S5 w6 =>
 TakeS Tryd.prog S5 (Instr.fieldAt 55 t1_1 0) (@hid _ ⟨fun t3_7 =>
 TakeS Tryd.prog S5 (Instr.loadAt 9 t3_7) (@hid _ ⟨fun t4_8 =>
 TakeS Tryd.prog S5 (Instr.fieldAt 55 t1_1 1) (@hid _ ⟨fun t5_9 =>
 TakeS Tryd.prog S5 (Instr.loadAt 52 t5_9) (@hid _ ⟨fun t6_10 =>
 TakeS Tryd.prog S5 (Instr.fieldAt 55 t1_1 2) (@hid _ ⟨fun t8_11 =>
 TakeS Tryd.prog S5 (Instr.loadAt 53 t8_11) (@hid _ ⟨fun t9_12 =>
 (CallV Tryd.prog (.func (.func 38) #[] #[]) #[t6_10] (@hid _ ⟨fun t7_13 w14 =>
 S5 w14 ∧
 (CallV Tryd.prog (.func (.func 80) #[] #[]) #[t9_12] (@hid _ ⟨fun t10_15 w16 =>
 S5 w16 ∧
 (BuildK Tryd.prog 65 #[(0, t4_8), (1, t7_13), (2, t10_15)] (@hid _ ⟨fun t11_17 w18 =>
 S5 w18 ∧
 (StoreK Tryd.prog 65 t2_3 t11_17 (@hid _ ⟨fun tu_19 w20 =>
 S5 w20 ∧
 LoadK Tryd.prog 65 t2_3 (@hid _ ⟨fun c21 w22 => w22 = w20 ∧ R c21 w20⟩) w20⟩) w18) ∧
 True⟩) w16) ∧
 True⟩) w14) ∧
 True⟩) w6) ∧
 True⟩)⟩)⟩)⟩)⟩)⟩)⟩) w4⟩) w2⟩) w0
def a44 : Ann := (.seq .no (.seq (.plan (.take 0 (.take 1 (.take 2 (.take 3 (.take 5 (.take 6 (.alt 4 (.alt 7 (.alt 8 (.alt 9 .done .nil) .nil) .nil) .nil)))))))) .no))
theorem F44_eq (x0 : Value) (R : Value → World → Prop) (w0 : World) : F44 x0 R w0 = vc Tryd.prog (bodyOf Tryd.f44) a44 (retQ Tryd.prog Tryd.f44 R) (envOf 0 [x0]) w0 := by kernel_rfl
theorem F44_calls (x0 : Value) (R : Value → World → Prop) (w0 : World) (h : F44 x0 R w0) : CallK Tryd.prog 44 #[x0] R w0 :=
 calls_vc (c := bodyOf Tryd.f44) Tryd.func44 (by kernel_rfl) (by kernel_rfl) a44 (by kernel_rfl) (by kernel_rfl) [x0] (by rw [Tryd.ntmps44]; exact Nat.le_of_ble_eq_true rfl) w0 R ((F44_eq x0 R w0).mp h)

/-- slices.Clip[[]canton/digest.Mark,canton/digest.Mark], its body as a formula. -/
def F45 (x0 : Value) (R : Value → World → Prop) (w0 : World) : Prop :=
 BuiltinK Tryd.prog .len #[23] 3 #[false] #[x0] (@hid _ ⟨fun t5_1 w2 =>
 BuiltinK Tryd.prog .len #[23] 3 #[false] #[x0] (@hid _ ⟨fun t7_3 w4 =>
 SliceK Tryd.prog 23 x0 none (some t5_1) (some t7_3) (@hid _ ⟨fun t8_5 w6 =>
 R t8_5 w6⟩) w4⟩) w2⟩) w0
def a45 : Ann := (.seq .no (.seq .no .no))
theorem F45_eq (x0 : Value) (R : Value → World → Prop) (w0 : World) : F45 x0 R w0 = vc Tryd.prog (bodyOf Tryd.f45) a45 (retQ Tryd.prog Tryd.f45 R) (envOf 0 [x0]) w0 := by kernel_rfl
theorem F45_calls (x0 : Value) (R : Value → World → Prop) (w0 : World) (h : F45 x0 R w0) : CallK Tryd.prog 45 #[x0] R w0 :=
 calls_vc (c := bodyOf Tryd.f45) Tryd.func45 (by kernel_rfl) (by kernel_rfl) a45 (by kernel_rfl) (by kernel_rfl) [x0] (by rw [Tryd.ntmps45]; exact Nat.le_of_ble_eq_true rfl) w0 R ((F45_eq x0 R w0).mp h)

end Go.Proofs.YtpjeohellehgjaaDoor