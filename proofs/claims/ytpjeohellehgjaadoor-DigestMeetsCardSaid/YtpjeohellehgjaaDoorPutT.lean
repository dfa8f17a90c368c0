/- The document's table: a row put. Conditions: the rows read, and rise; the table is not full, or the key is there. -/
import Derived.Test.YtpjeohellehgjaaDoorPut1
set_option linter.unusedVariables false
set_option linter.unusedSimpArgs false
set_option maxRecDepth 100000
namespace Go.Proofs.YtpjeohellehgjaaDoor
namespace Pt
open Go.RowKit Go.Cn
/-- (canton/cantonref21.Table).Put, its body as a formula. -/
def F28 (x0 x1 : Value) (R : Value → World → Prop) (w0 : World) : Prop :=
 BoxK Tryd.prog 60 x0 (@Cn.hid _ ⟨fun t2_1 w2 =>
 BoxK Tryd.prog 65 x1 (@Cn.hid _ ⟨fun t3_3 w4 =>
 AllocK Tryd.prog 60 (@Cn.hid _ ⟨fun t4_5 w6 =>
 LoadK Tryd.prog 65 t3_3 (@Cn.hid _ ⟨fun t13_7 w8 =>
 CallV Tryd.prog (.func (.func 43) #[] #[]) #[t13_7] (@Cn.hid _ ⟨fun t14_9 w10 =>
 BinK Tryd.prog .neq 3 t14_9 (.int .i64 0) (@Cn.hid _ ⟨fun t16_11 w12 =>
 BrK t16_11 (@Cn.hid _ ⟨
 LoadK Tryd.prog 60 t2_1 (@Cn.hid _ ⟨fun t17_13 w14 =>
 StoreK Tryd.prog 60 t4_5 t17_13 (@Cn.hid _ ⟨fun tu_15 w16 =>
 LoadK Tryd.prog 60 t4_5 (@Cn.hid _ ⟨fun c17 w18 => w18 = w16 ∧ R (.tuple #[c17, t14_9]) w16⟩) w16⟩) w14⟩) w12⟩) (@Cn.hid _ ⟨
 LoadK Tryd.prog 60 t2_1 (@Cn.hid _ ⟨fun t20_19 w20 =>
 FieldAtK Tryd.prog 65 t3_3 0 (@Cn.hid _ ⟨fun t21_21 w22 =>
 LoadK Tryd.prog 9 t21_21 (@Cn.hid _ ⟨fun t22_23 w24 =>
 CallV Tryd.prog (.func (.func 61) #[] #[]) #[t20_19, t22_23] (@Cn.hid _ ⟨fun t23_25 w26 =>
 ExtractK Tryd.prog t23_25 0 (@Cn.hid _ ⟨fun t24_27 w28 =>
 ExtractK Tryd.prog t23_25 1 (@Cn.hid _ ⟨fun t25_29 w30 =>
 AllocK Tryd.prog 65 (@Cn.hid _ ⟨fun t7_31 w32 =>
 StoreK Tryd.prog 65 t7_31 t24_27 (@Cn.hid _ ⟨fun tu_33 w34 =>
 CutK0 (@Cn.hid _ ⟨fun R35 =>
 GuardK t25_29 true (fun k w => FieldAtK Tryd.prog 65 t7_31 1 k w) (@Cn.hid _ ⟨fun t29_37 w38 =>
 GuardK t25_29 true (fun k w => LoadK Tryd.prog 38 t29_37 k w) (@Cn.hid _ ⟨fun t30_39 w40 =>
 GuardK t25_29 true (fun k w => FieldAtK Tryd.prog 65 t3_3 1 k w) (@Cn.hid _ ⟨fun t31_41 w42 =>
 GuardK t25_29 true (fun k w => LoadK Tryd.prog 38 t31_41 k w) (@Cn.hid _ ⟨fun t32_43 w44 =>
 GuardK t25_29 true (fun k w => CallV Tryd.prog (.func (.func 53) #[] #[]) #[t30_39, t32_43] k w) (@Cn.hid _ ⟨fun t33_45 w46 =>
 GuardK t25_29 true (fun k w => BinK Tryd.prog .geq 3 t33_45 (.int .i64 0) k w) (@Cn.hid _ ⟨fun t34_47 w48 =>
 PickK Tryd.prog t25_29 t34_47 (.bool false) (@Cn.hid _ ⟨fun t35_49 w50 =>
 BrK t35_49 (@Cn.hid _ ⟨
 LoadK Tryd.prog 60 t2_1 (@Cn.hid _ ⟨fun t36_51 w52 =>
 StoreK Tryd.prog 60 t4_5 t36_51 (@Cn.hid _ ⟨fun tu_53 w54 =>
 LoadK Tryd.prog 60 t4_5 (@Cn.hid _ ⟨fun c55 w56 => w56 = w54 ∧ R (.tuple #[c55, (.int .i64 11)]) w54⟩) w54⟩) w52⟩) w50⟩) (@Cn.hid _ ⟨
 BrK t25_29 (@Cn.hid _ ⟨
 LoadK Tryd.prog 60 t2_1 (@Cn.hid _ ⟨fun t39_57 w58 =>
 FieldAtK Tryd.prog 65 t3_3 0 (@Cn.hid _ ⟨fun t40_59 w60 =>
 LoadK Tryd.prog 9 t40_59 (@Cn.hid _ ⟨fun t41_61 w62 =>
 CallV Tryd.prog (.func (.func 62) #[] #[]) #[t39_57, t41_61] (@Cn.hid _ ⟨fun t42_63 w64 =>
 StoreK Tryd.prog 60 t2_1 t42_63 (@Cn.hid _ ⟨fun tu_65 w66 =>
 R35 w66⟩) w64⟩) w62⟩) w60⟩) w58⟩) w50⟩) (@Cn.hid _ ⟨
 FieldAtK Tryd.prog 60 t2_1 1 (@Cn.hid _ ⟨fun t44_67 w68 =>
 LoadK Tryd.prog 33 t44_67 (@Cn.hid _ ⟨fun t45_69 w70 =>
 BuiltinK Tryd.prog .len #[33] 3 #[false] #[t45_69] (@Cn.hid _ ⟨fun t46_71 w72 =>
 FieldAtK Tryd.prog 60 t2_1 0 (@Cn.hid _ ⟨fun t47_73 w74 =>
 LoadK Tryd.prog 3 t47_73 (@Cn.hid _ ⟨fun t48_75 w76 =>
 BinK Tryd.prog .geq 3 t46_71 t48_75 (@Cn.hid _ ⟨fun t49_77 w78 =>
 BrK t49_77 (@Cn.hid _ ⟨
 LoadK Tryd.prog 60 t2_1 (@Cn.hid _ ⟨fun t50_79 w80 =>
 CallV Tryd.prog (.func (.func 63) #[] #[]) #[t50_79] (@Cn.hid _ ⟨fun t51_81 w82 =>
 AllocK Tryd.prog 65 (@Cn.hid _ ⟨fun t9_83 w84 =>
 StoreK Tryd.prog 65 t9_83 t51_81 (@Cn.hid _ ⟨fun tu_85 w86 =>
 FieldAtK Tryd.prog 65 t9_83 1 (@Cn.hid _ ⟨fun t52_87 w88 =>
 LoadK Tryd.prog 38 t52_87 (@Cn.hid _ ⟨fun t53_89 w90 =>
 FieldAtK Tryd.prog 65 t3_3 1 (@Cn.hid _ ⟨fun t54_91 w92 =>
 LoadK Tryd.prog 38 t54_91 (@Cn.hid _ ⟨fun t55_93 w94 =>
 CallV Tryd.prog (.func (.func 53) #[] #[]) #[t53_89, t55_93] (@Cn.hid _ ⟨fun t56_95 w96 =>
 BinK Tryd.prog .geq 3 t56_95 (.int .i64 0) (@Cn.hid _ ⟨fun t57_97 w98 =>
 BrK t57_97 (@Cn.hid _ ⟨
 LoadK Tryd.prog 60 t2_1 (@Cn.hid _ ⟨fun t58_99 w100 =>
 StoreK Tryd.prog 60 t4_5 t58_99 (@Cn.hid _ ⟨fun tu_101 w102 =>
 LoadK Tryd.prog 60 t4_5 (@Cn.hid _ ⟨fun c103 w104 => w104 = w102 ∧ R (.tuple #[c103, (.int .i64 9)]) w102⟩) w102⟩) w100⟩) w98⟩) (@Cn.hid _ ⟨
 LoadK Tryd.prog 60 t2_1 (@Cn.hid _ ⟨fun t59_105 w106 =>
 FieldAtK Tryd.prog 65 t9_83 0 (@Cn.hid _ ⟨fun t60_107 w108 =>
 LoadK Tryd.prog 9 t60_107 (@Cn.hid _ ⟨fun t61_109 w110 =>
 CallV Tryd.prog (.func (.func 62) #[] #[]) #[t59_105, t61_109] (@Cn.hid _ ⟨fun t62_111 w112 =>
 StoreK Tryd.prog 60 t2_1 t62_111 (@Cn.hid _ ⟨fun tu_113 w114 =>
 R35 w114⟩) w112⟩) w110⟩) w108⟩) w106⟩) w98⟩)⟩) w96⟩) w94⟩) w92⟩) w90⟩) w88⟩) w86⟩) w84⟩) w82⟩) w80⟩) w78⟩) (@Cn.hid _ ⟨
 R35 w78⟩)⟩) w76⟩) w74⟩) w72⟩) w70⟩) w68⟩) w50⟩)⟩)⟩) w48⟩) w46⟩) w44⟩) w42⟩) w40⟩) w38⟩) w34⟩)
 (@Cn.hid _ ⟨fun _ w36 =>
 LoadK Tryd.prog 60 t2_1 (@Cn.hid _ ⟨fun t64_115 w116 =>
 FieldAtK Tryd.prog 65 t3_3 0 (@Cn.hid _ ⟨fun t65_117 w118 =>
 LoadK Tryd.prog 9 t65_117 (@Cn.hid _ ⟨fun t66_119 w120 =>
 CallV Tryd.prog (.func (.func 64) #[] #[]) #[t64_115, t66_119] (@Cn.hid _ ⟨fun t67_121 w122 =>
 ExtractK Tryd.prog t67_121 0 (@Cn.hid _ ⟨fun t68_123 w124 =>
 ExtractK Tryd.prog t67_121 1 (@Cn.hid _ ⟨fun t69_125 w126 =>
 CutK1 (@Cn.hid _ ⟨fun R127 =>
 DrawK (@Cn.hid _ ⟨fun S130 w131 =>
 TakeS Tryd.prog S130 (Instr.fieldAt 60 t2_1 0) (@Cn.hid _ ⟨fun t70_132 =>
 TakeS Tryd.prog S130 (Instr.loadAt 3 t70_132) (@Cn.hid _ ⟨fun t71_133 =>
 TakeS Tryd.prog S130 (Instr.fieldAt 60 t2_1 1) (@Cn.hid _ ⟨fun t73_134 =>
 TakeS Tryd.prog S130 (Instr.loadAt 33 t73_134) (@Cn.hid _ ⟨fun t74_135 =>
 TakeS Tryd.prog S130 (Instr.sliceAt 33 t74_135 none (some t68_123) none) (@Cn.hid _ ⟨fun t76_136 =>
 TakeS Tryd.prog S130 (Instr.loadAt 65 t3_3) (@Cn.hid _ ⟨fun t78_137 =>
 (BuildSliceK Tryd.prog 33 0 #[] (@Cn.hid _ ⟨fun t72_138 w139 =>
 S130 w139 ∧
 (BuiltinK Tryd.prog .append #[33, 33] 33 #[false, false] #[t72_138, t76_136] (@Cn.hid _ ⟨fun t77_140 w141 =>
 S130 w141 ∧
 (BuildSliceK Tryd.prog 33 1 #[(0, t78_137)] (@Cn.hid _ ⟨fun t79_142 w143 =>
 S130 w143 ∧
 (BuiltinK Tryd.prog .append #[33, 33] 33 #[false, false] #[t77_140, t79_142] (@Cn.hid _ ⟨fun t80_144 w145 =>
 S130 w145 ∧
 (BuildK Tryd.prog 60 #[(0, t71_133), (1, t80_144)] (@Cn.hid _ ⟨fun t81_146 w147 =>
 S130 w147 ∧
 (AllocK Tryd.prog 60 (@Cn.hid _ ⟨fun t12_148 w149 =>
 S130 w149 ∧
 (StoreK Tryd.prog 60 t12_148 t81_146 (@Cn.hid _ ⟨fun tu_150 w151 =>
 S130 w151 ∧
 R127 t12_148 w151⟩) w149) ∧
 True⟩) w147) ∧
 True⟩) w145) ∧
 (AllocK Tryd.prog 60 (@Cn.hid _ ⟨fun t12_152 w153 =>
 S130 w153 ∧
 (BuildK Tryd.prog 60 #[(0, t71_133), (1, t80_144)] (@Cn.hid _ ⟨fun t81_154 w155 =>
 S130 w155 ∧
 (StoreK Tryd.prog 60 t12_152 t81_154 (@Cn.hid _ ⟨fun tu_156 w157 =>
 S130 w157 ∧
 R127 t12_152 w157⟩) w155) ∧
 True⟩) w153) ∧
 True⟩) w145) ∧
 True⟩) w143) ∧
 (AllocK Tryd.prog 60 (@Cn.hid _ ⟨fun t12_158 w159 =>
 S130 w159 ∧
 (BuiltinK Tryd.prog .append #[33, 33] 33 #[false, false] #[t77_140, t79_142] (@Cn.hid _ ⟨fun t80_160 w161 =>
 S130 w161 ∧
 (BuildK Tryd.prog 60 #[(0, t71_133), (1, t80_160)] (@Cn.hid _ ⟨fun t81_162 w163 =>
 S130 w163 ∧
 (StoreK Tryd.prog 60 t12_158 t81_162 (@Cn.hid _ ⟨fun tu_164 w165 =>
 S130 w165 ∧
 R127 t12_158 w165⟩) w163) ∧
 True⟩) w161) ∧
 True⟩) w159) ∧
 True⟩) w143) ∧
 True⟩) w141) ∧
 (AllocK Tryd.prog 60 (@Cn.hid _ ⟨fun t12_166 w167 =>
 S130 w167 ∧
 (BuildSliceK Tryd.prog 33 1 #[(0, t78_137)] (@Cn.hid _ ⟨fun t79_168 w169 =>
 S130 w169 ∧
 (BuiltinK Tryd.prog .append #[33, 33] 33 #[false, false] #[t77_140, t79_168] (@Cn.hid _ ⟨fun t80_170 w171 =>
 S130 w171 ∧
 (BuildK Tryd.prog 60 #[(0, t71_133), (1, t80_170)] (@Cn.hid _ ⟨fun t81_172 w173 =>
 S130 w173 ∧
 (StoreK Tryd.prog 60 t12_166 t81_172 (@Cn.hid _ ⟨fun tu_174 w175 =>
 S130 w175 ∧
 R127 t12_166 w175⟩) w173) ∧
 True⟩) w171) ∧
 True⟩) w169) ∧
 True⟩) w167) ∧
 True⟩) w141) ∧
 True⟩) w139) ∧
 (BuildSliceK Tryd.prog 33 1 #[(0, t78_137)] (@Cn.hid _ ⟨fun t79_176 w177 =>
 S130 w177 ∧
 (BuiltinK Tryd.prog .append #[33, 33] 33 #[false, false] #[t72_138, t76_136] (@Cn.hid _ ⟨fun t77_178 w179 =>
 S130 w179 ∧
 (BuiltinK Tryd.prog .append #[33, 33] 33 #[false, false] #[t77_178, t79_176] (@Cn.hid _ ⟨fun t80_180 w181 =>
 S130 w181 ∧
 (BuildK Tryd.prog 60 #[(0, t71_133), (1, t80_180)] (@Cn.hid _ ⟨fun t81_182 w183 =>
 S130 w183 ∧
 (AllocK Tryd.prog 60 (@Cn.hid _ ⟨fun t12_184 w185 =>
 S130 w185 ∧
 (StoreK Tryd.prog 60 t12_184 t81_182 (@Cn.hid _ ⟨fun tu_186 w187 =>
 S130 w187 ∧
 R127 t12_184 w187⟩) w185) ∧
 True⟩) w183) ∧
 True⟩) w181) ∧
 (AllocK Tryd.prog 60 (@Cn.hid _ ⟨fun t12_188 w189 =>
 S130 w189 ∧
 (BuildK Tryd.prog 60 #[(0, t71_133), (1, t80_180)] (@Cn.hid _ ⟨fun t81_190 w191 =>
 S130 w191 ∧
 (StoreK Tryd.prog 60 t12_188 t81_190 (@Cn.hid _ ⟨fun tu_192 w193 =>
 S130 w193 ∧
 R127 t12_188 w193⟩) w191) ∧
 True⟩) w189) ∧
 True⟩) w181) ∧
 True⟩) w179) ∧
 (AllocK Tryd.prog 60 (@Cn.hid _ ⟨fun t12_194 w195 =>
 S130 w195 ∧
 (BuiltinK Tryd.prog .append #[33, 33] 33 #[false, false] #[t77_178, t79_176] (@Cn.hid _ ⟨fun t80_196 w197 =>
 S130 w197 ∧
 (BuildK Tryd.prog 60 #[(0, t71_133), (1, t80_196)] (@Cn.hid _ ⟨fun t81_198 w199 =>
 S130 w199 ∧
 (StoreK Tryd.prog 60 t12_194 t81_198 (@Cn.hid _ ⟨fun tu_200 w201 =>
 S130 w201 ∧
 R127 t12_194 w201⟩) w199) ∧
 True⟩) w197) ∧
 True⟩) w195) ∧
 True⟩) w179) ∧
 True⟩) w177) ∧
 (AllocK Tryd.prog 60 (@Cn.hid _ ⟨fun t12_202 w203 =>
 S130 w203 ∧
 (BuiltinK Tryd.prog .append #[33, 33] 33 #[false, false] #[t72_138, t76_136] (@Cn.hid _ ⟨fun t77_204 w205 =>
 S130 w205 ∧
 (BuiltinK Tryd.prog .append #[33, 33] 33 #[false, false] #[t77_204, t79_176] (@Cn.hid _ ⟨fun t80_206 w207 =>
 S130 w207 ∧
 (BuildK Tryd.prog 60 #[(0, t71_133), (1, t80_206)] (@Cn.hid _ ⟨fun t81_208 w209 =>
 S130 w209 ∧
 (StoreK Tryd.prog 60 t12_202 t81_208 (@Cn.hid _ ⟨fun tu_210 w211 =>
 S130 w211 ∧
 R127 t12_202 w211⟩) w209) ∧
 True⟩) w207) ∧
 True⟩) w205) ∧
 True⟩) w203) ∧
 True⟩) w177) ∧
 True⟩) w139) ∧
 (AllocK Tryd.prog 60 (@Cn.hid _ ⟨fun t12_212 w213 =>
 S130 w213 ∧
 (BuiltinK Tryd.prog .append #[33, 33] 33 #[false, false] #[t72_138, t76_136] (@Cn.hid _ ⟨fun t77_214 w215 =>
 S130 w215 ∧
 (BuildSliceK Tryd.prog 33 1 #[(0, t78_137)] (@Cn.hid _ ⟨fun t79_216 w217 =>
 S130 w217 ∧
 (BuiltinK Tryd.prog .append #[33, 33] 33 #[false, false] #[t77_214, t79_216] (@Cn.hid _ ⟨fun t80_218 w219 =>
 S130 w219 ∧
 (BuildK Tryd.prog 60 #[(0, t71_133), (1, t80_218)] (@Cn.hid _ ⟨fun t81_220 w221 =>
 S130 w221 ∧
 (StoreK Tryd.prog 60 t12_212 t81_220 (@Cn.hid _ ⟨fun tu_222 w223 =>
 S130 w223 ∧
 R127 t12_212 w223⟩) w221) ∧
 True⟩) w219) ∧
 True⟩) w217) ∧
 True⟩) w215) ∧
 True⟩) w213) ∧
 (BuildSliceK Tryd.prog 33 1 #[(0, t78_137)] (@Cn.hid _ ⟨fun t79_224 w225 =>
 S130 w225 ∧
 (BuiltinK Tryd.prog .append #[33, 33] 33 #[false, false] #[t72_138, t76_136] (@Cn.hid _ ⟨fun t77_226 w227 =>
 S130 w227 ∧
 (BuiltinK Tryd.prog .append #[33, 33] 33 #[false, false] #[t77_226, t79_224] (@Cn.hid _ ⟨fun t80_228 w229 =>
 S130 w229 ∧
 (BuildK Tryd.prog 60 #[(0, t71_133), (1, t80_228)] (@Cn.hid _ ⟨fun t81_230 w231 =>
 S130 w231 ∧
 (StoreK Tryd.prog 60 t12_212 t81_230 (@Cn.hid _ ⟨fun tu_232 w233 =>
 S130 w233 ∧
 R127 t12_212 w233⟩) w231) ∧
 True⟩) w229) ∧
 True⟩) w227) ∧
 True⟩) w225) ∧
 True⟩) w213) ∧
 True⟩) w139) ∧
 True⟩) w131) ∧
 (BuildSliceK Tryd.prog 33 1 #[(0, t78_137)] (@Cn.hid _ ⟨fun t79_234 w235 =>
 S130 w235 ∧
 (BuildSliceK Tryd.prog 33 0 #[] (@Cn.hid _ ⟨fun t72_236 w237 =>
 S130 w237 ∧
 (BuiltinK Tryd.prog .append #[33, 33] 33 #[false, false] #[t72_236, t76_136] (@Cn.hid _ ⟨fun t77_238 w239 =>
 S130 w239 ∧
 (BuiltinK Tryd.prog .append #[33, 33] 33 #[false, false] #[t77_238, t79_234] (@Cn.hid _ ⟨fun t80_240 w241 =>
 S130 w241 ∧
 (BuildK Tryd.prog 60 #[(0, t71_133), (1, t80_240)] (@Cn.hid _ ⟨fun t81_242 w243 =>
 S130 w243 ∧
 (AllocK Tryd.prog 60 (@Cn.hid _ ⟨fun t12_244 w245 =>
 S130 w245 ∧
 (StoreK Tryd.prog 60 t12_244 t81_242 (@Cn.hid _ ⟨fun tu_246 w247 =>
 S130 w247 ∧
 R127 t12_244 w247⟩) w245) ∧
 True⟩) w243) ∧
 True⟩) w241) ∧
 (AllocK Tryd.prog 60 (@Cn.hid _ ⟨fun t12_248 w249 =>
 S130 w249 ∧
 (BuildK Tryd.prog 60 #[(0, t71_133), (1, t80_240)] (@Cn.hid _ ⟨fun t81_250 w251 =>
 S130 w251 ∧
 (StoreK Tryd.prog 60 t12_248 t81_250 (@Cn.hid _ ⟨fun tu_252 w253 =>
 S130 w253 ∧
 R127 t12_248 w253⟩) w251) ∧
 True⟩) w249) ∧
 True⟩) w241) ∧
 True⟩) w239) ∧
 (AllocK Tryd.prog 60 (@Cn.hid _ ⟨fun t12_254 w255 =>
 S130 w255 ∧
 (BuiltinK Tryd.prog .append #[33, 33] 33 #[false, false] #[t77_238, t79_234] (@Cn.hid _ ⟨fun t80_256 w257 =>
 S130 w257 ∧
 (BuildK Tryd.prog 60 #[(0, t71_133), (1, t80_256)] (@Cn.hid _ ⟨fun t81_258 w259 =>
 S130 w259 ∧
 (StoreK Tryd.prog 60 t12_254 t81_258 (@Cn.hid _ ⟨fun tu_260 w261 =>
 S130 w261 ∧
 R127 t12_254 w261⟩) w259) ∧
 True⟩) w257) ∧
 True⟩) w255) ∧
 True⟩) w239) ∧
 True⟩) w237) ∧
 (AllocK Tryd.prog 60 (@Cn.hid _ ⟨fun t12_262 w263 =>
 S130 w263 ∧
 (BuiltinK Tryd.prog .append #[33, 33] 33 #[false, false] #[t72_236, t76_136] (@Cn.hid _ ⟨fun t77_264 w265 =>
 S130 w265 ∧
 (BuiltinK Tryd.prog .append #[33, 33] 33 #[false, false] #[t77_264, t79_234] (@Cn.hid _ ⟨fun t80_266 w267 =>
 S130 w267 ∧
 (BuildK Tryd.prog 60 #[(0, t71_133), (1, t80_266)] (@Cn.hid _ ⟨fun t81_268 w269 =>
 S130 w269 ∧
 (StoreK Tryd.prog 60 t12_262 t81_268 (@Cn.hid _ ⟨fun tu_270 w271 =>
 S130 w271 ∧
 R127 t12_262 w271⟩) w269) ∧
 True⟩) w267) ∧
 True⟩) w265) ∧
 True⟩) w263) ∧
 True⟩) w237) ∧
 True⟩) w235) ∧
 (AllocK Tryd.prog 60 (@Cn.hid _ ⟨fun t12_272 w273 =>
 S130 w273 ∧
 (BuildSliceK Tryd.prog 33 0 #[] (@Cn.hid _ ⟨fun t72_274 w275 =>
 S130 w275 ∧
 (BuiltinK Tryd.prog .append #[33, 33] 33 #[false, false] #[t72_274, t76_136] (@Cn.hid _ ⟨fun t77_276 w277 =>
 S130 w277 ∧
 (BuiltinK Tryd.prog .append #[33, 33] 33 #[false, false] #[t77_276, t79_234] (@Cn.hid _ ⟨fun t80_278 w279 =>
 S130 w279 ∧
 (BuildK Tryd.prog 60 #[(0, t71_133), (1, t80_278)] (@Cn.hid _ ⟨fun t81_280 w281 =>
 S130 w281 ∧
 (StoreK Tryd.prog 60 t12_272 t81_280 (@Cn.hid _ ⟨fun tu_282 w283 =>
 S130 w283 ∧
 R127 t12_272 w283⟩) w281) ∧
 True⟩) w279) ∧
 True⟩) w277) ∧
 True⟩) w275) ∧
 True⟩) w273) ∧
 True⟩) w235) ∧
 True⟩) w131) ∧
 (AllocK Tryd.prog 60 (@Cn.hid _ ⟨fun t12_284 w285 =>
 S130 w285 ∧
 (BuildSliceK Tryd.prog 33 0 #[] (@Cn.hid _ ⟨fun t72_286 w287 =>
 S130 w287 ∧
 (BuiltinK Tryd.prog .append #[33, 33] 33 #[false, false] #[t72_286, t76_136] (@Cn.hid _ ⟨fun t77_288 w289 =>
 S130 w289 ∧
 (BuildSliceK Tryd.prog 33 1 #[(0, t78_137)] (@Cn.hid _ ⟨fun t79_290 w291 =>
 S130 w291 ∧
 (BuiltinK Tryd.prog .append #[33, 33] 33 #[false, false] #[t77_288, t79_290] (@Cn.hid _ ⟨fun t80_292 w293 =>
 S130 w293 ∧
 (BuildK Tryd.prog 60 #[(0, t71_133), (1, t80_292)] (@Cn.hid _ ⟨fun t81_294 w295 =>
 S130 w295 ∧
 (StoreK Tryd.prog 60 t12_284 t81_294 (@Cn.hid _ ⟨fun tu_296 w297 =>
 S130 w297 ∧
 R127 t12_284 w297⟩) w295) ∧
 True⟩) w293) ∧
 True⟩) w291) ∧
 True⟩) w289) ∧
 True⟩) w287) ∧
 (BuildSliceK Tryd.prog 33 1 #[(0, t78_137)] (@Cn.hid _ ⟨fun t79_298 w299 =>
 S130 w299 ∧
 (BuiltinK Tryd.prog .append #[33, 33] 33 #[false, false] #[t72_286, t76_136] (@Cn.hid _ ⟨fun t77_300 w301 =>
 S130 w301 ∧
 (BuiltinK Tryd.prog .append #[33, 33] 33 #[false, false] #[t77_300, t79_298] (@Cn.hid _ ⟨fun t80_302 w303 =>
 S130 w303 ∧
 (BuildK Tryd.prog 60 #[(0, t71_133), (1, t80_302)] (@Cn.hid _ ⟨fun t81_304 w305 =>
 S130 w305 ∧
 (StoreK Tryd.prog 60 t12_284 t81_304 (@Cn.hid _ ⟨fun tu_306 w307 =>
 S130 w307 ∧
 R127 t12_284 w307⟩) w305) ∧
 True⟩) w303) ∧
 True⟩) w301) ∧
 True⟩) w299) ∧
 True⟩) w287) ∧
 True⟩) w285) ∧
 (BuildSliceK Tryd.prog 33 1 #[(0, t78_137)] (@Cn.hid _ ⟨fun t79_308 w309 =>
 S130 w309 ∧
 (BuildSliceK Tryd.prog 33 0 #[] (@Cn.hid _ ⟨fun t72_310 w311 =>
 S130 w311 ∧
 (BuiltinK Tryd.prog .append #[33, 33] 33 #[false, false] #[t72_310, t76_136] (@Cn.hid _ ⟨fun t77_312 w313 =>
 S130 w313 ∧
 (BuiltinK Tryd.prog .append #[33, 33] 33 #[false, false] #[t77_312, t79_308] (@Cn.hid _ ⟨fun t80_314 w315 =>
 S130 w315 ∧
 (BuildK Tryd.prog 60 #[(0, t71_133), (1, t80_314)] (@Cn.hid _ ⟨fun t81_316 w317 =>
 S130 w317 ∧
 (StoreK Tryd.prog 60 t12_284 t81_316 (@Cn.hid _ ⟨fun tu_318 w319 =>
 S130 w319 ∧
 R127 t12_284 w319⟩) w317) ∧
 True⟩) w315) ∧
 True⟩) w313) ∧
 True⟩) w311) ∧
 True⟩) w309) ∧
 True⟩) w285) ∧
 True⟩) w131) ∧
 True⟩)⟩)⟩)⟩)⟩)⟩)⟩) w126⟩)
 (@Cn.hid _ ⟨fun _ x12_128 w129 =>
 DrawK (@Cn.hid _ ⟨fun S320 w321 =>
 TakeS Tryd.prog S320 (Instr.fieldAt 60 x12_128 1) (@Cn.hid _ ⟨fun t82_322 =>
 TakeS Tryd.prog S320 (Instr.fieldAt 60 t2_1 1) (@Cn.hid _ ⟨fun t84_323 =>
 TakeS Tryd.prog S320 (Instr.loadAt 33 t84_323) (@Cn.hid _ ⟨fun t85_324 =>
 TakeS Tryd.prog S320 (Instr.sliceAt 33 t85_324 (some t68_123) none none) (@Cn.hid _ ⟨fun t87_325 =>
 (LoadK Tryd.prog 33 t82_322 (@Cn.hid _ ⟨fun t83_326 w327 =>
 S320 w327 ∧
 (BuiltinK Tryd.prog .append #[33, 33] 33 #[false, false] #[t83_326, t87_325] (@Cn.hid _ ⟨fun t88_328 w329 =>
 S320 w329 ∧
 TakeS Tryd.prog S320 (Instr.fieldAt 60 x12_128 1) (@Cn.hid _ ⟨fun t89_330 =>
 (StoreK Tryd.prog 33 t89_330 t88_328 (@Cn.hid _ ⟨fun tu_331 w332 =>
 S320 w332 ∧
 LoadK Tryd.prog 60 x12_128 (@Cn.hid _ ⟨fun t90_333 w334 =>
 StoreK Tryd.prog 60 t4_5 t90_333 (@Cn.hid _ ⟨fun tu_335 w336 =>
 LoadK Tryd.prog 60 t4_5 (@Cn.hid _ ⟨fun c337 w338 => w338 = w336 ∧ R (.tuple #[c337, (.int .i64 0)]) w336⟩) w336⟩) w334⟩) w332⟩) w329) ∧
 True⟩)⟩) w327) ∧
 True⟩) w321) ∧
 True⟩)⟩)⟩)⟩)⟩) w129⟩)⟩) w124⟩) w122⟩) w120⟩) w118⟩) w116⟩) w36⟩)⟩) w32⟩) w30⟩) w28⟩) w26⟩) w24⟩) w22⟩) w20⟩) w12⟩)⟩) w10⟩) w8⟩) w6⟩) w4⟩) w2⟩) w0
def a28 : Ann := (.seq .no (.seq .no (.seq (.seq .no (.cond (.seq .no .no) .no)) (.seq .no (.cut [] [(5, 5), (9, 9), (26, 62)] (.block (.seq .no (.cond (.seq .no .no) (.seq .no (.cond .no (.seq .no (.cond (.seq .no (.seq (.seq .no (.cond (.seq .no .no) .no)) .no)) .no))))))) (.seq .no (.cut [12] [(70, 81)] (.plan (.take 0 (.take 1 (.take 3 (.take 4 (.take 5 (.take 6 (.take 8 (.alt 2 (.alt 7 (.alt 9 (.alt 10 (.alt 11 (.alt 12 (.alt 13 .done .nil) .nil) (.alt 12 (.alt 11 (.alt 13 .done .nil) .nil) .nil)) (.alt 12 (.alt 10 (.alt 11 (.alt 13 .done .nil) .nil) .nil) .nil)) (.alt 12 (.alt 9 (.alt 10 (.alt 11 (.alt 13 .done .nil) .nil) .nil) .nil) .nil)) (.alt 9 (.alt 7 (.alt 10 (.alt 11 (.alt 12 (.alt 13 .done .nil) .nil) (.alt 12 (.alt 11 (.alt 13 .done .nil) .nil) .nil)) (.alt 12 (.alt 10 (.alt 11 (.alt 13 .done .nil) .nil) .nil) .nil)) (.alt 12 (.alt 7 (.alt 10 (.alt 11 (.alt 13 .done .nil) .nil) .nil) .nil) .nil)) (.alt 12 (.alt 7 (.alt 9 (.alt 10 (.alt 11 (.alt 13 .done .nil) .nil) .nil) .nil) (.alt 9 (.alt 7 (.alt 10 (.alt 11 (.alt 13 .done .nil) .nil) .nil) .nil) .nil)) .nil))) (.alt 9 (.alt 2 (.alt 7 (.alt 10 (.alt 11 (.alt 12 (.alt 13 .done .nil) .nil) (.alt 12 (.alt 11 (.alt 13 .done .nil) .nil) .nil)) (.alt 12 (.alt 10 (.alt 11 (.alt 13 .done .nil) .nil) .nil) .nil)) (.alt 12 (.alt 7 (.alt 10 (.alt 11 (.alt 13 .done .nil) .nil) .nil) .nil) .nil)) (.alt 12 (.alt 2 (.alt 7 (.alt 10 (.alt 11 (.alt 13 .done .nil) .nil) .nil) .nil) .nil) .nil)) (.alt 12 (.alt 2 (.alt 7 (.alt 9 (.alt 10 (.alt 11 (.alt 13 .done .nil) .nil) .nil) .nil) (.alt 9 (.alt 7 (.alt 10 (.alt 11 (.alt 13 .done .nil) .nil) .nil) .nil) .nil)) (.alt 9 (.alt 2 (.alt 7 (.alt 10 (.alt 11 (.alt 13 .done .nil) .nil) .nil) .nil) .nil) .nil)) .nil))))))))))) (.seq (.plan (.take 0 (.take 2 (.take 3 (.take 4 (.take 5 (.alt 1 (.alt 6 (.take 7 (.alt 8 .done .nil)) .nil) .nil))))))) (.seq .no .no)))))))))
theorem F28_eq (x0 x1 : Value) (R : Value → World → Prop) (w0 : World) : F28 x0 x1 R w0 = vc Tryd.prog (bodyOf Tryd.f28) a28 (retQ Tryd.prog Tryd.f28 R) (envOf 0 [x0, x1]) w0 := by kernel_rfl
theorem F28_calls (x0 x1 : Value) (R : Value → World → Prop) (w0 : World) (h : F28 x0 x1 R w0) : CallK Tryd.prog 28 #[x0, x1] R w0 :=
 calls_vc (c := bodyOf Tryd.f28) Tryd.func28 (by kernel_rfl) (by kernel_rfl) a28 (by kernel_rfl) (by kernel_rfl) [x0, x1] (by rw [Tryd.ntmps28]; exact Nat.le_of_ble_eq_true rfl) w0 R ((F28_eq x0 x1 R w0).mp h)

set_option maxHeartbeats 8000000 in
theorem putT_any {rs : List RowH} {most : Int} {key : ByteArray} {s : Stm} {hs : List AttH} {A B : Option Addr} {c d : Nat} {w : World} {K : Value → World → Prop} (ha : RowsAt w A rs) (hl : rs.length ≤ 100000) (hcap : rs.length ≤ c) (hA : (A = none ∧ c = 0) ∨ ∃ g o, A = some ⟨g, o, none⟩) (hu : UpK (rs.map (·.1))) (hr : AttsAt w B hs) (hz : ∀ x ∈ hs, AttSz x) (hn : hs.length ≤ 100000) (ho : s.2.2.2.size ≤ 20000) (hck : checkR (key, s, hs.map attP) = 0) (hfull : (∃ x ∈ rs, x.1 = key) ∨ (rs.length : Int) < most)
    (hK : ∀ (e : Int) A' c' rs' w', rs'.map rowP = putD (rs.map rowP) (key, s, hs.map attP) → RowsAt w' A' rs' → rs'.length ≤ c' → ((A' = none ∧ c' = 0) ∨ ∃ g o, A' = some ⟨g, o, none⟩) → (∀ x ∈ rs', x ∈ rs ∨ x = (key, s, B, d, hs)) → Qt w w' → K (.tuple #[tabV most A' rs'.length c', .int .i64 e]) w') : CallK Tryd.prog 28 #[tabV most A rs.length c, rowV key s B hs.length d] K w := by
  refine F28_calls _ _ _ _ ?_; unfold F28
  obtain ⟨q1, h1, s1⟩ := newb w #[.int .i64 most, .slice A rs.length c] 60
  simp (maxSteps := 1000000) (disch := omega) only [genAll, decAll, tk_nil, st28]
  generalize (w.alloc (.cells #[.int .i64 most, .slice A rs.length c] 60)) = w1 at *
  obtain ⟨q2, h2, s2⟩ := newb w1 #[.string key, .int .i64 s.1, .int .i64 s.2.1, .int .i64 s.2.2.1, .string s.2.2.2, .slice B hs.length d] 65
  rw [s1] at h2 s2
  generalize (w1.alloc (.cells #[.string key, .int .i64 s.1, .int .i64 s.2.1, .int .i64 s.2.2.1, .string s.2.2.2, .slice B hs.length d] 65)) = w2 at *
  obtain ⟨q3, h3, s3⟩ := newb w2 #[.int .i64 0, .slice none 0 0] 60
  rw [s2] at h3 s3
  generalize (w2.alloc (.cells #[.int .i64 0, .slice none 0 0] 60)) = w3 at *
  have q03 := (q1.trans q2).trans q3
  generalize hbt : w.heap.size = bt at *
  have h13 := (q2.trans q3).heap h1 (fun h => h)
  have h23 := q3.heap h2 (fun h => h)
  have R := fun w' (q : Qt w3 w') => cell6 (q.heap h23 (fun h => h))
  have Tb := fun w' (q : Qt w3 w') => cell2 (q.heap h13 (fun h => h))
  obtain ⟨x0, x1, x2, x3, x4, x5⟩ := R w3 Qt.refl
  simp (maxSteps := 1000000) (disch := omega) only [genAll, decAll, tk_nil, st28, x0, x1, x2, x3, x4, x5]
  refine ck43 (checkRR_any (hs := hs) ⟨hr.quiet q03, hz, by omega⟩ ho ?_)
  rw [hck]
  intro w4 q4
  have q34 := q4
  obtain ⟨x0, x1, x2, x3, x4, x5⟩ := R w4 q34
  obtain ⟨t0, t1⟩ := Tb w4 q34
  simp (maxSteps := 1000000) (disch := omega) only [genAll, decAll, tk_nil, st28, x0, t0, t1]
  refine ck61 (getT_one (ha.1.quiet (q03.trans q4)) hl hu ?_)
  intro r0 b w5 q5 hb1 hb0
  have q35 := q34.trans q5
  obtain ⟨q6, h7, s6⟩ := newb w5 #[.string r0.1, .int .i64 r0.2.1.1, .int .i64 r0.2.1.2.1, .int .i64 r0.2.1.2.2.1, .string r0.2.1.2.2.2, .slice r0.2.2.1 r0.2.2.2.2.length r0.2.2.2.1] 65
  simp (maxSteps := 1000000) (disch := omega) only [genAll, decAll, tk_nil, st28]
  generalize (w5.alloc (.cells #[.string r0.1, .int .i64 r0.2.1.1, .int .i64 r0.2.1.2.1, .int .i64 r0.2.1.2.2.1, .string r0.2.1.2.2.2, .slice r0.2.2.1 r0.2.2.2.2.length r0.2.2.2.1] 65)) = w7 at *
  have hs35 := q35.size
  have q37 : Qt w3 w7 := q35.trans q6
  generalize hbg : w5.heap.size = bg at *
  obtain ⟨y0, y1, y2, y3, y4, y5⟩ := cell6 h7
  refine cutK0 (fun w' => ∃ (A5 : Option Addr) (c5 : Nat) (rs5 : List RowH), w'.heap[bt]? = some (.cells #[.int .i64 most, .slice A5 rs5.length c5] 60 (0, 0)) ∧ w'.heap[bt + 1]? = some (.cells #[.string key, .int .i64 s.1, .int .i64 s.2.1, .int .i64 s.2.2.1, .string s.2.2.2, .slice B hs.length d] 65 (0, 0)) ∧ w'.heap[bt + 1 + 1]? = some (.cells #[.int .i64 0, .slice none 0 0] 60 (0, 0)) ∧ RowsAt w' A5 rs5 ∧ rs5.length ≤ rs.length ∧ rs5.length ≤ c5 ∧ ((A5 = none ∧ c5 = 0) ∨ ∃ g o, A5 = some ⟨g, o, none⟩) ∧ UpK (rs5.map (·.1)) ∧ (∀ x ∈ rs5, x ∈ rs) ∧ putD (rs.map rowP) (key, s, hs.map attP) = insD (rs5.map rowP) (key, s, hs.map attP) ∧ Qt w w') ?_ ?_
  · cases b with
    | false =>
      obtain ⟨t0, t1⟩ := Tb w7 q37
      have hlt : ¬ most ≤ (rs.length : Int) := by
        rcases hfull with ⟨x, hx, he⟩ | h
        · exact absurd he (hb0 rfl x hx)
        · omega
      have e := decide_eq_false hlt
      simp (maxSteps := 1000000) (disch := omega) only [genAll, decAll, tk_nil, st28, t0, t1, e]
      exact ⟨A, c, rs, q37.heap h13 (fun h => h), q37.heap h23 (fun h => h), q37.heap h3 (fun h => h), ha.quiet (q03.trans q37), by omega, hcap, hA, hu, fun x hx => hx, put_new (hb0 rfl), q03.trans q37⟩
    | true =>
      obtain ⟨hm, hk⟩ := hb1 rfl
      obtain ⟨x0, x1, x2, x3, x4, x5⟩ := R w7 q37
      simp (maxSteps := 1000000) (disch := omega) only [genAll, decAll, tk_nil, st28, y1, y2, y3, y4, x1, x2, x3, x4]
      refine ck53 (cmpStR_any ?_)
      intro w8 q8
      have q38 := q37.trans q8
      have q08 := q03.trans q38
      obtain ⟨t0, t1⟩ := Tb w8 q38
      by_cases hc : 0 ≤ cmpStm r0.2.1 s
      · have e := decide_eq_true hc
        simp (maxSteps := 1000000) (disch := omega) only [genAll, decAll, tk_nil, st28, e, t0, t1]
        refine aggStoreW (cs := [.int .i64 most, .slice A rs.length c]) (q38.heap h3 (fun h => h)) rfl (by kernel_rfl) (by intro u hu; simp at hu; rcases hu with rfl | rfl <;> rfl) ?_
        intro w9 h9 k9
        obtain ⟨y0, y1⟩ := cell2 h9
        simp (maxSteps := 1000000) (disch := omega) only [genAll, decAll, tk_nil, st28, y0, y1]
        refine hK 11 A c rs w9 ?_ (ha.quiet (Qt.then q08 k9 (fun k hk => by omega))) hcap hA (fun x hx => .inl hx) (Qt.then q08 k9 (fun k hk => by omega))
        rw [put_old hu hm hk, if_pos hc]
      · have e := decide_eq_false hc
        obtain ⟨x0, x1, x2, x3, x4, x5⟩ := R w8 q38
        simp (maxSteps := 1000000) (disch := omega) only [genAll, decAll, tk_nil, st28, e, t0, t1, x0]
        refine ck62 (dropT_any (ha.quiet q08) hl ?_)
        intro A9 c9 rs9 w9 hm9 hs9 a9 l9 sh9 q9
        have q39 := q38.trans q9
        refine aggStoreW (cs := [.int .i64 most, .slice A9 rs9.length c9]) (q39.heap h13 (fun h => h)) rfl (by kernel_rfl) (by intro u hu; simp at hu; rcases hu with rfl | rfl <;> rfl) ?_
        intro w10 h10 k10
        have q010 : Qt w w10 := Qt.then (q03.trans q39) k10 (fun k hk => by omega)
        simp (maxSteps := 1000000) (disch := omega) only [genAll, decAll, tk_nil, st28]
        have hlen9 : rs9.length ≤ rs.length := by
          have h1 := congrArg List.length hm9
          have h2 := List.length_filter_le (fun r : RowD => !decide (r.1 = key)) (rs.map rowP)
          rw [List.length_map] at h1 h2
          omega
        have hup9 : UpK (rs9.map (·.1)) := by
          have h1 : UpR (rs9.map rowP) := by rw [hm9]; exact (upR_of hu).filter _
          unfold UpR at h1
          rw [List.map_map] at h1; exact h1
        refine ⟨A9, c9, rs9, h10, k10.heap (q39.heap h23 (fun h => h)) (by omega), k10.heap (q39.heap h3 (fun h => h)) (by omega), ⟨a9.1.chg k10 ?_, fun x hx => (ha.2 x (hs9 x hx)).quiet q010⟩, hlen9, l9, ?_, hup9, hs9, ?_, q010⟩
        · intro ad he e
          rcases sh9 with h | ⟨g, h, hg⟩
          · rw [h.1] at he; cases he
          · rw [h] at he; cases he
            have := blk_lt (q38.heap h13 (fun h => h))
            have e : g = bt := e
            omega
        · rcases sh9 with h | ⟨g, h⟩
          · exact .inl h
          · exact .inr ⟨g, 0, h.1⟩
        · rw [put_old hu hm hk, if_neg hc, hm9]
  rintro _ w8 ⟨A5, c5, rs5, h18, h28, h38, a5, l5, cap5, hA5, hu5, hsub, hput, q08⟩
  obtain ⟨t0, t1⟩ := cell2 h18
  obtain ⟨x0, x1, x2, x3, x4, x5⟩ := cell6 h28
  simp (maxSteps := 1000000) (disch := omega) only [genAll, decAll, tk_nil, st28, t0, t1, x0]
  refine ck64 (at_any a5.1 (by omega) ?_)
  intro i b9 w9 q9 hi hlo hge hbb
  have q09 := q08.trans q9
  have h19 := q9.heap h18 (fun h => h)
  have h29 := q9.heap h28 (fun h => h)
  have h39 := q9.heap h38 (fun h => h)
  have a9 := a5.quiet q9
  have hins := ins_at (r := (key, s, hs.map attP)) hu5 hi hlo hge
  refine cutK1 (fun v w' => RT w9 w' most (i + 1) ((rs5.take i).flatMap rowC ++ rowC (key, s, B, d, hs)) v) ?_ ?_
  · have q9d : Qt w9 w9.drew := Qt.drew Qt.refl
    refine drawQ w9 q9d ?_
    generalize w9.drew = wd at *
    have T := fun w' (q : Qt w9 w') => cell2 (q.heap h19 (fun h => h))
    have X := fun w' (q : Qt w9 w') => cell6 (q.heap h29 (fun h => h))
    have T0 := fun w' (q : Qt w9 w') => (T w' q).1
    have T1 := fun w' (q : Qt w9 w') => (T w' q).2
    simp (maxSteps := 1000000) (disch := omega) only [genAll, decAll, tk_nil, st28, qkld3 T0, qkld33 T1]
    refine take_slice (.slice A5 i c5) (fun w' _ => slR_n hA5 cap5 hi (by (simp (maxSteps := 1000000) (disch := omega) only [genAll, decAll, tk_nil, st28]; try (exact ⟨trivial, trivial⟩)))) ?_
    have r0 := RS.z (C1 := #[.string key, .int .i64 s.1, .int .i64 s.2.1, .int .i64 s.2.2.1, .string s.2.2.2, .slice B hs.length d]) q9d
    have hl1 : ((rs5.take i).flatMap rowC).length = i * 6 := by rw [flat_len rowC_len, List.length_take, Nat.min_eq_left hi]
    have hs1 := srcR_take a9.1 i
    simp (maxSteps := 1000000) (disch := omega) only [genAll, decAll, tk_nil, st28, qkld65 X]
    refine ⟨⟨(r0.a0 (k := wd.heap.size) (rfl)).1, ?_, ⟨((r0.a0 (k := wd.heap.size) (rfl)).a1 (k := wd.heap.size + 1) (by rw [size_alloc])).1, ?_, ⟨(((r0.a0 (k := wd.heap.size) (rfl)).a1 (k := wd.heap.size + 1) (by rw [size_alloc])).a2 (k := wd.heap.size + (1 + 1)) (by rw [size_alloc, size_alloc])).1, ?_, trivial⟩, trivial⟩, ⟨((r0.a0 (k := wd.heap.size) (rfl)).a2 (k := wd.heap.size + 1) (by rw [size_alloc])).1, ?_, ⟨(((r0.a0 (k := wd.heap.size) (rfl)).a2 (k := wd.heap.size + 1) (by rw [size_alloc])).a1 (k := wd.heap.size + (1 + 1)) (by rw [size_alloc, size_alloc])).1, ?_, trivial⟩, trivial⟩, trivial⟩, ⟨(r0.a1 (k := wd.heap.size) (rfl)).1, ⟨((r0.a1 (k := wd.heap.size) (rfl)).a0 (k := wd.heap.size + 1) (by rw [size_alloc])).1, ?_, ⟨(((r0.a1 (k := wd.heap.size) (rfl)).a0 (k := wd.heap.size + 1) (by rw [size_alloc])).a2 (k := wd.heap.size + (1 + 1)) (by rw [size_alloc, size_alloc])).1, ?_, trivial⟩, trivial⟩, ⟨((r0.a1 (k := wd.heap.size) (rfl)).a2 (k := wd.heap.size + 1) (by rw [size_alloc])).1, ⟨(((r0.a1 (k := wd.heap.size) (rfl)).a2 (k := wd.heap.size + 1) (by rw [size_alloc])).a0 (k := wd.heap.size + (1 + 1)) (by rw [size_alloc, size_alloc])).1, ?_, trivial⟩, trivial⟩, trivial⟩, ⟨(r0.a2 (k := wd.heap.size) (rfl)).1, ⟨((r0.a2 (k := wd.heap.size) (rfl)).a0 (k := wd.heap.size + 1) (by rw [size_alloc])).1, ?_, ⟨(((r0.a2 (k := wd.heap.size) (rfl)).a0 (k := wd.heap.size + 1) (by rw [size_alloc])).a1 (k := wd.heap.size + (1 + 1)) (by rw [size_alloc, size_alloc])).1, ?_, trivial⟩, trivial⟩, ⟨((r0.a2 (k := wd.heap.size) (rfl)).a1 (k := wd.heap.size + 1) (by rw [size_alloc])).1, ⟨(((r0.a2 (k := wd.heap.size) (rfl)).a1 (k := wd.heap.size + 1) (by rw [size_alloc])).a0 (k := wd.heap.size + (1 + 1)) (by rw [size_alloc, size_alloc])).1, ?_, trivial⟩, trivial⟩, trivial⟩, trivial⟩
    · obtain ⟨A101, c101, F101, w101, p101, r101⟩ := (r0.a0 (k := wd.heap.size) (rfl)).ap hl1 hs1 (rowF_one _) (by omega) 33
      rw [Nat.zero_add] at p101 r101
      rw [List.nil_append] at r101
      refine appK p101 ?_
      simp (maxSteps := 1000000) (disch := omega) only [genAll, decAll, tk_nil, st28]
      refine ⟨r101.1, ⟨(r101.a1 (k := w101.heap.size) (rfl)).1, ?_, ⟨((r101.a1 (k := w101.heap.size) (rfl)).a2 (k := w101.heap.size + 1) (by rw [size_alloc])).1, ?_, trivial⟩, trivial⟩, ⟨(r101.a2 (k := w101.heap.size) (rfl)).1, ⟨((r101.a2 (k := w101.heap.size) (rfl)).a1 (k := w101.heap.size + 1) (by rw [size_alloc])).1, ?_, trivial⟩, trivial⟩, trivial⟩
      · obtain ⟨A102, c102, F102, w102, p102, r102⟩ := (r101.a1 (k := w101.heap.size) (rfl)).pu (cs := rowC (key, s, B, d, hs)) rfl rfl (rowC_one _) (by omega) 33
        refine appK p102 ?_
        simp (maxSteps := 1000000) (disch := omega) only [genAll, decAll, tk_nil, st28]
        refine ⟨r102.1, ⟨r102.1, ⟨(r102.a2 (k := w102.heap.size) (rfl)).1, (r102).fin rfl, trivial⟩, trivial⟩, ⟨(r102.a2 (k := w102.heap.size) (rfl)).1, ⟨(r102.a2 (k := w102.heap.size) (rfl)).1, (r102).fin rfl, trivial⟩, trivial⟩, trivial⟩
      · obtain ⟨A103, c103, F103, w103, p103, r103⟩ := ((r101.a1 (k := w101.heap.size) (rfl)).a2 (k := w101.heap.size + 1) (by rw [size_alloc])).pu (cs := rowC (key, s, B, d, hs)) rfl rfl (rowC_one _) (by omega) 33
        refine appK p103 ?_
        simp (maxSteps := 1000000) (disch := omega) only [genAll, decAll, tk_nil, st28]
        refine ⟨r103.1, ⟨r103.1, ?_, trivial⟩, trivial⟩
        · refine r103.st (fun w104 q104 t104 => ?_)
          simp (maxSteps := 1000000) (disch := omega) only [genAll, decAll, tk_nil, st28]
          exact ⟨q104, t104⟩
      · obtain ⟨A105, c105, F105, w105, p105, r105⟩ := ((r101.a2 (k := w101.heap.size) (rfl)).a1 (k := w101.heap.size + 1) (by rw [size_alloc])).pu (cs := rowC (key, s, B, d, hs)) rfl rfl (rowC_one _) (by omega) 33
        refine appK p105 ?_
        simp (maxSteps := 1000000) (disch := omega) only [genAll, decAll, tk_nil, st28]
        refine ⟨r105.1, ⟨r105.1, ?_, trivial⟩, trivial⟩
        · refine r105.st (fun w106 q106 t106 => ?_)
          simp (maxSteps := 1000000) (disch := omega) only [genAll, decAll, tk_nil, st28]
          exact ⟨q106, t106⟩
    · obtain ⟨A107, c107, F107, w107, p107, r107⟩ := ((r0.a0 (k := wd.heap.size) (rfl)).a1 (k := wd.heap.size + 1) (by rw [size_alloc])).ap hl1 hs1 (rowF_one _) (by omega) 33
      rw [Nat.zero_add] at p107 r107
      rw [List.nil_append] at r107
      refine appK p107 ?_
      simp (maxSteps := 1000000) (disch := omega) only [genAll, decAll, tk_nil, st28]
      refine ⟨r107.1, ?_, ⟨(r107.a2 (k := w107.heap.size) (rfl)).1, ?_, trivial⟩, trivial⟩
      · obtain ⟨A108, c108, F108, w108, p108, r108⟩ := r107.pu (cs := rowC (key, s, B, d, hs)) rfl rfl (rowC_one _) (by omega) 33
        refine appK p108 ?_
        simp (maxSteps := 1000000) (disch := omega) only [genAll, decAll, tk_nil, st28]
        refine ⟨r108.1, ⟨r108.1, ⟨(r108.a2 (k := w108.heap.size) (rfl)).1, (r108).fin rfl, trivial⟩, trivial⟩, ⟨(r108.a2 (k := w108.heap.size) (rfl)).1, ⟨(r108.a2 (k := w108.heap.size) (rfl)).1, (r108).fin rfl, trivial⟩, trivial⟩, trivial⟩
      · obtain ⟨A109, c109, F109, w109, p109, r109⟩ := (r107.a2 (k := w107.heap.size) (rfl)).pu (cs := rowC (key, s, B, d, hs)) rfl rfl (rowC_one _) (by omega) 33
        refine appK p109 ?_
        simp (maxSteps := 1000000) (disch := omega) only [genAll, decAll, tk_nil, st28]
        refine ⟨r109.1, ⟨r109.1, ?_, trivial⟩, trivial⟩
        · refine r109.st (fun w110 q110 t110 => ?_)
          simp (maxSteps := 1000000) (disch := omega) only [genAll, decAll, tk_nil, st28]
          exact ⟨q110, t110⟩
    · obtain ⟨A111, c111, F111, w111, p111, r111⟩ := (((r0.a0 (k := wd.heap.size) (rfl)).a1 (k := wd.heap.size + 1) (by rw [size_alloc])).a2 (k := wd.heap.size + (1 + 1)) (by rw [size_alloc, size_alloc])).ap hl1 hs1 (rowF_one _) (by omega) 33
      rw [Nat.zero_add] at p111 r111
      rw [List.nil_append] at r111
      refine appK p111 ?_
      simp (maxSteps := 1000000) (disch := omega) only [genAll, decAll, tk_nil, st28]
      refine ⟨r111.1, ?_, trivial⟩
      · obtain ⟨A112, c112, F112, w112, p112, r112⟩ := r111.pu (cs := rowC (key, s, B, d, hs)) rfl rfl (rowC_one _) (by omega) 33
        refine appK p112 ?_
        simp (maxSteps := 1000000) (disch := omega) only [genAll, decAll, tk_nil, st28]
        refine ⟨r112.1, ⟨r112.1, ?_, trivial⟩, trivial⟩
        · refine r112.st (fun w113 q113 t113 => ?_)
          simp (maxSteps := 1000000) (disch := omega) only [genAll, decAll, tk_nil, st28]
          exact ⟨q113, t113⟩
    · obtain ⟨A114, c114, F114, w114, p114, r114⟩ := ((r0.a0 (k := wd.heap.size) (rfl)).a2 (k := wd.heap.size + 1) (by rw [size_alloc])).ap hl1 hs1 (rowF_one _) (by omega) 33
      rw [Nat.zero_add] at p114 r114
      rw [List.nil_append] at r114
      refine appK p114 ?_
      simp (maxSteps := 1000000) (disch := omega) only [genAll, decAll, tk_nil, st28]
      refine ⟨r114.1, ⟨(r114.a1 (k := w114.heap.size) (rfl)).1, ?_, trivial⟩, trivial⟩
      · obtain ⟨A115, c115, F115, w115, p115, r115⟩ := (r114.a1 (k := w114.heap.size) (rfl)).pu (cs := rowC (key, s, B, d, hs)) rfl rfl (rowC_one _) (by omega) 33
        refine appK p115 ?_
        simp (maxSteps := 1000000) (disch := omega) only [genAll, decAll, tk_nil, st28]
        refine ⟨r115.1, ⟨r115.1, ?_, trivial⟩, trivial⟩
        · refine r115.st (fun w116 q116 t116 => ?_)
          simp (maxSteps := 1000000) (disch := omega) only [genAll, decAll, tk_nil, st28]
          exact ⟨q116, t116⟩
    · obtain ⟨A117, c117, F117, w117, p117, r117⟩ := (((r0.a0 (k := wd.heap.size) (rfl)).a2 (k := wd.heap.size + 1) (by rw [size_alloc])).a1 (k := wd.heap.size + (1 + 1)) (by rw [size_alloc, size_alloc])).ap hl1 hs1 (rowF_one _) (by omega) 33
      rw [Nat.zero_add] at p117 r117
      rw [List.nil_append] at r117
      refine appK p117 ?_
      simp (maxSteps := 1000000) (disch := omega) only [genAll, decAll, tk_nil, st28]
      refine ⟨r117.1, ?_, trivial⟩
      · obtain ⟨A118, c118, F118, w118, p118, r118⟩ := r117.pu (cs := rowC (key, s, B, d, hs)) rfl rfl (rowC_one _) (by omega) 33
        refine appK p118 ?_
        simp (maxSteps := 1000000) (disch := omega) only [genAll, decAll, tk_nil, st28]
        refine ⟨r118.1, ⟨r118.1, ?_, trivial⟩, trivial⟩
        · refine r118.st (fun w119 q119 t119 => ?_)
          simp (maxSteps := 1000000) (disch := omega) only [genAll, decAll, tk_nil, st28]
          exact ⟨q119, t119⟩
    · obtain ⟨A120, c120, F120, w120, p120, r120⟩ := ((r0.a1 (k := wd.heap.size) (rfl)).a0 (k := wd.heap.size + 1) (by rw [size_alloc])).ap hl1 hs1 (rowF_one _) (by omega) 33
      rw [Nat.zero_add] at p120 r120
      rw [List.nil_append] at r120
      refine appK p120 ?_
      simp (maxSteps := 1000000) (disch := omega) only [genAll, decAll, tk_nil, st28]
      refine ⟨r120.1, ?_, ⟨(r120.a2 (k := w120.heap.size) (rfl)).1, ?_, trivial⟩, trivial⟩
      · obtain ⟨A121, c121, F121, w121, p121, r121⟩ := r120.pu (cs := rowC (key, s, B, d, hs)) rfl rfl (rowC_one _) (by omega) 33
        refine appK p121 ?_
        simp (maxSteps := 1000000) (disch := omega) only [genAll, decAll, tk_nil, st28]
        refine ⟨r121.1, ⟨r121.1, ⟨(r121.a2 (k := w121.heap.size) (rfl)).1, (r121).fin rfl, trivial⟩, trivial⟩, ⟨(r121.a2 (k := w121.heap.size) (rfl)).1, ⟨(r121.a2 (k := w121.heap.size) (rfl)).1, (r121).fin rfl, trivial⟩, trivial⟩, trivial⟩
      · obtain ⟨A122, c122, F122, w122, p122, r122⟩ := (r120.a2 (k := w120.heap.size) (rfl)).pu (cs := rowC (key, s, B, d, hs)) rfl rfl (rowC_one _) (by omega) 33
        refine appK p122 ?_
        simp (maxSteps := 1000000) (disch := omega) only [genAll, decAll, tk_nil, st28]
        refine ⟨r122.1, ⟨r122.1, ?_, trivial⟩, trivial⟩
        · refine r122.st (fun w123 q123 t123 => ?_)
          simp (maxSteps := 1000000) (disch := omega) only [genAll, decAll, tk_nil, st28]
          exact ⟨q123, t123⟩
    · obtain ⟨A124, c124, F124, w124, p124, r124⟩ := (((r0.a1 (k := wd.heap.size) (rfl)).a0 (k := wd.heap.size + 1) (by rw [size_alloc])).a2 (k := wd.heap.size + (1 + 1)) (by rw [size_alloc, size_alloc])).ap hl1 hs1 (rowF_one _) (by omega) 33
      rw [Nat.zero_add] at p124 r124
      rw [List.nil_append] at r124
      refine appK p124 ?_
      simp (maxSteps := 1000000) (disch := omega) only [genAll, decAll, tk_nil, st28]
      refine ⟨r124.1, ?_, trivial⟩
      · obtain ⟨A125, c125, F125, w125, p125, r125⟩ := r124.pu (cs := rowC (key, s, B, d, hs)) rfl rfl (rowC_one _) (by omega) 33
        refine appK p125 ?_
        simp (maxSteps := 1000000) (disch := omega) only [genAll, decAll, tk_nil, st28]
        refine ⟨r125.1, ⟨r125.1, ?_, trivial⟩, trivial⟩
        · refine r125.st (fun w126 q126 t126 => ?_)
          simp (maxSteps := 1000000) (disch := omega) only [genAll, decAll, tk_nil, st28]
          exact ⟨q126, t126⟩
    · obtain ⟨A127, c127, F127, w127, p127, r127⟩ := (((r0.a1 (k := wd.heap.size) (rfl)).a2 (k := wd.heap.size + 1) (by rw [size_alloc])).a0 (k := wd.heap.size + (1 + 1)) (by rw [size_alloc, size_alloc])).ap hl1 hs1 (rowF_one _) (by omega) 33
      rw [Nat.zero_add] at p127 r127
      rw [List.nil_append] at r127
      refine appK p127 ?_
      simp (maxSteps := 1000000) (disch := omega) only [genAll, decAll, tk_nil, st28]
      refine ⟨r127.1, ?_, trivial⟩
      · obtain ⟨A128, c128, F128, w128, p128, r128⟩ := r127.pu (cs := rowC (key, s, B, d, hs)) rfl rfl (rowC_one _) (by omega) 33
        refine appK p128 ?_
        simp (maxSteps := 1000000) (disch := omega) only [genAll, decAll, tk_nil, st28]
        refine ⟨r128.1, ⟨r128.1, ?_, trivial⟩, trivial⟩
        · refine r128.st (fun w129 q129 t129 => ?_)
          simp (maxSteps := 1000000) (disch := omega) only [genAll, decAll, tk_nil, st28]
          exact ⟨q129, t129⟩
    · obtain ⟨A130, c130, F130, w130, p130, r130⟩ := ((r0.a2 (k := wd.heap.size) (rfl)).a0 (k := wd.heap.size + 1) (by rw [size_alloc])).ap hl1 hs1 (rowF_one _) (by omega) 33
      rw [Nat.zero_add] at p130 r130
      rw [List.nil_append] at r130
      refine appK p130 ?_
      simp (maxSteps := 1000000) (disch := omega) only [genAll, decAll, tk_nil, st28]
      refine ⟨r130.1, ⟨(r130.a1 (k := w130.heap.size) (rfl)).1, ?_, trivial⟩, trivial⟩
      · obtain ⟨A131, c131, F131, w131, p131, r131⟩ := (r130.a1 (k := w130.heap.size) (rfl)).pu (cs := rowC (key, s, B, d, hs)) rfl rfl (rowC_one _) (by omega) 33
        refine appK p131 ?_
        simp (maxSteps := 1000000) (disch := omega) only [genAll, decAll, tk_nil, st28]
        refine ⟨r131.1, ⟨r131.1, ?_, trivial⟩, trivial⟩
        · refine r131.st (fun w132 q132 t132 => ?_)
          simp (maxSteps := 1000000) (disch := omega) only [genAll, decAll, tk_nil, st28]
          exact ⟨q132, t132⟩
    · obtain ⟨A133, c133, F133, w133, p133, r133⟩ := (((r0.a2 (k := wd.heap.size) (rfl)).a0 (k := wd.heap.size + 1) (by rw [size_alloc])).a1 (k := wd.heap.size + (1 + 1)) (by rw [size_alloc, size_alloc])).ap hl1 hs1 (rowF_one _) (by omega) 33
      rw [Nat.zero_add] at p133 r133
      rw [List.nil_append] at r133
      refine appK p133 ?_
      simp (maxSteps := 1000000) (disch := omega) only [genAll, decAll, tk_nil, st28]
      refine ⟨r133.1, ?_, trivial⟩
      · obtain ⟨A134, c134, F134, w134, p134, r134⟩ := r133.pu (cs := rowC (key, s, B, d, hs)) rfl rfl (rowC_one _) (by omega) 33
        refine appK p134 ?_
        simp (maxSteps := 1000000) (disch := omega) only [genAll, decAll, tk_nil, st28]
        refine ⟨r134.1, ⟨r134.1, ?_, trivial⟩, trivial⟩
        · refine r134.st (fun w135 q135 t135 => ?_)
          simp (maxSteps := 1000000) (disch := omega) only [genAll, decAll, tk_nil, st28]
          exact ⟨q135, t135⟩
    · obtain ⟨A136, c136, F136, w136, p136, r136⟩ := (((r0.a2 (k := wd.heap.size) (rfl)).a1 (k := wd.heap.size + 1) (by rw [size_alloc])).a0 (k := wd.heap.size + (1 + 1)) (by rw [size_alloc, size_alloc])).ap hl1 hs1 (rowF_one _) (by omega) 33
      rw [Nat.zero_add] at p136 r136
      rw [List.nil_append] at r136
      refine appK p136 ?_
      simp (maxSteps := 1000000) (disch := omega) only [genAll, decAll, tk_nil, st28]
      refine ⟨r136.1, ?_, trivial⟩
      · obtain ⟨A137, c137, F137, w137, p137, r137⟩ := r136.pu (cs := rowC (key, s, B, d, hs)) rfl rfl (rowC_one _) (by omega) 33
        refine appK p137 ?_
        simp (maxSteps := 1000000) (disch := omega) only [genAll, decAll, tk_nil, st28]
        refine ⟨r137.1, ⟨r137.1, ?_, trivial⟩, trivial⟩
        · refine r137.st (fun w138 q138 t138 => ?_)
          simp (maxSteps := 1000000) (disch := omega) only [genAll, decAll, tk_nil, st28]
          exact ⟨q138, t138⟩
  rintro _ _ w10 ⟨b, A6, c6, F6, rfl, hb10, h10, o10, f10, n10, q910⟩
  have lbt := blk_lt h19
  have lres := blk_lt h39
  have hT : ¬ (bt = b ∨ F6 = some bt) := fun e => e.elim (fun e => by omega) (fun e => by have := n10 _ e; omega)
  have q010 := q09.trans q910
  have h110 := q910.heap h19 (fun h => h)
  have h310 := q910.heap h39 (fun h => h)
  have kd : Chg (fun k => k = b ∨ F6 = some k) w10 w10.drew := (Qt.drew (w := w10) Qt.refl).mono (fun _ _ h => h.elim)
  refine drawC (fun k => k = b ∨ F6 = some k) w10 kd ?_
  have T1 : ∀ w', Chs (fun k => k = b ∨ F6 = some k) w10 w' → w'.cell? ⟨bt, 1, none⟩ = some (.slice A5 rs5.length c5) := fun w' q => (cell2 (Chg.heap q h110 hT)).2
  have qdd : Qt w10 w10.drew := Qt.drew Qt.refl
  have h10d := qdd.heap h10 (fun h => h)
  have o10d := o10.chg qdd (fun _ _ h => h)
  generalize w10.drew = w11 at *
  obtain ⟨u0, u1⟩ := cell2 h10d
  simp (maxSteps := 1000000) (disch := omega) only [genAll, decAll, tk_nil, st28, qkld33 T1, u1]
  obtain ⟨A8, hsl, hsrc⟩ := slR_d (i := i) (rs := rs5) hA5 rfl cap5 hi
  refine take_slice (.slice A8 (rs5.length - i) (c5 - i)) (fun w' _ => hsl _ _ (by (simp (maxSteps := 1000000) (disch := omega) only [genAll, decAll, tk_nil, st28]; try (exact ⟨trivial, trivial⟩)))) ?_
  simp (maxSteps := 1000000) (disch := omega) only [genAll, decAll, tk_nil, st28, u1]
  obtain ⟨A12, c12, F12, w12, p12, o12, k12, f12⟩ := app_run (P := Tryd.prog) tyRR o10d A8 (rs5.length - i) (c5 - i) ((rs5.drop i).flatMap rowC) (by rw [flat_len rowC_len, List.length_drop]) (hsrc w11 ((a9.1.quiet q910).quiet qdd)) (rowF_one _) (by omega) (by omega) 33
  obtain ⟨n', hn'⟩ : ∃ n', n' = i + 1 + (rs5.length - i) := ⟨_, rfl⟩
  rw [← hn'] at p12 o12
  refine ⟨⟨kd, appK p12 ?_, trivial⟩, trivial⟩
  have hu12 := k12.heap h10d f10
  obtain ⟨v0, v1⟩ := cell2 hu12
  have fz := blk_frozen hu12 1
  have hs11 := qdd.size
  have q012 : Qt w w12 := Qt.then (q010.trans qdd) k12 (fun k hk => by have := n10 _ hk; have := q09.size; omega)
  have hn12 : ∀ k, F12 = some k → w9.heap.size ≤ k := fun k hk => by
    rcases f12 k hk with h | h
    · exact n10 k h
    · have := q910.size; omega
  have hb12 : F12 ≠ some b := fun e => by
    rcases f12 b e with h | h
    · exact f10 h
    · exact absurd (blk_lt h10d) (by omega)
  have h312 := k12.heap (qdd.heap h310 (fun h => h)) (fun e => by have := n10 _ e; omega)
  simp (maxSteps := 1000000) (disch := omega) only [genAll, decAll, tk_nil, st28, v1, fz]
  have h13 : (w12.setCell ⟨b, 1, none⟩ (.slice A12 n' c12)).heap[b]? = some (.cells #[.int .i64 most, .slice A12 n' c12] 60 (0, 0)) := by rw [blk_set hu12]; rfl
  have k13 : Chg (fun k => k = b) w12 (w12.setCell ⟨b, 1, none⟩ (.slice A12 n' c12)) := (Chg.refl (fun k => k = b) w12).setCell (p := ⟨b, 1, none⟩) (.inl rfl) _
  generalize w12.setCell ⟨b, 1, none⟩ (.slice A12 n' c12) = w13 at *
  have h313 := k13.heap h312 (by omega)
  have o13 := o12.chg k13 (fun k hk e => hb12 (by rw [hk, e]))
  have hw9 : w.heap.size ≤ w9.heap.size := q09.size
  have q013 : Qt w w13 := Qt.then q012 k13 (fun k hk => by omega)
  have c12' := kd.trans (k12.mono (fun _ _ h => .inr h))
  obtain ⟨v0, v1⟩ := cell2 h13
  refine ⟨c12', ⟨c12'.trans (k13.mono (fun _ _ h => .inl h)), ?_⟩, trivial⟩
  simp (maxSteps := 1000000) (disch := omega) only [genAll, decAll, tk_nil, st28, v0, v1]
  refine aggStoreW (cs := [.int .i64 most, .slice A12 n' c12]) h313 rfl (by kernel_rfl) (by intro u hu; simp at hu; rcases hu with rfl | rfl <;> rfl) ?_
  intro w14 h14 k14
  obtain ⟨v0, v1⟩ := cell2 h14
  simp (maxSteps := 1000000) (disch := omega) only [genAll, decAll, tk_nil, st28, v0, v1]
  have q014 : Qt w w14 := Qt.then q013 k14 (fun k hk => by omega)
  have o14 := o13.chg k14 (fun k hk e => by have := hn12 k hk; omega)
  have el : (rs5.take i ++ (key, s, B, d, hs) :: rs5.drop i).length = n' := by rw [List.length_append, List.length_cons, List.length_take, List.length_drop]; omega
  have ef : (rs5.take i).flatMap rowC ++ rowC (key, s, B, d, hs) ++ (rs5.drop i).flatMap rowC = (rs5.take i ++ (key, s, B, d, hs) :: rs5.drop i).flatMap rowC := by rw [List.flatMap_append, List.flatMap_cons, List.append_assoc]
  rw [ef] at o14
  rw [← el] at o14 ⊢
  have hmem : ∀ x ∈ rs5.take i ++ (key, s, B, d, hs) :: rs5.drop i, x ∈ rs ∨ x = (key, s, B, d, hs) := fun x hx => by
    rcases List.mem_append.1 hx with h | h
    · exact .inl (hsub x (List.mem_of_mem_take h))
    · rcases List.mem_cons.1 h with h | h
      · exact .inr h
      · exact .inl (hsub x (List.mem_of_mem_drop h))
  refine hK 0 A12 c12 _ w14 ?_ ⟨reads_own o14, fun x hx => ?_⟩ ?_ ?_ hmem q014
  · rw [hput, hins, List.map_append, List.map_cons]; rfl
  · rcases hmem x hx with h | rfl
    · exact (ha.2 x h).quiet q014
    · exact hr.quiet q014
  · obtain ⟨_, _, e, h, _⟩ := o14.shape
    injection e with _ _ e; omega
  · rcases own_cases o14 with ⟨h1, _, h2, _⟩ | ⟨g8, h1, _⟩
    · exact .inl ⟨h1, h2⟩
    · exact .inr ⟨g8, 0, h1⟩
end Pt
end Go.Proofs.YtpjeohellehgjaaDoor

