/-
  A part of the proof (RaTabF0, RaTabF1, RaTabF2, RaTabF3, RaTabOk, RaDeed, RaBegD, RaMemo, RaBegM, RaBegO, RaNames, RaBegK1): an evaluator of the model's code with its proof, or facts of this program that it reckons. No condition.
-/
import Derived.Test.YtlpeihabbkgnbaaGreatDoorRb5
import Derived.Test.YtlpeihabbkgnbaaGreatDoorRb3
import Derived.KernelRfl
import Derived.Test.YtlpeihabbkgnbaaGreatDoorRb4
import Derived.WalkKit
import Derived.ProofKit
import Derived.Test.YtlpeihabbkgnbaaGreatDoorShelf
import Derived.Test.YtlpeihabbkgnbaaGreatDoorIter
section
namespace Go.Proofs
open Go Go.Ra
set_option maxRecDepth 100000
theorem fi_2 : Tryz.prog.funcs[2]? = some Tryz.f2 := by kernel_rfl
theorem fb_2 : fnB E0 2 Tryz.f2 = true := by kernel_rfl
theorem fi_6 : Tryz.prog.funcs[6]? = some Tryz.f6 := by kernel_rfl
theorem fb_6 : fnB E0 6 Tryz.f6 = true := by kernel_rfl
theorem fi_10 : Tryz.prog.funcs[10]? = some Tryz.f10 := by kernel_rfl
theorem fb_10 : fnB E0 10 Tryz.f10 = true := by kernel_rfl
theorem fi_14 : Tryz.prog.funcs[14]? = some Tryz.f14 := by kernel_rfl
theorem fb_14 : fnB E0 14 Tryz.f14 = true := by kernel_rfl
theorem fi_18 : Tryz.prog.funcs[18]? = some Tryz.f18 := by kernel_rfl
theorem fb_18 : fnB E0 18 Tryz.f18 = true := by kernel_rfl
theorem fi_22 : Tryz.prog.funcs[22]? = some Tryz.f22 := by kernel_rfl
theorem fb_22 : fnB E0 22 Tryz.f22 = true := by kernel_rfl
theorem fi_26 : Tryz.prog.funcs[26]? = some Tryz.f26 := by kernel_rfl
theorem fb_26 : fnB E0 26 Tryz.f26 = true := by kernel_rfl
theorem fi_30 : Tryz.prog.funcs[30]? = some Tryz.f30 := by kernel_rfl
theorem fb_30 : fnB E0 30 Tryz.f30 = true := by kernel_rfl
theorem fi_34 : Tryz.prog.funcs[34]? = some Tryz.f34 := by kernel_rfl
theorem fb_34 : fnB E0 34 Tryz.f34 = true := by kernel_rfl
theorem fi_38 : Tryz.prog.funcs[38]? = some Tryz.f38 := by kernel_rfl
theorem fb_38 : fnB E0 38 Tryz.f38 = true := by kernel_rfl
theorem fi_42 : Tryz.prog.funcs[42]? = some Tryz.f42 := by kernel_rfl
theorem fb_42 : fnB E0 42 Tryz.f42 = true := by kernel_rfl
theorem fi_46 : Tryz.prog.funcs[46]? = some Tryz.f46 := by kernel_rfl
theorem fb_46 : fnB E0 46 Tryz.f46 = true := by kernel_rfl
theorem fi_50 : Tryz.prog.funcs[50]? = some Tryz.f50 := by kernel_rfl
theorem fb_50 : fnB E0 50 Tryz.f50 = true := by kernel_rfl
theorem fi_54 : Tryz.prog.funcs[54]? = some Tryz.f54 := by kernel_rfl
theorem fb_54 : fnB E0 54 Tryz.f54 = true := by kernel_rfl
theorem fi_58 : Tryz.prog.funcs[58]? = some Tryz.f58 := by kernel_rfl
theorem fb_58 : fnB E0 58 Tryz.f58 = true := by kernel_rfl
theorem fi_62 : Tryz.prog.funcs[62]? = some Tryz.f62 := by kernel_rfl
theorem fb_62 : fnB E0 62 Tryz.f62 = true := by kernel_rfl
theorem fi_66 : Tryz.prog.funcs[66]? = some Tryz.f66 := by kernel_rfl
theorem fb_66 : fnB E0 66 Tryz.f66 = true := by kernel_rfl
theorem fi_70 : Tryz.prog.funcs[70]? = some Tryz.f70 := by kernel_rfl
theorem fb_70 : fnB E0 70 Tryz.f70 = true := by kernel_rfl
theorem fi_74 : Tryz.prog.funcs[74]? = some Tryz.f74 := by kernel_rfl
theorem fb_74 : fnB E0 74 Tryz.f74 = true := by kernel_rfl
theorem fi_78 : Tryz.prog.funcs[78]? = some Tryz.f78 := by kernel_rfl
theorem fb_78 : fnB E0 78 Tryz.f78 = true := by kernel_rfl
theorem fi_82 : Tryz.prog.funcs[82]? = some Tryz.f82 := by kernel_rfl
theorem fb_82 : fnB E0 82 Tryz.f82 = true := by kernel_rfl
theorem fi_86 : Tryz.prog.funcs[86]? = some Tryz.f86 := by kernel_rfl
theorem fb_86 : fnB E0 86 Tryz.f86 = true := by kernel_rfl
theorem fi_90 : Tryz.prog.funcs[90]? = some Tryz.f90 := by kernel_rfl
theorem fb_90 : fnB E0 90 Tryz.f90 = true := by kernel_rfl
theorem fi_94 : Tryz.prog.funcs[94]? = some Tryz.f94 := by kernel_rfl
theorem fb_94 : fnB E0 94 Tryz.f94 = true := by kernel_rfl
theorem fi_98 : Tryz.prog.funcs[98]? = some Tryz.f98 := by kernel_rfl
theorem fb_98 : fnB E0 98 Tryz.f98 = true := by kernel_rfl
theorem fi_102 : Tryz.prog.funcs[102]? = some Tryz.f102 := by kernel_rfl
theorem fb_102 : fnB E0 102 Tryz.f102 = true := by kernel_rfl
theorem fi_106 : Tryz.prog.funcs[106]? = some Tryz.f106 := by kernel_rfl
theorem fb_106 : fnB E0 106 Tryz.f106 = true := by kernel_rfl
theorem fi_110 : Tryz.prog.funcs[110]? = some Tryz.f110 := by kernel_rfl
theorem fb_110 : fnB E0 110 Tryz.f110 = true := by kernel_rfl
theorem fi_114 : Tryz.prog.funcs[114]? = some Tryz.f114 := by kernel_rfl
theorem fb_114 : fnB E0 114 Tryz.f114 = true := by kernel_rfl
theorem fi_118 : Tryz.prog.funcs[118]? = some Tryz.f118 := by kernel_rfl
theorem fb_118 : fnB E0 118 Tryz.f118 = true := by kernel_rfl
theorem fi_122 : Tryz.prog.funcs[122]? = some Tryz.f122 := by kernel_rfl
theorem fb_122 : fnB E0 122 Tryz.f122 = true := by kernel_rfl
theorem fi_126 : Tryz.prog.funcs[126]? = some Tryz.f126 := by kernel_rfl
theorem fb_126 : fnB E0 126 Tryz.f126 = true := by kernel_rfl
theorem fi_130 : Tryz.prog.funcs[130]? = some Tryz.f130 := by kernel_rfl
theorem fb_130 : fnB E0 130 Tryz.f130 = true := by kernel_rfl
theorem fi_134 : Tryz.prog.funcs[134]? = some Tryz.f134 := by kernel_rfl
theorem fb_134 : fnB E0 134 Tryz.f134 = true := by kernel_rfl
theorem fi_138 : Tryz.prog.funcs[138]? = some Tryz.f138 := by kernel_rfl
theorem fb_138 : fnB E0 138 Tryz.f138 = true := by kernel_rfl
theorem fi_142 : Tryz.prog.funcs[142]? = some Tryz.f142 := by kernel_rfl
theorem fb_142 : fnB E0 142 Tryz.f142 = true := by kernel_rfl
theorem fi_146 : Tryz.prog.funcs[146]? = some Tryz.f146 := by kernel_rfl
theorem fb_146 : fnB E0 146 Tryz.f146 = true := by kernel_rfl
theorem fi_150 : Tryz.prog.funcs[150]? = some Tryz.f150 := by kernel_rfl
theorem fb_150 : fnB E0 150 Tryz.f150 = true := by kernel_rfl
theorem fi_154 : Tryz.prog.funcs[154]? = some Tryz.f154 := by kernel_rfl
theorem fb_154 : fnB E0 154 Tryz.f154 = true := by kernel_rfl
theorem fi_158 : Tryz.prog.funcs[158]? = some Tryz.f158 := by kernel_rfl
theorem fb_158 : fnB E0 158 Tryz.f158 = true := by kernel_rfl
theorem fi_162 : Tryz.prog.funcs[162]? = some Tryz.f162 := by kernel_rfl
theorem fb_162 : fnB E0 162 Tryz.f162 = true := by kernel_rfl
theorem fi_166 : Tryz.prog.funcs[166]? = some Tryz.f166 := by kernel_rfl
theorem fb_166 : fnB E0 166 Tryz.f166 = true := by kernel_rfl
theorem fi_170 : Tryz.prog.funcs[170]? = some Tryz.f170 := by kernel_rfl
theorem fb_170 : fnB E0 170 Tryz.f170 = true := by kernel_rfl
theorem fi_174 : Tryz.prog.funcs[174]? = some Tryz.f174 := by kernel_rfl
theorem fb_174 : fnB E0 174 Tryz.f174 = true := by kernel_rfl
theorem fi_178 : Tryz.prog.funcs[178]? = some Tryz.f178 := by kernel_rfl
theorem fb_178 : fnB E0 178 Tryz.f178 = true := by kernel_rfl
theorem fi_182 : Tryz.prog.funcs[182]? = some Tryz.f182 := by kernel_rfl
theorem fb_182 : fnB E0 182 Tryz.f182 = true := by kernel_rfl
theorem fi_188 : Tryz.prog.funcs[188]? = some Tryz.f188 := by kernel_rfl
theorem fb_188 : fnB E0 188 Tryz.f188 = true := by kernel_rfl
theorem fi_192 : Tryz.prog.funcs[192]? = some Tryz.f192 := by kernel_rfl
theorem fb_192 : fnB E0 192 Tryz.f192 = true := by kernel_rfl
theorem fi_196 : Tryz.prog.funcs[196]? = some Tryz.f196 := by kernel_rfl
theorem fb_196 : fnB E0 196 Tryz.f196 = true := by kernel_rfl
theorem fi_200 : Tryz.prog.funcs[200]? = some Tryz.f200 := by kernel_rfl
theorem fb_200 : fnB E0 200 Tryz.f200 = true := by kernel_rfl
theorem fi_204 : Tryz.prog.funcs[204]? = some Tryz.f204 := by kernel_rfl
theorem fb_204 : fnB E0 204 Tryz.f204 = true := by kernel_rfl
theorem fi_208 : Tryz.prog.funcs[208]? = some Tryz.f208 := by kernel_rfl
theorem fb_208 : fnB E0 208 Tryz.f208 = true := by kernel_rfl
theorem fi_212 : Tryz.prog.funcs[212]? = some Tryz.f212 := by kernel_rfl
theorem fb_212 : fnB E0 212 Tryz.f212 = true := by kernel_rfl
theorem fi_216 : Tryz.prog.funcs[216]? = some Tryz.f216 := by kernel_rfl
theorem fb_216 : fnB E0 216 Tryz.f216 = true := by kernel_rfl
theorem fi_220 : Tryz.prog.funcs[220]? = some Tryz.f220 := by kernel_rfl
theorem fb_220 : fnB E0 220 Tryz.f220 = true := by kernel_rfl
theorem fi_224 : Tryz.prog.funcs[224]? = some Tryz.f224 := by kernel_rfl
theorem fb_224 : fnB E0 224 Tryz.f224 = true := by kernel_rfl
theorem fi_228 : Tryz.prog.funcs[228]? = some Tryz.f228 := by kernel_rfl
theorem fb_228 : fnB E0 228 Tryz.f228 = true := by kernel_rfl
theorem fi_232 : Tryz.prog.funcs[232]? = some Tryz.f232 := by kernel_rfl
theorem fb_232 : fnB E0 232 Tryz.f232 = true := by kernel_rfl
theorem fi_236 : Tryz.prog.funcs[236]? = some Tryz.f236 := by kernel_rfl
theorem fb_236 : fnB E0 236 Tryz.f236 = true := by kernel_rfl
theorem fi_240 : Tryz.prog.funcs[240]? = some Tryz.f240 := by kernel_rfl
theorem fb_240 : fnB E0 240 Tryz.f240 = true := by kernel_rfl
theorem fi_244 : Tryz.prog.funcs[244]? = some Tryz.f244 := by kernel_rfl
theorem fb_244 : fnB E0 244 Tryz.f244 = true := by kernel_rfl
theorem fi_248 : Tryz.prog.funcs[248]? = some Tryz.f248 := by kernel_rfl
theorem fb_248 : fnB E0 248 Tryz.f248 = true := by kernel_rfl
theorem fi_252 : Tryz.prog.funcs[252]? = some Tryz.f252 := by kernel_rfl
theorem fb_252 : fnB E0 252 Tryz.f252 = true := by kernel_rfl
theorem fi_256 : Tryz.prog.funcs[256]? = some Tryz.f256 := by kernel_rfl
theorem fb_256 : fnB E0 256 Tryz.f256 = true := by kernel_rfl
theorem fi_260 : Tryz.prog.funcs[260]? = some Tryz.f260 := by kernel_rfl
theorem fb_260 : fnB E0 260 Tryz.f260 = true := by kernel_rfl
theorem fi_265 : Tryz.prog.funcs[265]? = some Tryz.f265 := by kernel_rfl
theorem fb_265 : fnB E0 265 Tryz.f265 = true := by kernel_rfl
theorem fi_269 : Tryz.prog.funcs[269]? = some Tryz.f269 := by kernel_rfl
theorem fb_269 : fnB E0 269 Tryz.f269 = true := by kernel_rfl
theorem fi_273 : Tryz.prog.funcs[273]? = some Tryz.f273 := by kernel_rfl
theorem fb_273 : fnB E0 273 Tryz.f273 = true := by kernel_rfl
theorem fi_277 : Tryz.prog.funcs[277]? = some Tryz.f277 := by kernel_rfl
theorem fb_277 : fnB E0 277 Tryz.f277 = true := by kernel_rfl
theorem fi_281 : Tryz.prog.funcs[281]? = some Tryz.f281 := by kernel_rfl
theorem fb_281 : fnB E0 281 Tryz.f281 = true := by kernel_rfl
theorem fi_285 : Tryz.prog.funcs[285]? = some Tryz.f285 := by kernel_rfl
theorem fb_285 : fnB E0 285 Tryz.f285 = true := by kernel_rfl
theorem fi_289 : Tryz.prog.funcs[289]? = some Tryz.f289 := by kernel_rfl
theorem fb_289 : fnB E0 289 Tryz.f289 = true := by kernel_rfl
theorem fi_293 : Tryz.prog.funcs[293]? = some Tryz.f293 := by kernel_rfl
theorem fb_293 : fnB E0 293 Tryz.f293 = true := by kernel_rfl
theorem fi_297 : Tryz.prog.funcs[297]? = some Tryz.f297 := by kernel_rfl
theorem fb_297 : fnB E0 297 Tryz.f297 = true := by kernel_rfl
theorem fi_301 : Tryz.prog.funcs[301]? = some Tryz.f301 := by kernel_rfl
theorem fb_301 : fnB E0 301 Tryz.f301 = true := by kernel_rfl
theorem fi_305 : Tryz.prog.funcs[305]? = some Tryz.f305 := by kernel_rfl
theorem fb_305 : fnB E0 305 Tryz.f305 = true := by kernel_rfl
theorem fi_309 : Tryz.prog.funcs[309]? = some Tryz.f309 := by kernel_rfl
theorem fb_309 : fnB E0 309 Tryz.f309 = true := by kernel_rfl
theorem fi_313 : Tryz.prog.funcs[313]? = some Tryz.f313 := by kernel_rfl
theorem fb_313 : fnB E0 313 Tryz.f313 = true := by kernel_rfl
theorem fi_317 : Tryz.prog.funcs[317]? = some Tryz.f317 := by kernel_rfl
theorem fb_317 : fnB E0 317 Tryz.f317 = true := by kernel_rfl
theorem fi_321 : Tryz.prog.funcs[321]? = some Tryz.f321 := by kernel_rfl
theorem fb_321 : fnB E0 321 Tryz.f321 = true := by kernel_rfl
theorem fi_325 : Tryz.prog.funcs[325]? = some Tryz.f325 := by kernel_rfl
theorem fb_325 : fnB E0 325 Tryz.f325 = true := by kernel_rfl
theorem fi_329 : Tryz.prog.funcs[329]? = some Tryz.f329 := by kernel_rfl
theorem fb_329 : fnB E0 329 Tryz.f329 = true := by kernel_rfl
theorem fi_333 : Tryz.prog.funcs[333]? = some Tryz.f333 := by kernel_rfl
theorem fb_333 : fnB E0 333 Tryz.f333 = true := by kernel_rfl
theorem fi_338 : Tryz.prog.funcs[338]? = some Tryz.f338 := by kernel_rfl
theorem fb_338 : fnB E0 338 Tryz.f338 = true := by kernel_rfl
theorem fi_342 : Tryz.prog.funcs[342]? = some Tryz.f342 := by kernel_rfl
theorem fb_342 : fnB E0 342 Tryz.f342 = true := by kernel_rfl
theorem fi_346 : Tryz.prog.funcs[346]? = some Tryz.f346 := by kernel_rfl
theorem fb_346 : fnB E0 346 Tryz.f346 = true := by kernel_rfl
theorem fi_350 : Tryz.prog.funcs[350]? = some Tryz.f350 := by kernel_rfl
theorem fb_350 : fnB E0 350 Tryz.f350 = true := by kernel_rfl
theorem fi_354 : Tryz.prog.funcs[354]? = some Tryz.f354 := by kernel_rfl
theorem fb_354 : fnB E0 354 Tryz.f354 = true := by kernel_rfl
theorem fi_359 : Tryz.prog.funcs[359]? = some Tryz.f359 := by kernel_rfl
theorem fb_359 : fnB E0 359 Tryz.f359 = true := by kernel_rfl
end Go.Proofs
end

section
namespace Go.Proofs
open Go Go.Ra
set_option maxRecDepth 100000
theorem fi_3 : Tryz.prog.funcs[3]? = some Tryz.f3 := by kernel_rfl
theorem fb_3 : fnB E0 3 Tryz.f3 = true := by kernel_rfl
theorem fi_7 : Tryz.prog.funcs[7]? = some Tryz.f7 := by kernel_rfl
theorem fb_7 : fnB E0 7 Tryz.f7 = true := by kernel_rfl
theorem fi_11 : Tryz.prog.funcs[11]? = some Tryz.f11 := by kernel_rfl
theorem fb_11 : fnB E0 11 Tryz.f11 = true := by kernel_rfl
theorem fi_15 : Tryz.prog.funcs[15]? = some Tryz.f15 := by kernel_rfl
theorem fb_15 : fnB E0 15 Tryz.f15 = true := by kernel_rfl
theorem fi_19 : Tryz.prog.funcs[19]? = some Tryz.f19 := by kernel_rfl
theorem fb_19 : fnB E0 19 Tryz.f19 = true := by kernel_rfl
theorem fi_23 : Tryz.prog.funcs[23]? = some Tryz.f23 := by kernel_rfl
theorem fb_23 : fnB E0 23 Tryz.f23 = true := by kernel_rfl
theorem fi_27 : Tryz.prog.funcs[27]? = some Tryz.f27 := by kernel_rfl
theorem fb_27 : fnB E0 27 Tryz.f27 = true := by kernel_rfl
theorem fi_31 : Tryz.prog.funcs[31]? = some Tryz.f31 := by kernel_rfl
theorem fb_31 : fnB E0 31 Tryz.f31 = true := by kernel_rfl
theorem fi_35 : Tryz.prog.funcs[35]? = some Tryz.f35 := by kernel_rfl
theorem fb_35 : fnB E0 35 Tryz.f35 = true := by kernel_rfl
theorem fi_39 : Tryz.prog.funcs[39]? = some Tryz.f39 := by kernel_rfl
theorem fb_39 : fnB E0 39 Tryz.f39 = true := by kernel_rfl
theorem fi_43 : Tryz.prog.funcs[43]? = some Tryz.f43 := by kernel_rfl
theorem fb_43 : fnB E0 43 Tryz.f43 = true := by kernel_rfl
theorem fi_47 : Tryz.prog.funcs[47]? = some Tryz.f47 := by kernel_rfl
theorem fb_47 : fnB E0 47 Tryz.f47 = true := by kernel_rfl
theorem fi_51 : Tryz.prog.funcs[51]? = some Tryz.f51 := by kernel_rfl
theorem fb_51 : fnB E0 51 Tryz.f51 = true := by kernel_rfl
theorem fi_55 : Tryz.prog.funcs[55]? = some Tryz.f55 := by kernel_rfl
theorem fb_55 : fnB E0 55 Tryz.f55 = true := by kernel_rfl
theorem fi_59 : Tryz.prog.funcs[59]? = some Tryz.f59 := by kernel_rfl
theorem fb_59 : fnB E0 59 Tryz.f59 = true := by kernel_rfl
theorem fi_63 : Tryz.prog.funcs[63]? = some Tryz.f63 := by kernel_rfl
theorem fb_63 : fnB E0 63 Tryz.f63 = true := by kernel_rfl
theorem fi_67 : Tryz.prog.funcs[67]? = some Tryz.f67 := by kernel_rfl
theorem fb_67 : fnB E0 67 Tryz.f67 = true := by kernel_rfl
theorem fi_71 : Tryz.prog.funcs[71]? = some Tryz.f71 := by kernel_rfl
theorem fb_71 : fnB E0 71 Tryz.f71 = true := by kernel_rfl
theorem fi_75 : Tryz.prog.funcs[75]? = some Tryz.f75 := by kernel_rfl
theorem fb_75 : fnB E0 75 Tryz.f75 = true := by kernel_rfl
theorem fi_79 : Tryz.prog.funcs[79]? = some Tryz.f79 := by kernel_rfl
theorem fb_79 : fnB E0 79 Tryz.f79 = true := by kernel_rfl
theorem fi_83 : Tryz.prog.funcs[83]? = some Tryz.f83 := by kernel_rfl
theorem fb_83 : fnB E0 83 Tryz.f83 = true := by kernel_rfl
theorem fi_87 : Tryz.prog.funcs[87]? = some Tryz.f87 := by kernel_rfl
theorem fb_87 : fnB E0 87 Tryz.f87 = true := by kernel_rfl
theorem fi_91 : Tryz.prog.funcs[91]? = some Tryz.f91 := by kernel_rfl
theorem fb_91 : fnB E0 91 Tryz.f91 = true := by kernel_rfl
theorem fi_95 : Tryz.prog.funcs[95]? = some Tryz.f95 := by kernel_rfl
theorem fb_95 : fnB E0 95 Tryz.f95 = true := by kernel_rfl
theorem fi_99 : Tryz.prog.funcs[99]? = some Tryz.f99 := by kernel_rfl
theorem fb_99 : fnB E0 99 Tryz.f99 = true := by kernel_rfl
theorem fi_103 : Tryz.prog.funcs[103]? = some Tryz.f103 := by kernel_rfl
theorem fb_103 : fnB E0 103 Tryz.f103 = true := by kernel_rfl
theorem fi_107 : Tryz.prog.funcs[107]? = some Tryz.f107 := by kernel_rfl
theorem fb_107 : fnB E0 107 Tryz.f107 = true := by kernel_rfl
theorem fi_111 : Tryz.prog.funcs[111]? = some Tryz.f111 := by kernel_rfl
theorem fb_111 : fnB E0 111 Tryz.f111 = true := by kernel_rfl
theorem fi_115 : Tryz.prog.funcs[115]? = some Tryz.f115 := by kernel_rfl
theorem fb_115 : fnB E0 115 Tryz.f115 = true := by kernel_rfl
theorem fi_119 : Tryz.prog.funcs[119]? = some Tryz.f119 := by kernel_rfl
theorem fb_119 : fnB E0 119 Tryz.f119 = true := by kernel_rfl
theorem fi_123 : Tryz.prog.funcs[123]? = some Tryz.f123 := by kernel_rfl
theorem fb_123 : fnB E0 123 Tryz.f123 = true := by kernel_rfl
theorem fi_127 : Tryz.prog.funcs[127]? = some Tryz.f127 := by kernel_rfl
theorem fb_127 : fnB E0 127 Tryz.f127 = true := by kernel_rfl
theorem fi_131 : Tryz.prog.funcs[131]? = some Tryz.f131 := by kernel_rfl
theorem fb_131 : fnB E0 131 Tryz.f131 = true := by kernel_rfl
theorem fi_135 : Tryz.prog.funcs[135]? = some Tryz.f135 := by kernel_rfl
theorem fb_135 : fnB E0 135 Tryz.f135 = true := by kernel_rfl
theorem fi_139 : Tryz.prog.funcs[139]? = some Tryz.f139 := by kernel_rfl
theorem fb_139 : fnB E0 139 Tryz.f139 = true := by kernel_rfl
theorem fi_143 : Tryz.prog.funcs[143]? = some Tryz.f143 := by kernel_rfl
theorem fb_143 : fnB E0 143 Tryz.f143 = true := by kernel_rfl
theorem fi_147 : Tryz.prog.funcs[147]? = some Tryz.f147 := by kernel_rfl
theorem fb_147 : fnB E0 147 Tryz.f147 = true := by kernel_rfl
theorem fi_151 : Tryz.prog.funcs[151]? = some Tryz.f151 := by kernel_rfl
theorem fb_151 : fnB E0 151 Tryz.f151 = true := by kernel_rfl
theorem fi_155 : Tryz.prog.funcs[155]? = some Tryz.f155 := by kernel_rfl
theorem fb_155 : fnB E0 155 Tryz.f155 = true := by kernel_rfl
theorem fi_159 : Tryz.prog.funcs[159]? = some Tryz.f159 := by kernel_rfl
theorem fb_159 : fnB E0 159 Tryz.f159 = true := by kernel_rfl
theorem fi_163 : Tryz.prog.funcs[163]? = some Tryz.f163 := by kernel_rfl
theorem fb_163 : fnB E0 163 Tryz.f163 = true := by kernel_rfl
theorem fi_167 : Tryz.prog.funcs[167]? = some Tryz.f167 := by kernel_rfl
theorem fb_167 : fnB E0 167 Tryz.f167 = true := by kernel_rfl
theorem fi_171 : Tryz.prog.funcs[171]? = some Tryz.f171 := by kernel_rfl
theorem fb_171 : fnB E0 171 Tryz.f171 = true := by kernel_rfl
theorem fi_175 : Tryz.prog.funcs[175]? = some Tryz.f175 := by kernel_rfl
theorem fb_175 : fnB E0 175 Tryz.f175 = true := by kernel_rfl
theorem fi_179 : Tryz.prog.funcs[179]? = some Tryz.f179 := by kernel_rfl
theorem fb_179 : fnB E0 179 Tryz.f179 = true := by kernel_rfl
theorem fi_183 : Tryz.prog.funcs[183]? = some Tryz.f183 := by kernel_rfl
theorem fb_183 : fnB E0 183 Tryz.f183 = true := by kernel_rfl
theorem fi_189 : Tryz.prog.funcs[189]? = some Tryz.f189 := by kernel_rfl
theorem fb_189 : fnB E0 189 Tryz.f189 = true := by kernel_rfl
theorem fi_193 : Tryz.prog.funcs[193]? = some Tryz.f193 := by kernel_rfl
theorem fb_193 : fnB E0 193 Tryz.f193 = true := by kernel_rfl
theorem fi_197 : Tryz.prog.funcs[197]? = some Tryz.f197 := by kernel_rfl
theorem fb_197 : fnB E0 197 Tryz.f197 = true := by kernel_rfl
theorem fi_201 : Tryz.prog.funcs[201]? = some Tryz.f201 := by kernel_rfl
theorem fb_201 : fnB E0 201 Tryz.f201 = true := by kernel_rfl
theorem fi_205 : Tryz.prog.funcs[205]? = some Tryz.f205 := by kernel_rfl
theorem fb_205 : fnB E0 205 Tryz.f205 = true := by kernel_rfl
theorem fi_209 : Tryz.prog.funcs[209]? = some Tryz.f209 := by kernel_rfl
theorem fb_209 : fnB E0 209 Tryz.f209 = true := by kernel_rfl
theorem fi_213 : Tryz.prog.funcs[213]? = some Tryz.f213 := by kernel_rfl
theorem fb_213 : fnB E0 213 Tryz.f213 = true := by kernel_rfl
theorem fi_217 : Tryz.prog.funcs[217]? = some Tryz.f217 := by kernel_rfl
theorem fb_217 : fnB E0 217 Tryz.f217 = true := by kernel_rfl
theorem fi_221 : Tryz.prog.funcs[221]? = some Tryz.f221 := by kernel_rfl
theorem fb_221 : fnB E0 221 Tryz.f221 = true := by kernel_rfl
theorem fi_225 : Tryz.prog.funcs[225]? = some Tryz.f225 := by kernel_rfl
theorem fb_225 : fnB E0 225 Tryz.f225 = true := by kernel_rfl
theorem fi_229 : Tryz.prog.funcs[229]? = some Tryz.f229 := by kernel_rfl
theorem fb_229 : fnB E0 229 Tryz.f229 = true := by kernel_rfl
theorem fi_233 : Tryz.prog.funcs[233]? = some Tryz.f233 := by kernel_rfl
theorem fb_233 : fnB E0 233 Tryz.f233 = true := by kernel_rfl
theorem fi_237 : Tryz.prog.funcs[237]? = some Tryz.f237 := by kernel_rfl
theorem fb_237 : fnB E0 237 Tryz.f237 = true := by kernel_rfl
theorem fi_241 : Tryz.prog.funcs[241]? = some Tryz.f241 := by kernel_rfl
theorem fb_241 : fnB E0 241 Tryz.f241 = true := by kernel_rfl
theorem fi_245 : Tryz.prog.funcs[245]? = some Tryz.f245 := by kernel_rfl
theorem fb_245 : fnB E0 245 Tryz.f245 = true := by kernel_rfl
theorem fi_249 : Tryz.prog.funcs[249]? = some Tryz.f249 := by kernel_rfl
theorem fb_249 : fnB E0 249 Tryz.f249 = true := by kernel_rfl
theorem fi_253 : Tryz.prog.funcs[253]? = some Tryz.f253 := by kernel_rfl
theorem fb_253 : fnB E0 253 Tryz.f253 = true := by kernel_rfl
theorem fi_257 : Tryz.prog.funcs[257]? = some Tryz.f257 := by kernel_rfl
theorem fb_257 : fnB E0 257 Tryz.f257 = true := by kernel_rfl
theorem fi_261 : Tryz.prog.funcs[261]? = some Tryz.f261 := by kernel_rfl
theorem fb_261 : fnB E0 261 Tryz.f261 = true := by kernel_rfl
theorem fi_266 : Tryz.prog.funcs[266]? = some Tryz.f266 := by kernel_rfl
theorem fb_266 : fnB E0 266 Tryz.f266 = true := by kernel_rfl
theorem fi_270 : Tryz.prog.funcs[270]? = some Tryz.f270 := by kernel_rfl
theorem fb_270 : fnB E0 270 Tryz.f270 = true := by kernel_rfl
theorem fi_274 : Tryz.prog.funcs[274]? = some Tryz.f274 := by kernel_rfl
theorem fb_274 : fnB E0 274 Tryz.f274 = true := by kernel_rfl
theorem fi_278 : Tryz.prog.funcs[278]? = some Tryz.f278 := by kernel_rfl
theorem fb_278 : fnB E0 278 Tryz.f278 = true := by kernel_rfl
theorem fi_282 : Tryz.prog.funcs[282]? = some Tryz.f282 := by kernel_rfl
theorem fb_282 : fnB E0 282 Tryz.f282 = true := by kernel_rfl
theorem fi_286 : Tryz.prog.funcs[286]? = some Tryz.f286 := by kernel_rfl
theorem fb_286 : fnB E0 286 Tryz.f286 = true := by kernel_rfl
theorem fi_290 : Tryz.prog.funcs[290]? = some Tryz.f290 := by kernel_rfl
theorem fb_290 : fnB E0 290 Tryz.f290 = true := by kernel_rfl
theorem fi_294 : Tryz.prog.funcs[294]? = some Tryz.f294 := by kernel_rfl
theorem fb_294 : fnB E0 294 Tryz.f294 = true := by kernel_rfl
theorem fi_298 : Tryz.prog.funcs[298]? = some Tryz.f298 := by kernel_rfl
theorem fb_298 : fnB E0 298 Tryz.f298 = true := by kernel_rfl
theorem fi_302 : Tryz.prog.funcs[302]? = some Tryz.f302 := by kernel_rfl
theorem fb_302 : fnB E0 302 Tryz.f302 = true := by kernel_rfl
theorem fi_306 : Tryz.prog.funcs[306]? = some Tryz.f306 := by kernel_rfl
theorem fb_306 : fnB E0 306 Tryz.f306 = true := by kernel_rfl
theorem fi_310 : Tryz.prog.funcs[310]? = some Tryz.f310 := by kernel_rfl
theorem fb_310 : fnB E0 310 Tryz.f310 = true := by kernel_rfl
theorem fi_314 : Tryz.prog.funcs[314]? = some Tryz.f314 := by kernel_rfl
theorem fb_314 : fnB E0 314 Tryz.f314 = true := by kernel_rfl
theorem fi_318 : Tryz.prog.funcs[318]? = some Tryz.f318 := by kernel_rfl
theorem fb_318 : fnB E0 318 Tryz.f318 = true := by kernel_rfl
theorem fi_322 : Tryz.prog.funcs[322]? = some Tryz.f322 := by kernel_rfl
theorem fb_322 : fnB E0 322 Tryz.f322 = true := by kernel_rfl
theorem fi_326 : Tryz.prog.funcs[326]? = some Tryz.f326 := by kernel_rfl
theorem fb_326 : fnB E0 326 Tryz.f326 = true := by kernel_rfl
theorem fi_330 : Tryz.prog.funcs[330]? = some Tryz.f330 := by kernel_rfl
theorem fb_330 : fnB E0 330 Tryz.f330 = true := by kernel_rfl
theorem fi_334 : Tryz.prog.funcs[334]? = some Tryz.f334 := by kernel_rfl
theorem fb_334 : fnB E0 334 Tryz.f334 = true := by kernel_rfl
theorem fi_339 : Tryz.prog.funcs[339]? = some Tryz.f339 := by kernel_rfl
theorem fb_339 : fnB E0 339 Tryz.f339 = true := by kernel_rfl
theorem fi_343 : Tryz.prog.funcs[343]? = some Tryz.f343 := by kernel_rfl
theorem fb_343 : fnB E0 343 Tryz.f343 = true := by kernel_rfl
theorem fi_347 : Tryz.prog.funcs[347]? = some Tryz.f347 := by kernel_rfl
theorem fb_347 : fnB E0 347 Tryz.f347 = true := by kernel_rfl
theorem fi_351 : Tryz.prog.funcs[351]? = some Tryz.f351 := by kernel_rfl
theorem fb_351 : fnB E0 351 Tryz.f351 = true := by kernel_rfl
theorem fi_356 : Tryz.prog.funcs[356]? = some Tryz.f356 := by kernel_rfl
theorem fb_356 : fnB E0 356 Tryz.f356 = true := by kernel_rfl
theorem fi_360 : Tryz.prog.funcs[360]? = some Tryz.f360 := by kernel_rfl
theorem fb_360 : fnB E0 360 Tryz.f360 = true := by kernel_rfl
end Go.Proofs
end

section
namespace Go.Proofs
open Go Go.Ra
set_option maxRecDepth 100000
theorem fi_4 : Tryz.prog.funcs[4]? = some Tryz.f4 := by kernel_rfl
theorem fb_4 : fnB E0 4 Tryz.f4 = true := by kernel_rfl
theorem fi_8 : Tryz.prog.funcs[8]? = some Tryz.f8 := by kernel_rfl
theorem fb_8 : fnB E0 8 Tryz.f8 = true := by kernel_rfl
theorem fi_12 : Tryz.prog.funcs[12]? = some Tryz.f12 := by kernel_rfl
theorem fb_12 : fnB E0 12 Tryz.f12 = true := by kernel_rfl
theorem fi_16 : Tryz.prog.funcs[16]? = some Tryz.f16 := by kernel_rfl
theorem fb_16 : fnB E0 16 Tryz.f16 = true := by kernel_rfl
theorem fi_20 : Tryz.prog.funcs[20]? = some Tryz.f20 := by kernel_rfl
theorem fb_20 : fnB E0 20 Tryz.f20 = true := by kernel_rfl
theorem fi_24 : Tryz.prog.funcs[24]? = some Tryz.f24 := by kernel_rfl
theorem fb_24 : fnB E0 24 Tryz.f24 = true := by kernel_rfl
theorem fi_28 : Tryz.prog.funcs[28]? = some Tryz.f28 := by kernel_rfl
theorem fb_28 : fnB E0 28 Tryz.f28 = true := by kernel_rfl
theorem fi_32 : Tryz.prog.funcs[32]? = some Tryz.f32 := by kernel_rfl
theorem fb_32 : fnB E0 32 Tryz.f32 = true := by kernel_rfl
theorem fi_36 : Tryz.prog.funcs[36]? = some Tryz.f36 := by kernel_rfl
theorem fb_36 : fnB E0 36 Tryz.f36 = true := by kernel_rfl
theorem fi_40 : Tryz.prog.funcs[40]? = some Tryz.f40 := by kernel_rfl
theorem fb_40 : fnB E0 40 Tryz.f40 = true := by kernel_rfl
theorem fi_44 : Tryz.prog.funcs[44]? = some Tryz.f44 := by kernel_rfl
theorem fb_44 : fnB E0 44 Tryz.f44 = true := by kernel_rfl
theorem fi_48 : Tryz.prog.funcs[48]? = some Tryz.f48 := by kernel_rfl
theorem fb_48 : fnB E0 48 Tryz.f48 = true := by kernel_rfl
theorem fi_52 : Tryz.prog.funcs[52]? = some Tryz.f52 := by kernel_rfl
theorem fb_52 : fnB E0 52 Tryz.f52 = true := by kernel_rfl
theorem fi_56 : Tryz.prog.funcs[56]? = some Tryz.f56 := by kernel_rfl
theorem fb_56 : fnB E0 56 Tryz.f56 = true := by kernel_rfl
theorem fi_60 : Tryz.prog.funcs[60]? = some Tryz.f60 := by kernel_rfl
theorem fb_60 : fnB E0 60 Tryz.f60 = true := by kernel_rfl
theorem fi_64 : Tryz.prog.funcs[64]? = some Tryz.f64 := by kernel_rfl
theorem fb_64 : fnB E0 64 Tryz.f64 = true := by kernel_rfl
theorem fi_68 : Tryz.prog.funcs[68]? = some Tryz.f68 := by kernel_rfl
theorem fb_68 : fnB E0 68 Tryz.f68 = true := by kernel_rfl
theorem fi_72 : Tryz.prog.funcs[72]? = some Tryz.f72 := by kernel_rfl
theorem fb_72 : fnB E0 72 Tryz.f72 = true := by kernel_rfl
theorem fi_76 : Tryz.prog.funcs[76]? = some Tryz.f76 := by kernel_rfl
theorem fb_76 : fnB E0 76 Tryz.f76 = true := by kernel_rfl
theorem fi_80 : Tryz.prog.funcs[80]? = some Tryz.f80 := by kernel_rfl
theorem fb_80 : fnB E0 80 Tryz.f80 = true := by kernel_rfl
theorem fi_84 : Tryz.prog.funcs[84]? = some Tryz.f84 := by kernel_rfl
theorem fb_84 : fnB E0 84 Tryz.f84 = true := by kernel_rfl
theorem fi_88 : Tryz.prog.funcs[88]? = some Tryz.f88 := by kernel_rfl
theorem fb_88 : fnB E0 88 Tryz.f88 = true := by kernel_rfl
theorem fi_92 : Tryz.prog.funcs[92]? = some Tryz.f92 := by kernel_rfl
theorem fb_92 : fnB E0 92 Tryz.f92 = true := by kernel_rfl
theorem fi_96 : Tryz.prog.funcs[96]? = some Tryz.f96 := by kernel_rfl
theorem fb_96 : fnB E0 96 Tryz.f96 = true := by kernel_rfl
theorem fi_100 : Tryz.prog.funcs[100]? = some Tryz.f100 := by kernel_rfl
theorem fb_100 : fnB E0 100 Tryz.f100 = true := by kernel_rfl
theorem fi_104 : Tryz.prog.funcs[104]? = some Tryz.f104 := by kernel_rfl
theorem fb_104 : fnB E0 104 Tryz.f104 = true := by kernel_rfl
theorem fi_108 : Tryz.prog.funcs[108]? = some Tryz.f108 := by kernel_rfl
theorem fb_108 : fnB E0 108 Tryz.f108 = true := by kernel_rfl
theorem fi_112 : Tryz.prog.funcs[112]? = some Tryz.f112 := by kernel_rfl
theorem fb_112 : fnB E0 112 Tryz.f112 = true := by kernel_rfl
theorem fi_116 : Tryz.prog.funcs[116]? = some Tryz.f116 := by kernel_rfl
theorem fb_116 : fnB E0 116 Tryz.f116 = true := by kernel_rfl
theorem fi_120 : Tryz.prog.funcs[120]? = some Tryz.f120 := by kernel_rfl
theorem fb_120 : fnB E0 120 Tryz.f120 = true := by kernel_rfl
theorem fi_124 : Tryz.prog.funcs[124]? = some Tryz.f124 := by kernel_rfl
theorem fb_124 : fnB E0 124 Tryz.f124 = true := by kernel_rfl
theorem fi_128 : Tryz.prog.funcs[128]? = some Tryz.f128 := by kernel_rfl
theorem fb_128 : fnB E0 128 Tryz.f128 = true := by kernel_rfl
theorem fi_132 : Tryz.prog.funcs[132]? = some Tryz.f132 := by kernel_rfl
theorem fb_132 : fnB E0 132 Tryz.f132 = true := by kernel_rfl
theorem fi_136 : Tryz.prog.funcs[136]? = some Tryz.f136 := by kernel_rfl
theorem fb_136 : fnB E0 136 Tryz.f136 = true := by kernel_rfl
theorem fi_140 : Tryz.prog.funcs[140]? = some Tryz.f140 := by kernel_rfl
theorem fb_140 : fnB E0 140 Tryz.f140 = true := by kernel_rfl
theorem fi_144 : Tryz.prog.funcs[144]? = some Tryz.f144 := by kernel_rfl
theorem fb_144 : fnB E0 144 Tryz.f144 = true := by kernel_rfl
theorem fi_148 : Tryz.prog.funcs[148]? = some Tryz.f148 := by kernel_rfl
theorem fb_148 : fnB E0 148 Tryz.f148 = true := by kernel_rfl
theorem fi_152 : Tryz.prog.funcs[152]? = some Tryz.f152 := by kernel_rfl
theorem fb_152 : fnB E0 152 Tryz.f152 = true := by kernel_rfl
theorem fi_156 : Tryz.prog.funcs[156]? = some Tryz.f156 := by kernel_rfl
theorem fb_156 : fnB E0 156 Tryz.f156 = true := by kernel_rfl
theorem fi_160 : Tryz.prog.funcs[160]? = some Tryz.f160 := by kernel_rfl
theorem fb_160 : fnB E0 160 Tryz.f160 = true := by kernel_rfl
theorem fi_164 : Tryz.prog.funcs[164]? = some Tryz.f164 := by kernel_rfl
theorem fb_164 : fnB E0 164 Tryz.f164 = true := by kernel_rfl
theorem fi_168 : Tryz.prog.funcs[168]? = some Tryz.f168 := by kernel_rfl
theorem fb_168 : fnB E0 168 Tryz.f168 = true := by kernel_rfl
theorem fi_172 : Tryz.prog.funcs[172]? = some Tryz.f172 := by kernel_rfl
theorem fb_172 : fnB E0 172 Tryz.f172 = true := by kernel_rfl
theorem fi_176 : Tryz.prog.funcs[176]? = some Tryz.f176 := by kernel_rfl
theorem fb_176 : fnB E0 176 Tryz.f176 = true := by kernel_rfl
theorem fi_180 : Tryz.prog.funcs[180]? = some Tryz.f180 := by kernel_rfl
theorem fb_180 : fnB E0 180 Tryz.f180 = true := by kernel_rfl
theorem fi_186 : Tryz.prog.funcs[186]? = some Tryz.f186 := by kernel_rfl
theorem fb_186 : fnB E0 186 Tryz.f186 = true := by kernel_rfl
theorem fi_190 : Tryz.prog.funcs[190]? = some Tryz.f190 := by kernel_rfl
theorem fb_190 : fnB E0 190 Tryz.f190 = true := by kernel_rfl
theorem fi_194 : Tryz.prog.funcs[194]? = some Tryz.f194 := by kernel_rfl
theorem fb_194 : fnB E0 194 Tryz.f194 = true := by kernel_rfl
theorem fi_198 : Tryz.prog.funcs[198]? = some Tryz.f198 := by kernel_rfl
theorem fb_198 : fnB E0 198 Tryz.f198 = true := by kernel_rfl
theorem fi_202 : Tryz.prog.funcs[202]? = some Tryz.f202 := by kernel_rfl
theorem fb_202 : fnB E0 202 Tryz.f202 = true := by kernel_rfl
theorem fi_206 : Tryz.prog.funcs[206]? = some Tryz.f206 := by kernel_rfl
theorem fb_206 : fnB E0 206 Tryz.f206 = true := by kernel_rfl
theorem fi_210 : Tryz.prog.funcs[210]? = some Tryz.f210 := by kernel_rfl
theorem fb_210 : fnB E0 210 Tryz.f210 = true := by kernel_rfl
theorem fi_214 : Tryz.prog.funcs[214]? = some Tryz.f214 := by kernel_rfl
theorem fb_214 : fnB E0 214 Tryz.f214 = true := by kernel_rfl
theorem fi_218 : Tryz.prog.funcs[218]? = some Tryz.f218 := by kernel_rfl
theorem fb_218 : fnB E0 218 Tryz.f218 = true := by kernel_rfl
theorem fi_222 : Tryz.prog.funcs[222]? = some Tryz.f222 := by kernel_rfl
theorem fb_222 : fnB E0 222 Tryz.f222 = true := by kernel_rfl
theorem fi_226 : Tryz.prog.funcs[226]? = some Tryz.f226 := by kernel_rfl
theorem fb_226 : fnB E0 226 Tryz.f226 = true := by kernel_rfl
theorem fi_230 : Tryz.prog.funcs[230]? = some Tryz.f230 := by kernel_rfl
theorem fb_230 : fnB E0 230 Tryz.f230 = true := by kernel_rfl
theorem fi_234 : Tryz.prog.funcs[234]? = some Tryz.f234 := by kernel_rfl
theorem fb_234 : fnB E0 234 Tryz.f234 = true := by kernel_rfl
theorem fi_238 : Tryz.prog.funcs[238]? = some Tryz.f238 := by kernel_rfl
theorem fb_238 : fnB E0 238 Tryz.f238 = true := by kernel_rfl
theorem fi_242 : Tryz.prog.funcs[242]? = some Tryz.f242 := by kernel_rfl
theorem fb_242 : fnB E0 242 Tryz.f242 = true := by kernel_rfl
theorem fi_246 : Tryz.prog.funcs[246]? = some Tryz.f246 := by kernel_rfl
theorem fb_246 : fnB E0 246 Tryz.f246 = true := by kernel_rfl
theorem fi_250 : Tryz.prog.funcs[250]? = some Tryz.f250 := by kernel_rfl
theorem fb_250 : fnB E0 250 Tryz.f250 = true := by kernel_rfl
theorem fi_254 : Tryz.prog.funcs[254]? = some Tryz.f254 := by kernel_rfl
theorem fb_254 : fnB E0 254 Tryz.f254 = true := by kernel_rfl
theorem fi_258 : Tryz.prog.funcs[258]? = some Tryz.f258 := by kernel_rfl
theorem fb_258 : fnB E0 258 Tryz.f258 = true := by kernel_rfl
theorem fi_263 : Tryz.prog.funcs[263]? = some Tryz.f263 := by kernel_rfl
theorem fb_263 : fnB E0 263 Tryz.f263 = true := by kernel_rfl
theorem fi_267 : Tryz.prog.funcs[267]? = some Tryz.f267 := by kernel_rfl
theorem fb_267 : fnB E0 267 Tryz.f267 = true := by kernel_rfl
theorem fi_271 : Tryz.prog.funcs[271]? = some Tryz.f271 := by kernel_rfl
theorem fb_271 : fnB E0 271 Tryz.f271 = true := by kernel_rfl
theorem fi_275 : Tryz.prog.funcs[275]? = some Tryz.f275 := by kernel_rfl
theorem fb_275 : fnB E0 275 Tryz.f275 = true := by kernel_rfl
theorem fi_279 : Tryz.prog.funcs[279]? = some Tryz.f279 := by kernel_rfl
theorem fb_279 : fnB E0 279 Tryz.f279 = true := by kernel_rfl
theorem fi_283 : Tryz.prog.funcs[283]? = some Tryz.f283 := by kernel_rfl
theorem fb_283 : fnB E0 283 Tryz.f283 = true := by kernel_rfl
theorem fi_287 : Tryz.prog.funcs[287]? = some Tryz.f287 := by kernel_rfl
theorem fb_287 : fnB E0 287 Tryz.f287 = true := by kernel_rfl
theorem fi_291 : Tryz.prog.funcs[291]? = some Tryz.f291 := by kernel_rfl
theorem fb_291 : fnB E0 291 Tryz.f291 = true := by kernel_rfl
theorem fi_295 : Tryz.prog.funcs[295]? = some Tryz.f295 := by kernel_rfl
theorem fb_295 : fnB E0 295 Tryz.f295 = true := by kernel_rfl
theorem fi_299 : Tryz.prog.funcs[299]? = some Tryz.f299 := by kernel_rfl
theorem fb_299 : fnB E0 299 Tryz.f299 = true := by kernel_rfl
theorem fi_303 : Tryz.prog.funcs[303]? = some Tryz.f303 := by kernel_rfl
theorem fb_303 : fnB E0 303 Tryz.f303 = true := by kernel_rfl
theorem fi_307 : Tryz.prog.funcs[307]? = some Tryz.f307 := by kernel_rfl
theorem fb_307 : fnB E0 307 Tryz.f307 = true := by kernel_rfl
theorem fi_311 : Tryz.prog.funcs[311]? = some Tryz.f311 := by kernel_rfl
theorem fb_311 : fnB E0 311 Tryz.f311 = true := by kernel_rfl
theorem fi_315 : Tryz.prog.funcs[315]? = some Tryz.f315 := by kernel_rfl
theorem fb_315 : fnB E0 315 Tryz.f315 = true := by kernel_rfl
theorem fi_319 : Tryz.prog.funcs[319]? = some Tryz.f319 := by kernel_rfl
theorem fb_319 : fnB E0 319 Tryz.f319 = true := by kernel_rfl
theorem fi_323 : Tryz.prog.funcs[323]? = some Tryz.f323 := by kernel_rfl
theorem fb_323 : fnB E0 323 Tryz.f323 = true := by kernel_rfl
theorem fi_327 : Tryz.prog.funcs[327]? = some Tryz.f327 := by kernel_rfl
theorem fb_327 : fnB E0 327 Tryz.f327 = true := by kernel_rfl
theorem fi_331 : Tryz.prog.funcs[331]? = some Tryz.f331 := by kernel_rfl
theorem fb_331 : fnB E0 331 Tryz.f331 = true := by kernel_rfl
theorem fi_335 : Tryz.prog.funcs[335]? = some Tryz.f335 := by kernel_rfl
theorem fb_335 : fnB E0 335 Tryz.f335 = true := by kernel_rfl
theorem fi_340 : Tryz.prog.funcs[340]? = some Tryz.f340 := by kernel_rfl
theorem fb_340 : fnB E0 340 Tryz.f340 = true := by kernel_rfl
theorem fi_344 : Tryz.prog.funcs[344]? = some Tryz.f344 := by kernel_rfl
theorem fb_344 : fnB E0 344 Tryz.f344 = true := by kernel_rfl
theorem fi_348 : Tryz.prog.funcs[348]? = some Tryz.f348 := by kernel_rfl
theorem fb_348 : fnB E0 348 Tryz.f348 = true := by kernel_rfl
theorem fi_352 : Tryz.prog.funcs[352]? = some Tryz.f352 := by kernel_rfl
theorem fb_352 : fnB E0 352 Tryz.f352 = true := by kernel_rfl
theorem fi_357 : Tryz.prog.funcs[357]? = some Tryz.f357 := by kernel_rfl
theorem fb_357 : fnB E0 357 Tryz.f357 = true := by kernel_rfl
theorem fi_361 : Tryz.prog.funcs[361]? = some Tryz.f361 := by kernel_rfl
theorem fb_361 : fnB E0 361 Tryz.f361 = true := by kernel_rfl
end Go.Proofs
end

section
namespace Go.Proofs
open Go Go.Ra
set_option maxRecDepth 100000
theorem fi_5 : Tryz.prog.funcs[5]? = some Tryz.f5 := by kernel_rfl
theorem fb_5 : fnB E0 5 Tryz.f5 = true := by kernel_rfl
theorem fi_9 : Tryz.prog.funcs[9]? = some Tryz.f9 := by kernel_rfl
theorem fb_9 : fnB E0 9 Tryz.f9 = true := by kernel_rfl
theorem fi_13 : Tryz.prog.funcs[13]? = some Tryz.f13 := by kernel_rfl
theorem fb_13 : fnB E0 13 Tryz.f13 = true := by kernel_rfl
theorem fi_17 : Tryz.prog.funcs[17]? = some Tryz.f17 := by kernel_rfl
theorem fb_17 : fnB E0 17 Tryz.f17 = true := by kernel_rfl
theorem fi_21 : Tryz.prog.funcs[21]? = some Tryz.f21 := by kernel_rfl
theorem fb_21 : fnB E0 21 Tryz.f21 = true := by kernel_rfl
theorem fi_25 : Tryz.prog.funcs[25]? = some Tryz.f25 := by kernel_rfl
theorem fb_25 : fnB E0 25 Tryz.f25 = true := by kernel_rfl
theorem fi_29 : Tryz.prog.funcs[29]? = some Tryz.f29 := by kernel_rfl
theorem fb_29 : fnB E0 29 Tryz.f29 = true := by kernel_rfl
theorem fi_33 : Tryz.prog.funcs[33]? = some Tryz.f33 := by kernel_rfl
theorem fb_33 : fnB E0 33 Tryz.f33 = true := by kernel_rfl
theorem fi_37 : Tryz.prog.funcs[37]? = some Tryz.f37 := by kernel_rfl
theorem fb_37 : fnB E0 37 Tryz.f37 = true := by kernel_rfl
theorem fi_41 : Tryz.prog.funcs[41]? = some Tryz.f41 := by kernel_rfl
theorem fb_41 : fnB E0 41 Tryz.f41 = true := by kernel_rfl
theorem fi_45 : Tryz.prog.funcs[45]? = some Tryz.f45 := by kernel_rfl
theorem fb_45 : fnB E0 45 Tryz.f45 = true := by kernel_rfl
theorem fi_49 : Tryz.prog.funcs[49]? = some Tryz.f49 := by kernel_rfl
theorem fb_49 : fnB E0 49 Tryz.f49 = true := by kernel_rfl
theorem fi_53 : Tryz.prog.funcs[53]? = some Tryz.f53 := by kernel_rfl
theorem fb_53 : fnB E0 53 Tryz.f53 = true := by kernel_rfl
theorem fi_57 : Tryz.prog.funcs[57]? = some Tryz.f57 := by kernel_rfl
theorem fb_57 : fnB E0 57 Tryz.f57 = true := by kernel_rfl
theorem fi_61 : Tryz.prog.funcs[61]? = some Tryz.f61 := by kernel_rfl
theorem fb_61 : fnB E0 61 Tryz.f61 = true := by kernel_rfl
theorem fi_65 : Tryz.prog.funcs[65]? = some Tryz.f65 := by kernel_rfl
theorem fb_65 : fnB E0 65 Tryz.f65 = true := by kernel_rfl
theorem fi_69 : Tryz.prog.funcs[69]? = some Tryz.f69 := by kernel_rfl
theorem fb_69 : fnB E0 69 Tryz.f69 = true := by kernel_rfl
theorem fi_73 : Tryz.prog.funcs[73]? = some Tryz.f73 := by kernel_rfl
theorem fb_73 : fnB E0 73 Tryz.f73 = true := by kernel_rfl
theorem fi_77 : Tryz.prog.funcs[77]? = some Tryz.f77 := by kernel_rfl
theorem fb_77 : fnB E0 77 Tryz.f77 = true := by kernel_rfl
theorem fi_81 : Tryz.prog.funcs[81]? = some Tryz.f81 := by kernel_rfl
theorem fb_81 : fnB E0 81 Tryz.f81 = true := by kernel_rfl
theorem fi_85 : Tryz.prog.funcs[85]? = some Tryz.f85 := by kernel_rfl
theorem fb_85 : fnB E0 85 Tryz.f85 = true := by kernel_rfl
theorem fi_89 : Tryz.prog.funcs[89]? = some Tryz.f89 := by kernel_rfl
theorem fb_89 : fnB E0 89 Tryz.f89 = true := by kernel_rfl
theorem fi_93 : Tryz.prog.funcs[93]? = some Tryz.f93 := by kernel_rfl
theorem fb_93 : fnB E0 93 Tryz.f93 = true := by kernel_rfl
theorem fi_97 : Tryz.prog.funcs[97]? = some Tryz.f97 := by kernel_rfl
theorem fb_97 : fnB E0 97 Tryz.f97 = true := by kernel_rfl
theorem fi_101 : Tryz.prog.funcs[101]? = some Tryz.f101 := by kernel_rfl
theorem fb_101 : fnB E0 101 Tryz.f101 = true := by kernel_rfl
theorem fi_105 : Tryz.prog.funcs[105]? = some Tryz.f105 := by kernel_rfl
theorem fb_105 : fnB E0 105 Tryz.f105 = true := by kernel_rfl
theorem fi_109 : Tryz.prog.funcs[109]? = some Tryz.f109 := by kernel_rfl
theorem fb_109 : fnB E0 109 Tryz.f109 = true := by kernel_rfl
theorem fi_113 : Tryz.prog.funcs[113]? = some Tryz.f113 := by kernel_rfl
theorem fb_113 : fnB E0 113 Tryz.f113 = true := by kernel_rfl
theorem fi_117 : Tryz.prog.funcs[117]? = some Tryz.f117 := by kernel_rfl
theorem fb_117 : fnB E0 117 Tryz.f117 = true := by kernel_rfl
theorem fi_121 : Tryz.prog.funcs[121]? = some Tryz.f121 := by kernel_rfl
theorem fb_121 : fnB E0 121 Tryz.f121 = true := by kernel_rfl
theorem fi_125 : Tryz.prog.funcs[125]? = some Tryz.f125 := by kernel_rfl
theorem fb_125 : fnB E0 125 Tryz.f125 = true := by kernel_rfl
theorem fi_129 : Tryz.prog.funcs[129]? = some Tryz.f129 := by kernel_rfl
theorem fb_129 : fnB E0 129 Tryz.f129 = true := by kernel_rfl
theorem fi_133 : Tryz.prog.funcs[133]? = some Tryz.f133 := by kernel_rfl
theorem fb_133 : fnB E0 133 Tryz.f133 = true := by kernel_rfl
theorem fi_137 : Tryz.prog.funcs[137]? = some Tryz.f137 := by kernel_rfl
theorem fb_137 : fnB E0 137 Tryz.f137 = true := by kernel_rfl
theorem fi_141 : Tryz.prog.funcs[141]? = some Tryz.f141 := by kernel_rfl
theorem fb_141 : fnB E0 141 Tryz.f141 = true := by kernel_rfl
theorem fi_145 : Tryz.prog.funcs[145]? = some Tryz.f145 := by kernel_rfl
theorem fb_145 : fnB E0 145 Tryz.f145 = true := by kernel_rfl
theorem fi_149 : Tryz.prog.funcs[149]? = some Tryz.f149 := by kernel_rfl
theorem fb_149 : fnB E0 149 Tryz.f149 = true := by kernel_rfl
theorem fi_153 : Tryz.prog.funcs[153]? = some Tryz.f153 := by kernel_rfl
theorem fb_153 : fnB E0 153 Tryz.f153 = true := by kernel_rfl
theorem fi_157 : Tryz.prog.funcs[157]? = some Tryz.f157 := by kernel_rfl
theorem fb_157 : fnB E0 157 Tryz.f157 = true := by kernel_rfl
theorem fi_161 : Tryz.prog.funcs[161]? = some Tryz.f161 := by kernel_rfl
theorem fb_161 : fnB E0 161 Tryz.f161 = true := by kernel_rfl
theorem fi_165 : Tryz.prog.funcs[165]? = some Tryz.f165 := by kernel_rfl
theorem fb_165 : fnB E0 165 Tryz.f165 = true := by kernel_rfl
theorem fi_169 : Tryz.prog.funcs[169]? = some Tryz.f169 := by kernel_rfl
theorem fb_169 : fnB E0 169 Tryz.f169 = true := by kernel_rfl
theorem fi_173 : Tryz.prog.funcs[173]? = some Tryz.f173 := by kernel_rfl
theorem fb_173 : fnB E0 173 Tryz.f173 = true := by kernel_rfl
theorem fi_177 : Tryz.prog.funcs[177]? = some Tryz.f177 := by kernel_rfl
theorem fb_177 : fnB E0 177 Tryz.f177 = true := by kernel_rfl
theorem fi_181 : Tryz.prog.funcs[181]? = some Tryz.f181 := by kernel_rfl
theorem fb_181 : fnB E0 181 Tryz.f181 = true := by kernel_rfl
theorem fi_187 : Tryz.prog.funcs[187]? = some Tryz.f187 := by kernel_rfl
theorem fb_187 : fnB E0 187 Tryz.f187 = true := by kernel_rfl
theorem fi_191 : Tryz.prog.funcs[191]? = some Tryz.f191 := by kernel_rfl
theorem fb_191 : fnB E0 191 Tryz.f191 = true := by kernel_rfl
theorem fi_195 : Tryz.prog.funcs[195]? = some Tryz.f195 := by kernel_rfl
theorem fb_195 : fnB E0 195 Tryz.f195 = true := by kernel_rfl
theorem fi_199 : Tryz.prog.funcs[199]? = some Tryz.f199 := by kernel_rfl
theorem fb_199 : fnB E0 199 Tryz.f199 = true := by kernel_rfl
theorem fi_203 : Tryz.prog.funcs[203]? = some Tryz.f203 := by kernel_rfl
theorem fb_203 : fnB E0 203 Tryz.f203 = true := by kernel_rfl
theorem fi_207 : Tryz.prog.funcs[207]? = some Tryz.f207 := by kernel_rfl
theorem fb_207 : fnB E0 207 Tryz.f207 = true := by kernel_rfl
theorem fi_211 : Tryz.prog.funcs[211]? = some Tryz.f211 := by kernel_rfl
theorem fb_211 : fnB E0 211 Tryz.f211 = true := by kernel_rfl
theorem fi_215 : Tryz.prog.funcs[215]? = some Tryz.f215 := by kernel_rfl
theorem fb_215 : fnB E0 215 Tryz.f215 = true := by kernel_rfl
theorem fi_219 : Tryz.prog.funcs[219]? = some Tryz.f219 := by kernel_rfl
theorem fb_219 : fnB E0 219 Tryz.f219 = true := by kernel_rfl
theorem fi_223 : Tryz.prog.funcs[223]? = some Tryz.f223 := by kernel_rfl
theorem fb_223 : fnB E0 223 Tryz.f223 = true := by kernel_rfl
theorem fi_227 : Tryz.prog.funcs[227]? = some Tryz.f227 := by kernel_rfl
theorem fb_227 : fnB E0 227 Tryz.f227 = true := by kernel_rfl
theorem fi_231 : Tryz.prog.funcs[231]? = some Tryz.f231 := by kernel_rfl
theorem fb_231 : fnB E0 231 Tryz.f231 = true := by kernel_rfl
theorem fi_235 : Tryz.prog.funcs[235]? = some Tryz.f235 := by kernel_rfl
theorem fb_235 : fnB E0 235 Tryz.f235 = true := by kernel_rfl
theorem fi_239 : Tryz.prog.funcs[239]? = some Tryz.f239 := by kernel_rfl
theorem fb_239 : fnB E0 239 Tryz.f239 = true := by kernel_rfl
theorem fi_243 : Tryz.prog.funcs[243]? = some Tryz.f243 := by kernel_rfl
theorem fb_243 : fnB E0 243 Tryz.f243 = true := by kernel_rfl
theorem fi_247 : Tryz.prog.funcs[247]? = some Tryz.f247 := by kernel_rfl
theorem fb_247 : fnB E0 247 Tryz.f247 = true := by kernel_rfl
theorem fi_251 : Tryz.prog.funcs[251]? = some Tryz.f251 := by kernel_rfl
theorem fb_251 : fnB E0 251 Tryz.f251 = true := by kernel_rfl
theorem fi_255 : Tryz.prog.funcs[255]? = some Tryz.f255 := by kernel_rfl
theorem fb_255 : fnB E0 255 Tryz.f255 = true := by kernel_rfl
theorem fi_259 : Tryz.prog.funcs[259]? = some Tryz.f259 := by kernel_rfl
theorem fb_259 : fnB E0 259 Tryz.f259 = true := by kernel_rfl
theorem fi_264 : Tryz.prog.funcs[264]? = some Tryz.f264 := by kernel_rfl
theorem fb_264 : fnB E0 264 Tryz.f264 = true := by kernel_rfl
theorem fi_268 : Tryz.prog.funcs[268]? = some Tryz.f268 := by kernel_rfl
theorem fb_268 : fnB E0 268 Tryz.f268 = true := by kernel_rfl
theorem fi_272 : Tryz.prog.funcs[272]? = some Tryz.f272 := by kernel_rfl
theorem fb_272 : fnB E0 272 Tryz.f272 = true := by kernel_rfl
theorem fi_276 : Tryz.prog.funcs[276]? = some Tryz.f276 := by kernel_rfl
theorem fb_276 : fnB E0 276 Tryz.f276 = true := by kernel_rfl
theorem fi_280 : Tryz.prog.funcs[280]? = some Tryz.f280 := by kernel_rfl
theorem fb_280 : fnB E0 280 Tryz.f280 = true := by kernel_rfl
theorem fi_284 : Tryz.prog.funcs[284]? = some Tryz.f284 := by kernel_rfl
theorem fb_284 : fnB E0 284 Tryz.f284 = true := by kernel_rfl
theorem fi_288 : Tryz.prog.funcs[288]? = some Tryz.f288 := by kernel_rfl
theorem fb_288 : fnB E0 288 Tryz.f288 = true := by kernel_rfl
theorem fi_292 : Tryz.prog.funcs[292]? = some Tryz.f292 := by kernel_rfl
theorem fb_292 : fnB E0 292 Tryz.f292 = true := by kernel_rfl
theorem fi_296 : Tryz.prog.funcs[296]? = some Tryz.f296 := by kernel_rfl
theorem fb_296 : fnB E0 296 Tryz.f296 = true := by kernel_rfl
theorem fi_300 : Tryz.prog.funcs[300]? = some Tryz.f300 := by kernel_rfl
theorem fb_300 : fnB E0 300 Tryz.f300 = true := by kernel_rfl
theorem fi_304 : Tryz.prog.funcs[304]? = some Tryz.f304 := by kernel_rfl
theorem fb_304 : fnB E0 304 Tryz.f304 = true := by kernel_rfl
theorem fi_308 : Tryz.prog.funcs[308]? = some Tryz.f308 := by kernel_rfl
theorem fb_308 : fnB E0 308 Tryz.f308 = true := by kernel_rfl
theorem fi_312 : Tryz.prog.funcs[312]? = some Tryz.f312 := by kernel_rfl
theorem fb_312 : fnB E0 312 Tryz.f312 = true := by kernel_rfl
theorem fi_316 : Tryz.prog.funcs[316]? = some Tryz.f316 := by kernel_rfl
theorem fb_316 : fnB E0 316 Tryz.f316 = true := by kernel_rfl
theorem fi_320 : Tryz.prog.funcs[320]? = some Tryz.f320 := by kernel_rfl
theorem fb_320 : fnB E0 320 Tryz.f320 = true := by kernel_rfl
theorem fi_324 : Tryz.prog.funcs[324]? = some Tryz.f324 := by kernel_rfl
theorem fb_324 : fnB E0 324 Tryz.f324 = true := by kernel_rfl
theorem fi_328 : Tryz.prog.funcs[328]? = some Tryz.f328 := by kernel_rfl
theorem fb_328 : fnB E0 328 Tryz.f328 = true := by kernel_rfl
theorem fi_332 : Tryz.prog.funcs[332]? = some Tryz.f332 := by kernel_rfl
theorem fb_332 : fnB E0 332 Tryz.f332 = true := by kernel_rfl
theorem fi_336 : Tryz.prog.funcs[336]? = some Tryz.f336 := by kernel_rfl
theorem fb_336 : fnB E0 336 Tryz.f336 = true := by kernel_rfl
theorem fi_341 : Tryz.prog.funcs[341]? = some Tryz.f341 := by kernel_rfl
theorem fb_341 : fnB E0 341 Tryz.f341 = true := by kernel_rfl
theorem fi_345 : Tryz.prog.funcs[345]? = some Tryz.f345 := by kernel_rfl
theorem fb_345 : fnB E0 345 Tryz.f345 = true := by kernel_rfl
theorem fi_349 : Tryz.prog.funcs[349]? = some Tryz.f349 := by kernel_rfl
theorem fb_349 : fnB E0 349 Tryz.f349 = true := by kernel_rfl
theorem fi_353 : Tryz.prog.funcs[353]? = some Tryz.f353 := by kernel_rfl
theorem fb_353 : fnB E0 353 Tryz.f353 = true := by kernel_rfl
theorem fi_358 : Tryz.prog.funcs[358]? = some Tryz.f358 := by kernel_rfl
theorem fb_358 : fnB E0 358 Tryz.f358 = true := by kernel_rfl
end Go.Proofs
end

section
namespace Go.Proofs
open Go Go.Ra
set_option maxRecDepth 100000
set_option maxHeartbeats 0
theorem tiOk : trAll (tiB Tryz.prog) E0.ti id = true := by kernel_rfl
theorem ftOk : TrAll (fun f fn => Tryz.prog.funcs[f]? = some fn ∧ fnB E0 f fn = true) E0.ft id := ⟨True.intro, ⟨True.intro, ⟨⟨fi_3, fb_3⟩, ⟨⟨fi_7, fb_7⟩, ⟨⟨fi_15, fb_15⟩, ⟨⟨fi_31, fb_31⟩, ⟨⟨fi_63, fb_63⟩, ⟨⟨fi_127, fb_127⟩, ⟨⟨fi_255, fb_255⟩, True.intro, True.intro⟩, True.intro⟩, ⟨⟨fi_191, fb_191⟩, ⟨⟨fi_319, fb_319⟩, True.intro, True.intro⟩, True.intro⟩⟩, ⟨⟨fi_95, fb_95⟩, ⟨⟨fi_159, fb_159⟩, ⟨⟨fi_287, fb_287⟩, True.intro, True.intro⟩, True.intro⟩, ⟨⟨fi_223, fb_223⟩, ⟨⟨fi_351, fb_351⟩, True.intro, True.intro⟩, True.intro⟩⟩⟩, ⟨⟨fi_47, fb_47⟩, ⟨⟨fi_79, fb_79⟩, ⟨⟨fi_143, fb_143⟩, ⟨⟨fi_271, fb_271⟩, True.intro, True.intro⟩, True.intro⟩, ⟨⟨fi_207, fb_207⟩, ⟨⟨fi_335, fb_335⟩, True.intro, True.intro⟩, True.intro⟩⟩, ⟨⟨fi_111, fb_111⟩, ⟨⟨fi_175, fb_175⟩, ⟨⟨fi_303, fb_303⟩, True.intro, True.intro⟩, True.intro⟩, ⟨⟨fi_239, fb_239⟩, True.intro, True.intro⟩⟩⟩⟩, ⟨⟨fi_23, fb_23⟩, ⟨⟨fi_39, fb_39⟩, ⟨⟨fi_71, fb_71⟩, ⟨⟨fi_135, fb_135⟩, ⟨⟨fi_263, fb_263⟩, True.intro, True.intro⟩, True.intro⟩, ⟨⟨fi_199, fb_199⟩, ⟨⟨fi_327, fb_327⟩, True.intro, True.intro⟩, True.intro⟩⟩, ⟨⟨fi_103, fb_103⟩, ⟨⟨fi_167, fb_167⟩, ⟨⟨fi_295, fb_295⟩, True.intro, True.intro⟩, True.intro⟩, ⟨⟨fi_231, fb_231⟩, ⟨⟨fi_359, fb_359⟩, True.intro, True.intro⟩, True.intro⟩⟩⟩, ⟨⟨fi_55, fb_55⟩, ⟨⟨fi_87, fb_87⟩, ⟨⟨fi_151, fb_151⟩, ⟨⟨fi_279, fb_279⟩, True.intro, True.intro⟩, True.intro⟩, ⟨⟨fi_215, fb_215⟩, ⟨⟨fi_343, fb_343⟩, True.intro, True.intro⟩, True.intro⟩⟩, ⟨⟨fi_119, fb_119⟩, ⟨⟨fi_183, fb_183⟩, ⟨⟨fi_311, fb_311⟩, True.intro, True.intro⟩, True.intro⟩, ⟨⟨fi_247, fb_247⟩, True.intro, True.intro⟩⟩⟩⟩⟩, ⟨⟨fi_11, fb_11⟩, ⟨⟨fi_19, fb_19⟩, ⟨⟨fi_35, fb_35⟩, ⟨⟨fi_67, fb_67⟩, ⟨⟨fi_131, fb_131⟩, ⟨⟨fi_259, fb_259⟩, True.intro, True.intro⟩, True.intro⟩, ⟨⟨fi_195, fb_195⟩, ⟨⟨fi_323, fb_323⟩, True.intro, True.intro⟩, True.intro⟩⟩, ⟨⟨fi_99, fb_99⟩, ⟨⟨fi_163, fb_163⟩, ⟨⟨fi_291, fb_291⟩, True.intro, True.intro⟩, True.intro⟩, ⟨⟨fi_227, fb_227⟩, True.intro, True.intro⟩⟩⟩, ⟨⟨fi_51, fb_51⟩, ⟨⟨fi_83, fb_83⟩, ⟨⟨fi_147, fb_147⟩, ⟨⟨fi_275, fb_275⟩, True.intro, True.intro⟩, True.intro⟩, ⟨⟨fi_211, fb_211⟩, ⟨⟨fi_339, fb_339⟩, True.intro, True.intro⟩, True.intro⟩⟩, ⟨⟨fi_115, fb_115⟩, ⟨⟨fi_179, fb_179⟩, ⟨⟨fi_307, fb_307⟩, True.intro, True.intro⟩, True.intro⟩, ⟨⟨fi_243, fb_243⟩, True.intro, True.intro⟩⟩⟩⟩, ⟨⟨fi_27, fb_27⟩, ⟨⟨fi_43, fb_43⟩, ⟨⟨fi_75, fb_75⟩, ⟨⟨fi_139, fb_139⟩, ⟨⟨fi_267, fb_267⟩, True.intro, True.intro⟩, True.intro⟩, ⟨⟨fi_203, fb_203⟩, ⟨⟨fi_331, fb_331⟩, True.intro, True.intro⟩, True.intro⟩⟩, ⟨⟨fi_107, fb_107⟩, ⟨⟨fi_171, fb_171⟩, ⟨⟨fi_299, fb_299⟩, True.intro, True.intro⟩, True.intro⟩, ⟨⟨fi_235, fb_235⟩, True.intro, True.intro⟩⟩⟩, ⟨⟨fi_59, fb_59⟩, ⟨⟨fi_91, fb_91⟩, ⟨⟨fi_155, fb_155⟩, ⟨⟨fi_283, fb_283⟩, True.intro, True.intro⟩, True.intro⟩, ⟨⟨fi_219, fb_219⟩, ⟨⟨fi_347, fb_347⟩, True.intro, True.intro⟩, True.intro⟩⟩, ⟨⟨fi_123, fb_123⟩, ⟨⟨fi_187, fb_187⟩, ⟨⟨fi_315, fb_315⟩, True.intro, True.intro⟩, True.intro⟩, ⟨⟨fi_251, fb_251⟩, True.intro, True.intro⟩⟩⟩⟩⟩⟩, ⟨⟨fi_5, fb_5⟩, ⟨⟨fi_9, fb_9⟩, ⟨⟨fi_17, fb_17⟩, ⟨⟨fi_33, fb_33⟩, ⟨⟨fi_65, fb_65⟩, ⟨⟨fi_129, fb_129⟩, ⟨⟨fi_257, fb_257⟩, True.intro, True.intro⟩, True.intro⟩, ⟨⟨fi_193, fb_193⟩, ⟨⟨fi_321, fb_321⟩, True.intro, True.intro⟩, True.intro⟩⟩, ⟨⟨fi_97, fb_97⟩, ⟨⟨fi_161, fb_161⟩, ⟨⟨fi_289, fb_289⟩, True.intro, True.intro⟩, True.intro⟩, ⟨⟨fi_225, fb_225⟩, ⟨⟨fi_353, fb_353⟩, True.intro, True.intro⟩, True.intro⟩⟩⟩, ⟨⟨fi_49, fb_49⟩, ⟨⟨fi_81, fb_81⟩, ⟨⟨fi_145, fb_145⟩, ⟨⟨fi_273, fb_273⟩, True.intro, True.intro⟩, True.intro⟩, ⟨⟨fi_209, fb_209⟩, True.intro, True.intro⟩⟩, ⟨⟨fi_113, fb_113⟩, ⟨⟨fi_177, fb_177⟩, ⟨⟨fi_305, fb_305⟩, True.intro, True.intro⟩, True.intro⟩, ⟨⟨fi_241, fb_241⟩, True.intro, True.intro⟩⟩⟩⟩, ⟨⟨fi_25, fb_25⟩, ⟨⟨fi_41, fb_41⟩, ⟨⟨fi_73, fb_73⟩, ⟨⟨fi_137, fb_137⟩, ⟨⟨fi_265, fb_265⟩, True.intro, True.intro⟩, True.intro⟩, ⟨⟨fi_201, fb_201⟩, ⟨⟨fi_329, fb_329⟩, True.intro, True.intro⟩, True.intro⟩⟩, ⟨⟨fi_105, fb_105⟩, ⟨⟨fi_169, fb_169⟩, ⟨⟨fi_297, fb_297⟩, True.intro, True.intro⟩, True.intro⟩, ⟨⟨fi_233, fb_233⟩, ⟨⟨fi_361, fb_361⟩, True.intro, True.intro⟩, True.intro⟩⟩⟩, ⟨⟨fi_57, fb_57⟩, ⟨⟨fi_89, fb_89⟩, ⟨⟨fi_153, fb_153⟩, ⟨⟨fi_281, fb_281⟩, True.intro, True.intro⟩, True.intro⟩, ⟨⟨fi_217, fb_217⟩, ⟨⟨fi_345, fb_345⟩, True.intro, True.intro⟩, True.intro⟩⟩, ⟨⟨fi_121, fb_121⟩, ⟨True.intro, ⟨⟨fi_313, fb_313⟩, True.intro, True.intro⟩, True.intro⟩, ⟨⟨fi_249, fb_249⟩, True.intro, True.intro⟩⟩⟩⟩⟩, ⟨⟨fi_13, fb_13⟩, ⟨⟨fi_21, fb_21⟩, ⟨⟨fi_37, fb_37⟩, ⟨⟨fi_69, fb_69⟩, ⟨⟨fi_133, fb_133⟩, ⟨⟨fi_261, fb_261⟩, True.intro, True.intro⟩, True.intro⟩, ⟨⟨fi_197, fb_197⟩, ⟨⟨fi_325, fb_325⟩, True.intro, True.intro⟩, True.intro⟩⟩, ⟨⟨fi_101, fb_101⟩, ⟨⟨fi_165, fb_165⟩, ⟨⟨fi_293, fb_293⟩, True.intro, True.intro⟩, True.intro⟩, ⟨⟨fi_229, fb_229⟩, ⟨⟨fi_357, fb_357⟩, True.intro, True.intro⟩, True.intro⟩⟩⟩, ⟨⟨fi_53, fb_53⟩, ⟨⟨fi_85, fb_85⟩, ⟨⟨fi_149, fb_149⟩, ⟨⟨fi_277, fb_277⟩, True.intro, True.intro⟩, True.intro⟩, ⟨⟨fi_213, fb_213⟩, ⟨⟨fi_341, fb_341⟩, True.intro, True.intro⟩, True.intro⟩⟩, ⟨⟨fi_117, fb_117⟩, ⟨⟨fi_181, fb_181⟩, ⟨⟨fi_309, fb_309⟩, True.intro, True.intro⟩, True.intro⟩, ⟨⟨fi_245, fb_245⟩, True.intro, True.intro⟩⟩⟩⟩, ⟨⟨fi_29, fb_29⟩, ⟨⟨fi_45, fb_45⟩, ⟨⟨fi_77, fb_77⟩, ⟨⟨fi_141, fb_141⟩, ⟨⟨fi_269, fb_269⟩, True.intro, True.intro⟩, True.intro⟩, ⟨⟨fi_205, fb_205⟩, ⟨⟨fi_333, fb_333⟩, True.intro, True.intro⟩, True.intro⟩⟩, ⟨⟨fi_109, fb_109⟩, ⟨⟨fi_173, fb_173⟩, ⟨⟨fi_301, fb_301⟩, True.intro, True.intro⟩, True.intro⟩, ⟨⟨fi_237, fb_237⟩, True.intro, True.intro⟩⟩⟩, ⟨⟨fi_61, fb_61⟩, ⟨⟨fi_93, fb_93⟩, ⟨⟨fi_157, fb_157⟩, ⟨⟨fi_285, fb_285⟩, True.intro, True.intro⟩, True.intro⟩, ⟨⟨fi_221, fb_221⟩, ⟨⟨fi_349, fb_349⟩, True.intro, True.intro⟩, True.intro⟩⟩, ⟨⟨fi_125, fb_125⟩, ⟨⟨fi_189, fb_189⟩, ⟨⟨fi_317, fb_317⟩, True.intro, True.intro⟩, True.intro⟩, ⟨⟨fi_253, fb_253⟩, True.intro, True.intro⟩⟩⟩⟩⟩⟩⟩, ⟨⟨fi_2, fb_2⟩, ⟨⟨fi_4, fb_4⟩, ⟨⟨fi_8, fb_8⟩, ⟨⟨fi_16, fb_16⟩, ⟨⟨fi_32, fb_32⟩, ⟨⟨fi_64, fb_64⟩, ⟨⟨fi_128, fb_128⟩, ⟨⟨fi_256, fb_256⟩, True.intro, True.intro⟩, True.intro⟩, ⟨⟨fi_192, fb_192⟩, ⟨⟨fi_320, fb_320⟩, True.intro, True.intro⟩, True.intro⟩⟩, ⟨⟨fi_96, fb_96⟩, ⟨⟨fi_160, fb_160⟩, ⟨⟨fi_288, fb_288⟩, True.intro, True.intro⟩, True.intro⟩, ⟨⟨fi_224, fb_224⟩, ⟨⟨fi_352, fb_352⟩, True.intro, True.intro⟩, True.intro⟩⟩⟩, ⟨⟨fi_48, fb_48⟩, ⟨⟨fi_80, fb_80⟩, ⟨⟨fi_144, fb_144⟩, ⟨⟨fi_272, fb_272⟩, True.intro, True.intro⟩, True.intro⟩, ⟨⟨fi_208, fb_208⟩, ⟨⟨fi_336, fb_336⟩, True.intro, True.intro⟩, True.intro⟩⟩, ⟨⟨fi_112, fb_112⟩, ⟨⟨fi_176, fb_176⟩, ⟨⟨fi_304, fb_304⟩, True.intro, True.intro⟩, True.intro⟩, ⟨⟨fi_240, fb_240⟩, True.intro, True.intro⟩⟩⟩⟩, ⟨⟨fi_24, fb_24⟩, ⟨⟨fi_40, fb_40⟩, ⟨⟨fi_72, fb_72⟩, ⟨⟨fi_136, fb_136⟩, ⟨⟨fi_264, fb_264⟩, True.intro, True.intro⟩, True.intro⟩, ⟨⟨fi_200, fb_200⟩, ⟨⟨fi_328, fb_328⟩, True.intro, True.intro⟩, True.intro⟩⟩, ⟨⟨fi_104, fb_104⟩, ⟨⟨fi_168, fb_168⟩, ⟨⟨fi_296, fb_296⟩, True.intro, True.intro⟩, True.intro⟩, ⟨⟨fi_232, fb_232⟩, ⟨⟨fi_360, fb_360⟩, True.intro, True.intro⟩, True.intro⟩⟩⟩, ⟨⟨fi_56, fb_56⟩, ⟨⟨fi_88, fb_88⟩, ⟨⟨fi_152, fb_152⟩, ⟨⟨fi_280, fb_280⟩, True.intro, True.intro⟩, True.intro⟩, ⟨⟨fi_216, fb_216⟩, ⟨⟨fi_344, fb_344⟩, True.intro, True.intro⟩, True.intro⟩⟩, ⟨⟨fi_120, fb_120⟩, ⟨True.intro, ⟨⟨fi_312, fb_312⟩, True.intro, True.intro⟩, True.intro⟩, ⟨⟨fi_248, fb_248⟩, True.intro, True.intro⟩⟩⟩⟩⟩, ⟨⟨fi_12, fb_12⟩, ⟨⟨fi_20, fb_20⟩, ⟨⟨fi_36, fb_36⟩, ⟨⟨fi_68, fb_68⟩, ⟨⟨fi_132, fb_132⟩, ⟨⟨fi_260, fb_260⟩, True.intro, True.intro⟩, True.intro⟩, ⟨⟨fi_196, fb_196⟩, ⟨⟨fi_324, fb_324⟩, True.intro, True.intro⟩, True.intro⟩⟩, ⟨⟨fi_100, fb_100⟩, ⟨⟨fi_164, fb_164⟩, ⟨⟨fi_292, fb_292⟩, True.intro, True.intro⟩, True.intro⟩, ⟨⟨fi_228, fb_228⟩, ⟨⟨fi_356, fb_356⟩, True.intro, True.intro⟩, True.intro⟩⟩⟩, ⟨⟨fi_52, fb_52⟩, ⟨⟨fi_84, fb_84⟩, ⟨⟨fi_148, fb_148⟩, ⟨⟨fi_276, fb_276⟩, True.intro, True.intro⟩, True.intro⟩, ⟨⟨fi_212, fb_212⟩, ⟨⟨fi_340, fb_340⟩, True.intro, True.intro⟩, True.intro⟩⟩, ⟨⟨fi_116, fb_116⟩, ⟨⟨fi_180, fb_180⟩, ⟨⟨fi_308, fb_308⟩, True.intro, True.intro⟩, True.intro⟩, ⟨⟨fi_244, fb_244⟩, True.intro, True.intro⟩⟩⟩⟩, ⟨⟨fi_28, fb_28⟩, ⟨⟨fi_44, fb_44⟩, ⟨⟨fi_76, fb_76⟩, ⟨⟨fi_140, fb_140⟩, ⟨⟨fi_268, fb_268⟩, True.intro, True.intro⟩, True.intro⟩, ⟨⟨fi_204, fb_204⟩, ⟨⟨fi_332, fb_332⟩, True.intro, True.intro⟩, True.intro⟩⟩, ⟨⟨fi_108, fb_108⟩, ⟨⟨fi_172, fb_172⟩, ⟨⟨fi_300, fb_300⟩, True.intro, True.intro⟩, True.intro⟩, ⟨⟨fi_236, fb_236⟩, True.intro, True.intro⟩⟩⟩, ⟨⟨fi_60, fb_60⟩, ⟨⟨fi_92, fb_92⟩, ⟨⟨fi_156, fb_156⟩, ⟨⟨fi_284, fb_284⟩, True.intro, True.intro⟩, True.intro⟩, ⟨⟨fi_220, fb_220⟩, ⟨⟨fi_348, fb_348⟩, True.intro, True.intro⟩, True.intro⟩⟩, ⟨⟨fi_124, fb_124⟩, ⟨⟨fi_188, fb_188⟩, ⟨⟨fi_316, fb_316⟩, True.intro, True.intro⟩, True.intro⟩, ⟨⟨fi_252, fb_252⟩, True.intro, True.intro⟩⟩⟩⟩⟩⟩, ⟨⟨fi_6, fb_6⟩, ⟨⟨fi_10, fb_10⟩, ⟨⟨fi_18, fb_18⟩, ⟨⟨fi_34, fb_34⟩, ⟨⟨fi_66, fb_66⟩, ⟨⟨fi_130, fb_130⟩, ⟨⟨fi_258, fb_258⟩, True.intro, True.intro⟩, True.intro⟩, ⟨⟨fi_194, fb_194⟩, ⟨⟨fi_322, fb_322⟩, True.intro, True.intro⟩, True.intro⟩⟩, ⟨⟨fi_98, fb_98⟩, ⟨⟨fi_162, fb_162⟩, ⟨⟨fi_290, fb_290⟩, True.intro, True.intro⟩, True.intro⟩, ⟨⟨fi_226, fb_226⟩, ⟨⟨fi_354, fb_354⟩, True.intro, True.intro⟩, True.intro⟩⟩⟩, ⟨⟨fi_50, fb_50⟩, ⟨⟨fi_82, fb_82⟩, ⟨⟨fi_146, fb_146⟩, ⟨⟨fi_274, fb_274⟩, True.intro, True.intro⟩, True.intro⟩, ⟨⟨fi_210, fb_210⟩, ⟨⟨fi_338, fb_338⟩, True.intro, True.intro⟩, True.intro⟩⟩, ⟨⟨fi_114, fb_114⟩, ⟨⟨fi_178, fb_178⟩, ⟨⟨fi_306, fb_306⟩, True.intro, True.intro⟩, True.intro⟩, ⟨⟨fi_242, fb_242⟩, True.intro, True.intro⟩⟩⟩⟩, ⟨⟨fi_26, fb_26⟩, ⟨⟨fi_42, fb_42⟩, ⟨⟨fi_74, fb_74⟩, ⟨⟨fi_138, fb_138⟩, ⟨⟨fi_266, fb_266⟩, True.intro, True.intro⟩, True.intro⟩, ⟨⟨fi_202, fb_202⟩, ⟨⟨fi_330, fb_330⟩, True.intro, True.intro⟩, True.intro⟩⟩, ⟨⟨fi_106, fb_106⟩, ⟨⟨fi_170, fb_170⟩, ⟨⟨fi_298, fb_298⟩, True.intro, True.intro⟩, True.intro⟩, ⟨⟨fi_234, fb_234⟩, True.intro, True.intro⟩⟩⟩, ⟨⟨fi_58, fb_58⟩, ⟨⟨fi_90, fb_90⟩, ⟨⟨fi_154, fb_154⟩, ⟨⟨fi_282, fb_282⟩, True.intro, True.intro⟩, True.intro⟩, ⟨⟨fi_218, fb_218⟩, ⟨⟨fi_346, fb_346⟩, True.intro, True.intro⟩, True.intro⟩⟩, ⟨⟨fi_122, fb_122⟩, ⟨⟨fi_186, fb_186⟩, ⟨⟨fi_314, fb_314⟩, True.intro, True.intro⟩, True.intro⟩, ⟨⟨fi_250, fb_250⟩, True.intro, True.intro⟩⟩⟩⟩⟩, ⟨⟨fi_14, fb_14⟩, ⟨⟨fi_22, fb_22⟩, ⟨⟨fi_38, fb_38⟩, ⟨⟨fi_70, fb_70⟩, ⟨⟨fi_134, fb_134⟩, True.intro, True.intro⟩, ⟨⟨fi_198, fb_198⟩, ⟨⟨fi_326, fb_326⟩, True.intro, True.intro⟩, True.intro⟩⟩, ⟨⟨fi_102, fb_102⟩, ⟨⟨fi_166, fb_166⟩, ⟨⟨fi_294, fb_294⟩, True.intro, True.intro⟩, True.intro⟩, ⟨⟨fi_230, fb_230⟩, ⟨⟨fi_358, fb_358⟩, True.intro, True.intro⟩, True.intro⟩⟩⟩, ⟨⟨fi_54, fb_54⟩, ⟨⟨fi_86, fb_86⟩, ⟨⟨fi_150, fb_150⟩, ⟨⟨fi_278, fb_278⟩, True.intro, True.intro⟩, True.intro⟩, ⟨⟨fi_214, fb_214⟩, ⟨⟨fi_342, fb_342⟩, True.intro, True.intro⟩, True.intro⟩⟩, ⟨⟨fi_118, fb_118⟩, ⟨⟨fi_182, fb_182⟩, ⟨⟨fi_310, fb_310⟩, True.intro, True.intro⟩, True.intro⟩, ⟨⟨fi_246, fb_246⟩, True.intro, True.intro⟩⟩⟩⟩, ⟨⟨fi_30, fb_30⟩, ⟨⟨fi_46, fb_46⟩, ⟨⟨fi_78, fb_78⟩, ⟨⟨fi_142, fb_142⟩, ⟨⟨fi_270, fb_270⟩, True.intro, True.intro⟩, True.intro⟩, ⟨⟨fi_206, fb_206⟩, ⟨⟨fi_334, fb_334⟩, True.intro, True.intro⟩, True.intro⟩⟩, ⟨⟨fi_110, fb_110⟩, ⟨⟨fi_174, fb_174⟩, ⟨⟨fi_302, fb_302⟩, True.intro, True.intro⟩, True.intro⟩, ⟨⟨fi_238, fb_238⟩, True.intro, True.intro⟩⟩⟩, ⟨⟨fi_62, fb_62⟩, ⟨⟨fi_94, fb_94⟩, ⟨⟨fi_158, fb_158⟩, ⟨⟨fi_286, fb_286⟩, True.intro, True.intro⟩, True.intro⟩, ⟨⟨fi_222, fb_222⟩, ⟨⟨fi_350, fb_350⟩, True.intro, True.intro⟩, True.intro⟩⟩, ⟨⟨fi_126, fb_126⟩, ⟨⟨fi_190, fb_190⟩, ⟨⟨fi_318, fb_318⟩, True.intro, True.intro⟩, True.intro⟩, ⟨⟨fi_254, fb_254⟩, True.intro, True.intro⟩⟩⟩⟩⟩⟩⟩⟩
theorem mixed : Tryz.prog.follows .mixedOrders = true := by kernel_rfl
theorem envOk : EnvOk Tryz.prog (POE E0) E0 := envOk_of tiOk ftOk (fun _ => rfl)
theorem gAll : TrAll (fun n (_ : AObj) => isG0 n = true) gT id := ⟨rfl, ⟨rfl, True.intro, True.intro⟩, True.intro⟩
theorem first0 : First E0 H0 where
  lt g hg := by
    have hg : isG0 g = true := hg
    simp only [isG0, Bool.or_eq_true] at hg
    show g < 6
    rcases hg with hg | hg
    all_goals (have := Nat.eq_of_beq_eq_true hg; omega)
  all X hX := by
    have hX : isG0 X = false := hX
    show gT.get X = none
    cases h : gT.get X with
    | none => rfl
    | some o => have := gAll.get X o h; simp only [id] at this; rw [hX] at this; cases this
  fams f := Tr.get_nil f
  pin b i v h := by
    have h : pin0 b i = some v := h
    unfold pin0 at h
    cases hb : isG0 b with
    | false => rw [hb] at h; cases h
    | true =>
      rw [hb] at h
      simp only [cond_true] at h
      refine ⟨hb, ?_⟩
      split at h
      · rename_i k hk; exact ⟨k, hk, h⟩
      · cases h
theorem pin_at {g : Nat} {b : Blk} (hg : isG0 g = true) (hb : gT.get g = some (.blk b)) (hc : b.cells.all constOk = true) : ∀ i (h : i < b.cells.length), E0.pin g i = some b.cells[i] ∧ constOk b.cells[i] = true := fun i h => by
  refine ⟨?_, List.all_eq_true.1 hc _ (List.getElem_mem h)⟩
  show pin0 g i = _
  unfold pin0
  rw [hg]
  simp only [cond_true, hb]
  exact List.getElem?_eq_getElem h
theorem pins0 : Pins E0 H0 := fun g hg => by
  have hg : isG0 g = true := hg
  simp only [isG0, Bool.or_eq_true] at hg
  rcases hg with hg | hg
  · obtain rfl := Nat.eq_of_beq_eq_true hg
    exact ⟨gblk_0, rfl, rfl, rfl, rfl, by kernel_rfl, fun h => (by cases h), pin_at (b := gblk_0) rfl rfl (by kernel_rfl)⟩
  · obtain rfl := Nat.eq_of_beq_eq_true hg
    exact ⟨gblk_1, rfl, rfl, rfl, rfl, by kernel_rfl, fun h => (by cases h), pin_at (b := gblk_1) rfl rfl (by kernel_rfl)⟩
end Go.Proofs
end

section
namespace Go.Proofs
open Go Go.Ra Go.RowKit Go.Maps
set_option maxRecDepth 100000
def viL : List (ByteArray × Int) := [(⟨#[104]⟩, 1), (⟨#[76, 101, 102, 116]⟩, 1), (⟨#[108]⟩, 2), (⟨#[82, 105, 103, 104, 116]⟩, 2), (⟨#[107]⟩, 3), (⟨#[85, 112]⟩, 3), (⟨#[106]⟩, 4), (⟨#[68, 111, 119, 110]⟩, 4), (⟨#[48]⟩, 5), (⟨#[36]⟩, 6), (⟨#[103]⟩, 7), (⟨#[71]⟩, 8), (⟨#[119]⟩, 9), (⟨#[98]⟩, 10), (⟨#[101]⟩, 19), (⟨#[118]⟩, 11), (⟨#[83, 112, 97, 99, 101]⟩, 11), (⟨#[86]⟩, 12), (⟨#[67, 45, 118]⟩, 13), (⟨#[121]⟩, 14), (⟨#[69, 110, 116, 101, 114]⟩, 14), (⟨#[113]⟩, 15), (⟨#[69, 115, 99, 97, 112, 101]⟩, 15), (⟨#[110]⟩, 16), (⟨#[78]⟩, 17), (⟨#[111]⟩, 18)]
def emacsL : List (ByteArray × Int) := [(⟨#[67, 45, 98]⟩, 1), (⟨#[76, 101, 102, 116]⟩, 1), (⟨#[67, 45, 102]⟩, 2), (⟨#[82, 105, 103, 104, 116]⟩, 2), (⟨#[67, 45, 112]⟩, 3), (⟨#[85, 112]⟩, 3), (⟨#[67, 45, 110]⟩, 4), (⟨#[68, 111, 119, 110]⟩, 4), (⟨#[67, 45, 97]⟩, 5), (⟨#[67, 45, 101]⟩, 6), (⟨#[77, 45, 60]⟩, 7), (⟨#[77, 45, 62]⟩, 8), (⟨#[77, 45, 102]⟩, 9), (⟨#[77, 45, 98]⟩, 10), (⟨#[67, 45, 83, 112, 97, 99, 101]⟩, 11), (⟨#[82]⟩, 13), (⟨#[77, 45, 119]⟩, 14), (⟨#[113]⟩, 15), (⟨#[67, 45, 103]⟩, 15), (⟨#[110]⟩, 16), (⟨#[78]⟩, 17), (⟨#[67, 45, 120]⟩, 18)]
theorem vi_lit : litOf 214 Tryz.f212 = some viL := by kernel_rfl
theorem vi_fresh : freshB [] viL = true := by kernel_rfl
theorem emacs_lit : litOf 214 Tryz.f213 = some emacsL := by kernel_rfl
theorem emacs_fresh : freshB [] emacsL = true := by kernel_rfl
theorem vi_calls (w : World) : Calls Tryz.prog 212 #[] w fun e w' => e = .returned (.map (some w.heap.size)) ∧ w' = w.alloc (.map (ents viL 0).toArray viL.length) :=
  callsIn_wide.1 (lit_calls Tryz.func212 (kt := 9) (et := 3) (mt := 214) (by kernel_rfl) (by kernel_rfl) vi_lit vi_fresh w)
theorem emacs_calls (w : World) : Calls Tryz.prog 213 #[] w fun e w' => e = .returned (.map (some w.heap.size)) ∧ w' = w.alloc (.map (ents emacsL 0).toArray emacsL.length) :=
  callsIn_wide.1 (lit_calls Tryz.func213 (kt := 9) (et := 3) (mt := 214) (by kernel_rfl) (by kernel_rfl) emacs_lit emacs_fresh w)

theorem all_calls (t : Int) (w : World) : Calls Tryz.prog 171 #[.int .i64 t] w fun e w' =>
    (t = 1 ∧ e = .returned (.map (some w.heap.size)) ∧ w' = w.alloc (.map (ents viL 0).toArray viL.length)) ∨
    (t = 2 ∧ e = .returned (.map (some w.heap.size)) ∧ w' = w.alloc (.map (ents emacsL 0).toArray emacsL.length)) ∨
    (t ≠ 1 ∧ t ≠ 2 ∧ e = .returned (.map none) ∧ w' = w) := by
  go_enter Tryz.func171, Tryz.ntmps171
  go_wp2_with (first
    | (go_at_call 212; refine (vi_calls _).mono ?_; rintro e w' ⟨rfl, rfl⟩)
    | (go_at_call 213; refine (emacs_calls _).mono ?_; rintro e w' ⟨rfl, rfl⟩))
  all_goals go_ret
  · exact .inl ⟨by simp_all, rfl, rfl⟩
  · exact .inr (.inl ⟨by simp_all, rfl, rfl⟩)
  · exact .inr (.inr ⟨by simp_all, by simp_all, rfl, rfl⟩)

noncomputable def deedIn (t : Int) (k : ByteArray) : Int := if t = 1 then deedOf viL k else if t = 2 then deedOf emacsL k else 0
theorem zero3 (w : World) : (zeroValue 3).run Tryz.prog w = .ok (.int .i64 0) w := by kernel_rfl
theorem look_vi (w : World) (k : ByteArray) : (Instr.lookup 214 (.map (some w.heap.size)) (.string k) false).run Tryz.prog (w.alloc (.map (ents viL 0).toArray viL.length)) = .ok (.int .i64 (deedOf viL k)) (w.alloc (.map (ents viL 0).toArray viL.length)) :=
  run_lookup_ents (mt := 214) (kt := 9) (et := 3) (by kernel_rfl) (by kernel_rfl) (zero3 _) (getElem?_push_size _ _) k
theorem look_emacs (w : World) (k : ByteArray) : (Instr.lookup 214 (.map (some w.heap.size)) (.string k) false).run Tryz.prog (w.alloc (.map (ents emacsL 0).toArray emacsL.length)) = .ok (.int .i64 (deedOf emacsL k)) (w.alloc (.map (ents emacsL 0).toArray emacsL.length)) :=
  run_lookup_ents (mt := 214) (kt := 9) (et := 3) (by kernel_rfl) (by kernel_rfl) (zero3 _) (getElem?_push_size _ _) k
theorem look_nil (w : World) (k : ByteArray) : (Instr.lookup 214 (.map none) (.string k) false).run Tryz.prog w = .ok (.int .i64 0) w :=
  run_lookup_nil (mt := 214) (kt := 9) (et := 3) (by kernel_rfl) (by kernel_rfl) (zero3 _) k

theorem deed_calls (t : Int) (k : ByteArray) (w : World) : Calls Tryz.prog 128 #[.int .i64 t, .string k] w fun e w' => e = .returned (.int .i64 (deedIn t k)) ∧ Below w.heap.size w w' := by
  have hv := look_vi w k
  have he := look_emacs w k
  have hn := look_nil w k
  go_enter Tryz.func128, Tryz.ntmps128
  go_wp2_with (go_at_call 171; refine (all_calls _ _).mono ?_; rintro e w' (⟨ht, rfl, rfl⟩ | ⟨ht, rfl, rfl⟩ | ⟨ht1, ht2, rfl, rfl⟩))
  all_goals go_ret
  · exact ⟨by simp [deedIn, ht], (Below.refl _ _).alloc (Nat.le_refl _) _⟩
  · exact ⟨by simp [deedIn, ht], (Below.refl _ _).alloc (Nat.le_refl _) _⟩
  · exact ⟨by simp [deedIn, ht1, ht2], Below.refl _ _⟩

def rInt : Value → Option (DataW Unit × List MemPlace) | .int k n => some (.lit (.int k n), []) | _ => none
noncomputable def viD : DataW Unit := .map (((ents viL 0).map (Go.WideElems.rg Tryz.prog 9 rInt)).foldr DataW.insert [])
end Go.Proofs
end

section
/-! What is told: library functions, Begun's that are proved. -/
namespace Go.Proofs
open Go Go.Ra
noncomputable section
def gTrue : List Value → AH → Option (Value × AH) := fun args H => match args with | [] => some (.bool true, H) | _ => none
def gDeed : List Value → AH → Option (Value × AH) := fun args H => match args with
  | [.int .i64 t, .string k] => some (.int .i64 (deedIn t k), H)
  | _ => none
def gNames : List Value → AH → Option (Value × AH) := fun args H => match args with
  | [.int .i64 (.ofNat 1)] => some (.slice (some ⟨H.next, 0, none⟩) 26 (INEX + 0), { H with next := H.next + 1, objs := H.objs.set H.next (.blk (Blk.mk [] 1 false H.next 0)) })
  | _ => none
def oT (l : List (Nat × (List Value → AH → Option (Value × AH)))) : Orc := fun f => (l.find? (fun p => Nat.beq p.1 f)).map (·.2)
def okT (r : Option (Value × AH)) : Bool := match r with | some (.bool true, _) => true | _ => false
def lib0 : List (Nat × (List Value → AH → Option (Value × AH))) := [(91, gTrimRight), (54, gJoin), (183, gContainsRune), (128, gDeed)]
def begs (bs : List Nat) : Orc := oT (bs.foldr (fun b l => (b, gTrue) :: l) lib0)
def runs (bs : List Nat) (N : Nat) : Bool := okT (acall (EO E0 (begs bs)) (arun (EO E0 (begs bs)) 100000) N [] H0)
end
end Go.Proofs
end

section
/-! Functions of plain values, told by a table. -/
namespace Go.Ra
open Go.RowKit
section
variable {P : Program} {E : Env} {S : Nat → Prop} {w0 w w' : World} {φ ψ : Emb} {H H' : AH}

noncomputable def argEq : Value → Value → Bool
  | .agg xs, .agg ys => match aeql xs.toList ys.toList with | some b => b | none => false
  | a, b => match aeqv a b with | some b => b | none => false
noncomputable def argsEq : List Value → List Value → Bool
  | [], [] => true
  | a :: l, b :: m => argEq a b && argsEq l m
  | _, _ => false
noncomputable def findM : List (List Value × Value) → List Value → Option Value
  | [], _ => none
  | p :: l, a => bif argsEq p.1 a then some p.2 else findM l a
noncomputable def gMemo (tbl : List (List Value × Value)) : List Value → AH → Option (Value × AH) := fun args H =>
  match findM tbl args with | some v => some (v, H) | none => none

theorem aeqv_eq {x y : Value} (h : aeqv x y = some true) : x = y ∧ constOk x = true := by
  unfold aeqv at h
  split at h
  · rename_i j a k b
    cases hj : ikeq j k with
    | false => rw [hj] at h; cases h
    | true =>
      rw [hj, ieq_eq] at h
      have hab : a = b := by simpa using h
      have : j = k := ikeq_true hj
      rw [hab, this]; exact ⟨rfl, rfl⟩
  · rename_i a b
    have : a = b := by simpa using h
    rw [this]; exact ⟨rfl, rfl⟩
  · rename_i a b
    rw [bytesEq_eq] at h
    have h' : a.data.toList = b.data.toList := by simpa using h
    have : a = b := by
      cases a; cases b
      congr 1
      exact Array.ext' h'
    rw [this]; exact ⟨rfl, rfl⟩
  · cases h
theorem aeql_eq' : ∀ {xs ys : List Value}, aeql xs ys = some true → xs = ys ∧ xs.all constOk = true
  | [], [], _ => ⟨rfl, rfl⟩
  | [], _ :: _, h => by simp [aeql] at h
  | _ :: _, [], h => by simp [aeql] at h
  | x :: xs, y :: ys, h => by
    simp only [aeql] at h
    cases hq : aeqv x y with
    | none => rw [hq] at h; cases h
    | some b =>
      rw [hq] at h
      cases b with
      | false => cases h
      | true =>
        obtain ⟨h1, h2⟩ := aeqv_eq hq
        obtain ⟨h3, h4⟩ := aeql_eq' h
        exact ⟨by rw [h1, h3], by simp [h2, h4]⟩

def plainV : Value → Bool
  | .agg xs => xs.toList.all constOk
  | a => constOk a
theorem argEq_eq {x y : Value} (h : argEq x y = true) : x = y ∧ plainV x = true := by
  unfold argEq at h
  split at h
  · rename_i xs ys
    split at h
    · rename_i b hb
      subst h
      obtain ⟨h1, h2⟩ := aeql_eq' hb
      exact ⟨by rw [Array.ext' h1], h2⟩
    · cases h
  · split at h
    · rename_i b hb
      subst h
      obtain ⟨h1, h2⟩ := aeqv_eq hb
      refine ⟨h1, ?_⟩
      unfold plainV
      split
      · cases h2
      · exact h2
    · cases h
theorem constOk_inv {v u : Value} (h : constOk v = true) (hv : VR φ v u) : u = v := by
  unfold constOk at h
  split at h <;> first | (cases h; done) | (cases hv; rfl)
theorem VRl.const_inv : ∀ {l : List Value} {us : List Value}, l.all constOk = true → VRl φ l us → us = l
  | [], us, _, h => h.nil_inv
  | x :: l, us, hc, h => by
    obtain ⟨u, us', rfl, h1, h2⟩ := h.cons_inv
    rw [List.all_cons, Bool.and_eq_true] at hc
    rw [constOk_inv hc.1 h1, VRl.const_inv hc.2 h2]
theorem plainV_inv {v u : Value} (h : plainV v = true) (hv : VR φ v u) : u = v := by
  unfold plainV at h
  split at h
  · obtain ⟨us, rfl, h1⟩ := hv.agg_inv
    rw [Array.ext' (VRl.const_inv h h1)]
  · exact constOk_inv h hv
theorem plainV_VR {v : Value} (h : plainV v = true) : VR φ v v := by
  unfold plainV at h
  split at h
  · rename_i xs
    refine .agg rfl fun i a _ => constOk_VR (List.all_eq_true.1 h _ ?_)
    simp
  · exact constOk_VR h
theorem argsEq_VRl : ∀ {k l us : List Value}, argsEq k l = true → VRl φ l us → k = l ∧ us = l ∧ ∀ ψ : Emb, VRl ψ l l
  | [], [], us, _, h => ⟨rfl, h.nil_inv, fun _ => .nil⟩
  | [], _ :: _, _, h, _ => by simp [argsEq] at h
  | _ :: _, [], _, h, _ => by simp [argsEq] at h
  | a :: k, b :: l, us, h, hv => by
    simp only [argsEq, Bool.and_eq_true] at h
    obtain ⟨u, us', rfl, h1, h2⟩ := hv.cons_inv
    obtain ⟨rfl, hp⟩ := argEq_eq h.1
    obtain ⟨rfl, rfl, h3⟩ := argsEq_VRl h.2 h2
    exact ⟨rfl, by rw [plainV_inv hp h1], fun ψ => (h3 ψ).cons (plainV_VR hp)⟩

noncomputable def resEq (v : Value) (r : Option (Value × AH)) : Bool := match r with | some (u, _) => argEq u v | none => false
theorem findM_mem : ∀ {tbl : List (List Value × Value)} {a : List Value} {v : Value}, findM tbl a = some v → ∃ p ∈ tbl, argsEq p.1 a = true ∧ p.2 = v
  | [], _, _, h => by cases h
  | p :: l, a, v, h => by
    unfold findM at h
    cases hq : argsEq p.1 a with
    | true => rw [hq] at h; cases h; exact ⟨p, List.mem_cons_self, hq, rfl⟩
    | false =>
      rw [hq] at h
      obtain ⟨q, h1, h2⟩ := findM_mem h
      exact ⟨q, List.mem_cons_of_mem _ h1, h2⟩

theorem orc_memo (hm : P.follows .mixedOrders = true) (h : EnvOk P (POE E) E) (h0 : ∀ f, E.orc f = none) {H0 : AH} (hF : First E H0) (hp : Pins E H0) {o : Orc} (ho : OrcsOk P E o) {f n : Nat} {tbl : List (List Value × Value)}
    (he : tbl.all (fun p => resEq p.2 (acall (EO E o) (arun (EO E o) n) f p.1 H0)) = true) : OrcOk P E f (gMemo tbl) := by
  intro args us H v' H' S φ w h1 h2 h3
  unfold gMemo at h1
  split at h1
  · rename_i v hv
    cases h1
    obtain ⟨p, hpm, hpa, rfl⟩ := findM_mem hv
    obtain ⟨hk, hus, hself⟩ := argsEq_VRl hpa h3
    have he := List.all_eq_true.1 he p hpm
    unfold resEq at he
    split at he
    · rename_i u Hf hu
      obtain ⟨rfl, hpl⟩ := argEq_eq he
      refine (acall_with hm h h0 ho hu (rep0 hF (h2.laid hp)) (us := us) (by rw [hus, hk]; exact hself _)).mono fun e w' hq => ?_
      obtain ⟨u', ψ, g1, g2, g3, g4, g5⟩ := hq
      have := plainV_inv hpl g4
      subst this
      exact ⟨_, φ, g1, Ext.refl _ _, Nat.le_refl _, plainV_VR hpl, h2.agree (fun X l e => g5.keep _ (h2.inHeap e)) (fun b hb => g5.keep _ (h2.sdom b hb)) g5.size g5.os g5.out g5.tape⟩
    · cases he
  · cases h1
end
end Go.Ra
end

section
namespace Go.Proofs
open Go Go.Ra
set_option maxRecDepth 100000
noncomputable section
def tMay : List (List Value × Value) := [([.agg ⟨[Value.int IntKind.i32 97, Value.int IntKind.i64 1, Value.int IntKind.i64 0]⟩], .bool true), ([.agg ⟨[Value.int IntKind.i32 98, Value.int IntKind.i64 1, Value.int IntKind.i64 0]⟩], .bool true), ([.agg ⟨[Value.int IntKind.i32 99, Value.int IntKind.i64 1, Value.int IntKind.i64 0]⟩], .bool true), ([.agg ⟨[Value.int IntKind.i32 100, Value.int IntKind.i64 1, Value.int IntKind.i64 0]⟩], .bool true), ([.agg ⟨[Value.int IntKind.i32 101, Value.int IntKind.i64 1, Value.int IntKind.i64 0]⟩], .bool true), ([.agg ⟨[Value.int IntKind.i32 102, Value.int IntKind.i64 1, Value.int IntKind.i64 0]⟩], .bool true), ([.agg ⟨[Value.int IntKind.i32 32, Value.int IntKind.i64 1, Value.int IntKind.i64 0]⟩], .bool true)]
def tWidth : List (List Value × Value) := [([Value.int IntKind.i32 97], Value.int IntKind.i64 1), ([Value.int IntKind.i32 98], Value.int IntKind.i64 1), ([Value.int IntKind.i32 99], Value.int IntKind.i64 1), ([Value.int IntKind.i32 100], Value.int IntKind.i64 1), ([Value.int IntKind.i32 101], Value.int IntKind.i64 1), ([Value.int IntKind.i32 102], Value.int IntKind.i64 1), ([Value.int IntKind.i32 32], Value.int IntKind.i64 1)]
def lib13 : List (Nat × (List Value → AH → Option (Value × AH))) := [(95, gMemo tMay), (138, gMemo tWidth), (40, gTrue), (41, gTrue)]
def mtest (f : Nat) (t : List (List Value × Value)) : Bool := t.all (fun p => resEq p.2 (acall (EO E0 (oT lib0)) (arun (EO E0 (oT lib0)) 10000) f p.1 H0))
theorem tMay_ok : mtest 95 tMay = true := by kernel_rfl
theorem tWidth_ok : mtest 138 tWidth = true := by kernel_rfl
def o13 : Orc := oT (lib13 ++ lib0)
end
end Go.Proofs
end

section
namespace Go.Proofs
open Go Go.Ra Go.RowKit
theorem oT_ok {P : Program} {E : Env} {l : List (Nat × (List Value → AH → Option (Value × AH)))} (h : ∀ p ∈ l, (∃ fn, FtOk P p.1 fn) ∧ OrcOk P E p.1 p.2) : OrcsOk P E (oT l) := by
  intro f g hg
  unfold oT at hg
  cases hf : l.find? (fun p => Nat.beq p.1 f) with
  | none => rw [hf] at hg; cases hg
  | some p =>
    rw [hf] at hg
    cases hg
    have h1 := List.find?_some hf
    have h2 := Nat.eq_of_beq_eq_true h1
    rw [← h2]
    exact h p (List.mem_of_find?_eq_some hf)
theorem okT_some {r : Option (Value × AH)} (h : okT r = true) : ∃ H', r = some (.bool true, H') := by
  unfold okT at h
  split at h
  · exact ⟨_, rfl⟩
  · cases h
theorem ft_of {f : Nat} {fn : Func} (h : Tryz.prog.funcs[f]? = some fn) (h1 : (fn.name == "runtime.NumGoroutine") = false) (h2 : fn.body.isNone = false) : ∃ fn, FtOk Tryz.prog f fn := ⟨fn, h, h1, h2⟩
theorem orc0 : ∀ f, E0.orc f = none := fun _ => rfl

theorem orc_deed : OrcOk Tryz.prog E0 128 gDeed := by
  intro args us H v H' S φ w h1 h2 h3
  unfold gDeed at h1
  split at h1
  · cases h1
    obtain ⟨u, x, rfl, hu, hx⟩ := h3.two
    rw [hu.int_inv, hx.str_inv]
    refine callsIn_wide.2 ((deed_calls _ _ w).mono fun e w' he => ?_)
    obtain ⟨he, hb⟩ := he
    exact callR_below h2 he (.int _ _) hb
  · cases h1

theorem ok0 : ∀ p ∈ lib0, (∃ fn, FtOk Tryz.prog p.1 fn) ∧ OrcOk Tryz.prog E0 p.1 p.2 := by
  intro p hp
  simp only [lib0, List.mem_cons, List.not_mem_nil, or_false] at hp
  rcases hp with rfl | rfl | rfl | rfl
  · exact ⟨ft_of Tryz.func91 (by kernel_rfl) (by kernel_rfl), orc_trimRight fun s c hc w hs => Tryz.strings_TrimRight_one s c hc w hs⟩
  · exact ⟨ft_of Tryz.func54 (by kernel_rfl) (by kernel_rfl), orc_join (fun a c sep w => Tryz.strings_Join_none a c sep w) (fun bk o c xs sep w a1 a2 a3 a4 a5 => Tryz.strings_Join bk o c xs sep w a1 a2 a3 a4 a5)⟩
  · exact ⟨ft_of Tryz.func183 (by kernel_rfl) (by kernel_rfl), orc_containsRune fun s r w h1 h2 => Tryz.strings_ContainsRune_ascii s r w h1 h2⟩
  · exact ⟨ft_of Tryz.func128 (by kernel_rfl) (by kernel_rfl), orc_deed⟩

/-- a Begun, evaluated -/
theorem orc_beg {o : Orc} (ho : OrcsOk Tryz.prog E0 o) {f : Nat} (h : okT (acall (EO E0 o) (arun (EO E0 o) 100000) f [] H0) = true) : OrcOk Tryz.prog E0 f gTrue := by
  have := orc_closed mixed envOk orc0 first0 pins0 ho (f := f) (n := 100000) (v := .bool true) rfl (okT_some h)
  exact this
theorem orc_tbl {f : Nat} {t : List (List Value × Value)} (h : mtest f t = true) : OrcOk Tryz.prog E0 f (gMemo t) :=
  orc_memo mixed envOk orc0 first0 pins0 (oT_ok ok0) h
end Go.Proofs
end

section
namespace Go.Proofs
open Go Go.Ra Go.RowKit Go.Maps Go.Sort Go.Shelf
set_option maxRecDepth 100000
theorem fresh_nodup : ∀ {kvs : List (ByteArray × Int)} {ks : List ByteArray}, freshB ks kvs = true → (kvs.map fun p => Value.string p.1).Nodup ∧ ∀ p ∈ kvs, p.1 ∉ ks
  | [], ks, _ => ⟨List.nodup_nil, fun _ h => by cases h⟩
  | (k, v) :: l, ks, h => by
    simp only [freshB, Bool.and_eq_true] at h
    obtain ⟨h1, h2⟩ := fresh_nodup h.2
    have hk : k ∉ ks := fun hm => by
      have := List.all_eq_true.1 h.1 k hm
      rw [bytesEq_eq] at this
      simp at this
    refine ⟨?_, fun p hp => ?_⟩
    · rw [List.map_cons, List.nodup_cons]
      refine ⟨fun hm => ?_, h1⟩
      obtain ⟨q, hq, he⟩ := List.mem_map.1 hm
      have he : q.1 = k := by simpa using he
      exact h2 q hq (by rw [he]; simp)
    · rcases List.mem_cons.1 hp with rfl | hp
      · exact hk
      · exact fun hm => h2 p hp (List.mem_append_left _ hm)
theorem ents_keys : ∀ (kvs : List (ByteArray × Int)) (c : Nat), (ents kvs c).map (·.key) = kvs.map fun p => Value.string p.1
  | [], _ => rfl
  | (k, v) :: l, c => by simp [ents, ents_keys l (c + 1)]
theorem vi_reads : ((ents viL 0).all fun x => (Go.WideElems.rd Tryz.prog 9 rInt x).isSome) = true := by kernel_rfl
theorem vi_own (w : World) : (w.alloc (.map (ents viL 0).toArray viL.length)).ownsMap Tryz.prog 9 rInt w.heap.size 26 viD := by
  refine ⟨(ents viL 0).toArray, viL.length, getElem?_push_size _ _, ⟨?_, ⟨?_, ?_, ?_⟩, ?_⟩, ?_, rfl⟩
  · exact of_decide_eq_true (by kernel_rfl)
  · intro x hx
    have h : ((ents viL 0).all fun x => decide (x.born < viL.length)) = true := by kernel_rfl
    exact of_decide_eq_true (List.all_eq_true.1 h x hx)
  · have h : (ents viL 0).map (·.born) = List.range 26 := by kernel_rfl
    show ((ents viL 0).map (·.born)).Nodup
    rw [h]; exact List.nodup_range
  · show ((ents viL 0).map (·.key)).Nodup
    rw [ents_keys]
    exact (fresh_nodup vi_fresh).1
  · intro x hx
    exact Option.isSome_iff_exists.1 (List.all_eq_true.1 vi_reads x hx)
  · exact of_decide_eq_true (by kernel_rfl)
theorem vi_len : (strKeys viD).length = 26 := by kernel_rfl
theorem vi_max : Maps.size viD ≤ maxLen := of_decide_eq_true (by kernel_rfl)
theorem vi_bytes : Maps.size viD * 16 ≤ 140737488355328 := of_decide_eq_true (by kernel_rfl)

theorem all_vi (w : World) : Calls Tryz.prog 171 #[.int .i64 1] w fun e w' => e = .returned (.map (some w.heap.size)) ∧ w' = w.alloc (.map (ents viL 0).toArray viL.length) :=
  (all_calls 1 w).mono fun e w' h => by
    rcases h with ⟨-, h1, h2⟩ | ⟨h, -, -⟩ | ⟨h, -, -, -⟩
    · exact ⟨h1, h2⟩
    · exact absurd h (by decide)
    · exact absurd rfl h
set_option maxHeartbeats 1000000 in
theorem names_gen (w : World) {es : Array MapEntry} {n : Nat} {D0 : DataW Unit} (hall : Calls Tryz.prog 171 #[.int .i64 1] w fun e w' => e = .returned (.map (some w.heap.size)) ∧ w' = w.alloc (.map es n)) (hown : (w.alloc (.map es n)).ownsMap Tryz.prog 9 rInt w.heap.size 26 D0) (hl : (strKeys D0).length = 26) (hmax : Maps.size D0 ≤ maxLen) (hbytes : Maps.size D0 * 16 ≤ 140737488355328) : Calls Tryz.prog 129 #[.int .i64 1] w fun e w' => ∃ g cap cur, e = .returned (.slice (some ⟨g, 0, none⟩) 26 cap) ∧ w.heap.size ≤ g ∧ w'.heap[g]? = some (.cells cur 9 (0, 0)) ∧ cap ≤ cur.size ∧ Below w.heap.size w w' := by
  refine (callsIn_wide (n := 6)).1 ?_
  have hfA : Fence.wide.fn 171 := trivial
  have hfK : Fence.wide.fn 173 := trivial
  have hfS : Fence.wide.fn 172 := trivial
  refine callsIn_of_wp Tryz.func129 rfl trivial ?_ rfl
  simp only [Tryz.ntmps129, List.size_toArray, List.length_cons, List.length_nil, Nat.reduceAdd, Nat.reduceSub, Array.replicate_succ, Array.replicate_zero, List.push_toArray, List.append_toArray, List.nil_append, List.cons_append]
  gi_wp2_with (first
    | (gi_at_call 171; refine (callsIn_wide.2 hall).mono ?_; rintro e w' ⟨rfl, rfl⟩)
    | (gi_at_call 173; refine (Tryz.maps_Keys_173 _ _).mono ?_; rintro e w' ⟨rfl, rfl⟩)
    | (gi_at_call 172
       have hk := Tryz.slices_Sorted_keys_172_173 w.heap.size 26 D0 rInt (w.alloc (.map es n)) hown hmax hbytes
       have hsz : (w.alloc (Obj.map es n)).heap.size = w.heap.size + 1 := by simp
       rw [hsz] at hk
       refine hk.mono ?_
       rintro e w' ⟨v, ss, rfl, hS, hrow, hnil, hb⟩))
  go_ret
  have hlen : ss.length = 26 := by rw [hS.length_eq, hl]
  obtain ⟨_, ⟨-, h0⟩ | ⟨g, cap, cur, rfl, h1, h2, h3, h4, h5, -⟩⟩ := hrow
  · omega
  · refine ⟨g, cap, cur, by rw [hlen]; rfl, ?_, h2, by omega, (((Below.refl _ w).alloc (Nat.le_refl _) _).alloc (by simp) _).trans (hb.mono (by simp; omega))⟩
    simp at h1
    omega
theorem names_vi (w : World) : Calls Tryz.prog 129 #[.int .i64 1] w fun e w' => ∃ g cap cur, e = .returned (.slice (some ⟨g, 0, none⟩) 26 cap) ∧ w.heap.size ≤ g ∧ w'.heap[g]? = some (.cells cur 9 (0, 0)) ∧ cap ≤ cur.size ∧ Below w.heap.size w w' :=
  names_gen w (all_vi w) (vi_own w) vi_len vi_max vi_bytes
theorem orc_names : OrcOk Tryz.prog E0 129 gNames := by
  intro args us H v H' S φ w h1 h2 h3
  unfold gNames at h1
  split at h1
  · cases h1
    have hus : us = #[.int .i64 1] := by
      obtain ⟨u, l, e1, e2, e3⟩ := h3.cons_inv
      have := e3.nil_inv
      subst this
      rw [e2.int_inv] at e1
      exact Array.ext' e1
    subst hus
    refine callsIn_wide.2 ((names_vi w).mono fun e w' he => ?_)
    obtain ⟨g, cap, cur, he, hg, hc, hcap, hb⟩ := he
    have hR : Rep (POE E0) E0 S w φ H w' := h2.agree (fun X l e => hb.block _ (h2.inHeap e)) (fun b hS => hb.block b (h2.sdom b hS)) hb.size hb.os hb.output hb.tape
    have hA := hR.adopt (b := Blk.mk [] 1 false H.next 0) (l := ⟨g, 0, cap⟩) rfl rfl hc (fun X m e hm => by have h9 := h2.inHeap e; rw [hm] at h9; exact absurd h9 (by show ¬ g < _; omega)) (fun hS => by have h9 := h2.sdom g hS; omega) (by simpa using hcap) (fun j _ h => by omega) (fun i hi => absurd hi (Nat.not_lt_zero i))
    refine ⟨_, _, he, fun X hX => upd_ne φ _ (by omega), Nat.le_succ _, ?_, hA⟩
    have e1 : upd φ H.next ⟨g, 0, cap⟩ H.next = some ⟨g, 0, cap⟩ := upd_same _ _ _
    have := VR.sopen (φ := upd φ H.next ⟨g, 0, cap⟩) (X := H.next) (i := 0) (n := 26) (c := 0) e1 (Nat.pos_of_ne_zero (by decide))
    simpa using this
  · cases h1
end Go.Proofs
end

section
namespace Go.Proofs
open Go Go.Ra
set_option maxRecDepth 100000
theorem beg1 : runs [] 205 = true := by kernel_rfl
end Go.Proofs
end

