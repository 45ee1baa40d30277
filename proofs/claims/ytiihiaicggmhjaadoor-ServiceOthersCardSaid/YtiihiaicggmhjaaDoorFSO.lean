/- The shallow readings of some functions of the program (printed by a program of ours out of the model's own evaluation) and, for each, the proof that it is one. Conditions: none. -/
import Derived.Test.YtiihiaicggmhjaaDoorFH
set_option maxRecDepth 100000
set_option linter.unusedVariables false
namespace Go.Proofs.YtiihiaicggmhjaaDoor
open Go Go.Sh
def F6 (x0 : Int) (x1 : Int) (x2 : Int) (x3 : Int) (x4 : Int) (x5 : Int) (x6 : Int) (K : KV) (w : World) : Prop :=
  nw (Obj.cells #[(Value.int IntKind.i64 (x0)), (Value.int IntKind.i64 (x1)), (Value.int IntKind.i64 (x2)), (Value.int IntKind.i64 (x3)), (Value.int IntKind.i64 (x4)), (Value.int IntKind.i64 (x5)), (Value.int IntKind.i64 (x6))] 23 (0, 0)) (fun k0 w1 =>
  gocall Tryd.prog (17) [(Value.int IntKind.i64 (6)), (Value.int IntKind.i64 (50)), (Value.int IntKind.i64 (20))] (fun v2 w3 =>
  asPtr (v2) (fun p4 w5 =>
  br (p4.isNone) (fun w6 =>
  K (Value.bool (false)) (w6)) (fun w7 =>
  gocall Tryd.prog (18) [(Value.pointer p4), (Value.agg #[(Value.int IntKind.i64 (1)), (Value.int IntKind.i64 (0)), (Value.int IntKind.i64 (6)), (Value.int IntKind.i64 (9)), (Value.int IntKind.i64 (0)), (Value.int IntKind.i64 (5)), (Value.int IntKind.i64 (0))])] (fun v8 w9 =>
  asSl (v8) (fun p10 k11 k12 w13 =>
  ld (⟨k0, 2, none⟩) (fun v14 w15 =>
  asI (IntKind.i64) (v14) (fun n16 w17 =>
  br (n16 == 6) (fun w18 =>
  ld (⟨k0, 1, none⟩) (fun v19 w20 =>
  asI (IntKind.i64) (v19) (fun n21 w22 =>
  br (n21 == 0) (fun w23 =>
  ld (⟨k0, 3, none⟩) (fun v24 w25 =>
  asI (IntKind.i64) (v24) (fun n26 w27 =>
  br (decide (n26 ≥ 1)) (fun w28 =>
  ld (⟨k0, 3, none⟩) (fun v29 w30 =>
  asI (IntKind.i64) (v29) (fun n31 w32 =>
  br (decide (n31 ≤ 999)) (fun w33 =>
  ld (⟨k0, 0, none⟩) (fun v34 w35 =>
  asI (IntKind.i64) (v34) (fun n36 w37 =>
  br (n36 == 1) (fun w38 =>
  ld (⟨k0, 0, none⟩) (fun v39 w40 =>
  asI (IntKind.i64) (v39) (fun n41 w42 =>
  ld (⟨k0, 1, none⟩) (fun v43 w44 =>
  asI (IntKind.i64) (v43) (fun n45 w46 =>
  ld (⟨k0, 2, none⟩) (fun v47 w48 =>
  asI (IntKind.i64) (v47) (fun n49 w50 =>
  ld (⟨k0, 3, none⟩) (fun v51 w52 =>
  asI (IntKind.i64) (v51) (fun n53 w54 =>
  ld (⟨k0, 4, none⟩) (fun v55 w56 =>
  asI (IntKind.i64) (v55) (fun n57 w58 =>
  ld (⟨k0, 5, none⟩) (fun v59 w60 =>
  asI (IntKind.i64) (v59) (fun n61 w62 =>
  ld (⟨k0, 6, none⟩) (fun v63 w64 =>
  asI (IntKind.i64) (v63) (fun n65 w66 =>
  gocall Tryd.prog (18) [(Value.pointer p4), (Value.agg #[(Value.int IntKind.i64 (n41)), (Value.int IntKind.i64 (n45)), (Value.int IntKind.i64 (n49)), (Value.int IntKind.i64 (n53)), (Value.int IntKind.i64 (n57)), (Value.int IntKind.i64 (n61)), (Value.int IntKind.i64 (n65))])] (fun v67 w68 =>
  asSl (v67) (fun p69 k70 k71 w72 =>
  br ((↑k70 : Int) == 1) (fun w73 =>
  gocall Tryd.prog (21) [] (fun v74 w75 =>
  asBoo (v74) (fun b76 w77 =>
  K (Value.bool (b76)) (w77)) (w75)) (w73)) (fun w78 =>
  K (Value.bool (false)) (w78)) (w72)) (w68)) (w66)) (w64)) (w62)) (w60)) (w58)) (w56)) (w54)) (w52)) (w50)) (w48)) (w46)) (w44)) (w42)) (w40)) (w38)) (fun w79 =>
  ld (⟨k0, 0, none⟩) (fun v80 w81 =>
  asI (IntKind.i64) (v80) (fun n82 w83 =>
  br (n82 == 4) (fun w84 =>
  ld (⟨k0, 0, none⟩) (fun v85 w86 =>
  asI (IntKind.i64) (v85) (fun n87 w88 =>
  ld (⟨k0, 1, none⟩) (fun v89 w90 =>
  asI (IntKind.i64) (v89) (fun n91 w92 =>
  ld (⟨k0, 2, none⟩) (fun v93 w94 =>
  asI (IntKind.i64) (v93) (fun n95 w96 =>
  ld (⟨k0, 3, none⟩) (fun v97 w98 =>
  asI (IntKind.i64) (v97) (fun n99 w100 =>
  ld (⟨k0, 4, none⟩) (fun v101 w102 =>
  asI (IntKind.i64) (v101) (fun n103 w104 =>
  ld (⟨k0, 5, none⟩) (fun v105 w106 =>
  asI (IntKind.i64) (v105) (fun n107 w108 =>
  ld (⟨k0, 6, none⟩) (fun v109 w110 =>
  asI (IntKind.i64) (v109) (fun n111 w112 =>
  gocall Tryd.prog (18) [(Value.pointer p4), (Value.agg #[(Value.int IntKind.i64 (n87)), (Value.int IntKind.i64 (n91)), (Value.int IntKind.i64 (n95)), (Value.int IntKind.i64 (n99)), (Value.int IntKind.i64 (n103)), (Value.int IntKind.i64 (n107)), (Value.int IntKind.i64 (n111))])] (fun v113 w114 =>
  asSl (v113) (fun p115 k116 k117 w118 =>
  br ((↑k116 : Int) == 1) (fun w119 =>
  gocall Tryd.prog (21) [] (fun v120 w121 =>
  asBoo (v120) (fun b122 w123 =>
  K (Value.bool (b122)) (w123)) (w121)) (w119)) (fun w124 =>
  K (Value.bool (false)) (w124)) (w118)) (w114)) (w112)) (w110)) (w108)) (w106)) (w104)) (w102)) (w100)) (w98)) (w96)) (w94)) (w92)) (w90)) (w88)) (w86)) (w84)) (fun w125 =>
  ld (⟨k0, 0, none⟩) (fun v126 w127 =>
  asI (IntKind.i64) (v126) (fun n128 w129 =>
  ld (⟨k0, 1, none⟩) (fun v130 w131 =>
  asI (IntKind.i64) (v130) (fun n132 w133 =>
  ld (⟨k0, 2, none⟩) (fun v134 w135 =>
  asI (IntKind.i64) (v134) (fun n136 w137 =>
  ld (⟨k0, 3, none⟩) (fun v138 w139 =>
  asI (IntKind.i64) (v138) (fun n140 w141 =>
  ld (⟨k0, 4, none⟩) (fun v142 w143 =>
  asI (IntKind.i64) (v142) (fun n144 w145 =>
  ld (⟨k0, 5, none⟩) (fun v146 w147 =>
  asI (IntKind.i64) (v146) (fun n148 w149 =>
  ld (⟨k0, 6, none⟩) (fun v150 w151 =>
  asI (IntKind.i64) (v150) (fun n152 w153 =>
  gocall Tryd.prog (18) [(Value.pointer p4), (Value.agg #[(Value.int IntKind.i64 (n128)), (Value.int IntKind.i64 (n132)), (Value.int IntKind.i64 (n136)), (Value.int IntKind.i64 (n140)), (Value.int IntKind.i64 (n144)), (Value.int IntKind.i64 (n148)), (Value.int IntKind.i64 (n152))])] (fun v154 w155 =>
  asSl (v154) (fun p156 k157 k158 w159 =>
  br ((↑k157 : Int) == 0) (fun w160 =>
  gocall Tryd.prog (19) [(Value.pointer p4)] (fun v161 w162 =>
  asI (IntKind.i64) (v161) (fun n163 w164 =>
  br (n163 == 45) (fun w165 =>
  gocall Tryd.prog (20) [(Value.pointer p4), (Value.int IntKind.i64 (9))] (fun v166 w167 =>
  asI (IntKind.i64) (v166) (fun n168 w169 =>
  br (n168 == 1) (fun w170 =>
  gocall Tryd.prog (21) [] (fun v171 w172 =>
  asBoo (v171) (fun b173 w174 =>
  K (Value.bool (b173)) (w174)) (w172)) (w170)) (fun w175 =>
  K (Value.bool (false)) (w175)) (w169)) (w167)) (w165)) (fun w176 =>
  K (Value.bool (false)) (w176)) (w164)) (w162)) (w160)) (fun w177 =>
  K (Value.bool (false)) (w177)) (w159)) (w155)) (w153)) (w151)) (w149)) (w147)) (w145)) (w143)) (w141)) (w139)) (w137)) (w135)) (w133)) (w131)) (w129)) (w127)) (w125)) (w83)) (w81)) (w79)) (w37)) (w35)) (w33)) (fun w178 =>
  ld (⟨k0, 0, none⟩) (fun v179 w180 =>
  asI (IntKind.i64) (v179) (fun n181 w182 =>
  ld (⟨k0, 1, none⟩) (fun v183 w184 =>
  asI (IntKind.i64) (v183) (fun n185 w186 =>
  ld (⟨k0, 2, none⟩) (fun v187 w188 =>
  asI (IntKind.i64) (v187) (fun n189 w190 =>
  ld (⟨k0, 3, none⟩) (fun v191 w192 =>
  asI (IntKind.i64) (v191) (fun n193 w194 =>
  ld (⟨k0, 4, none⟩) (fun v195 w196 =>
  asI (IntKind.i64) (v195) (fun n197 w198 =>
  ld (⟨k0, 5, none⟩) (fun v199 w200 =>
  asI (IntKind.i64) (v199) (fun n201 w202 =>
  ld (⟨k0, 6, none⟩) (fun v203 w204 =>
  asI (IntKind.i64) (v203) (fun n205 w206 =>
  gocall Tryd.prog (18) [(Value.pointer p4), (Value.agg #[(Value.int IntKind.i64 (n181)), (Value.int IntKind.i64 (n185)), (Value.int IntKind.i64 (n189)), (Value.int IntKind.i64 (n193)), (Value.int IntKind.i64 (n197)), (Value.int IntKind.i64 (n201)), (Value.int IntKind.i64 (n205))])] (fun v207 w208 =>
  asSl (v207) (fun p209 k210 k211 w212 =>
  br ((↑k210 : Int) == 0) (fun w213 =>
  gocall Tryd.prog (19) [(Value.pointer p4)] (fun v214 w215 =>
  asI (IntKind.i64) (v214) (fun n216 w217 =>
  br (n216 == 45) (fun w218 =>
  gocall Tryd.prog (20) [(Value.pointer p4), (Value.int IntKind.i64 (9))] (fun v219 w220 =>
  asI (IntKind.i64) (v219) (fun n221 w222 =>
  br (n221 == 1) (fun w223 =>
  gocall Tryd.prog (21) [] (fun v224 w225 =>
  asBoo (v224) (fun b226 w227 =>
  K (Value.bool (b226)) (w227)) (w225)) (w223)) (fun w228 =>
  K (Value.bool (false)) (w228)) (w222)) (w220)) (w218)) (fun w229 =>
  K (Value.bool (false)) (w229)) (w217)) (w215)) (w213)) (fun w230 =>
  K (Value.bool (false)) (w230)) (w212)) (w208)) (w206)) (w204)) (w202)) (w200)) (w198)) (w196)) (w194)) (w192)) (w190)) (w188)) (w186)) (w184)) (w182)) (w180)) (w178)) (w32)) (w30)) (w28)) (fun w231 =>
  ld (⟨k0, 0, none⟩) (fun v232 w233 =>
  asI (IntKind.i64) (v232) (fun n234 w235 =>
  ld (⟨k0, 1, none⟩) (fun v236 w237 =>
  asI (IntKind.i64) (v236) (fun n238 w239 =>
  ld (⟨k0, 2, none⟩) (fun v240 w241 =>
  asI (IntKind.i64) (v240) (fun n242 w243 =>
  ld (⟨k0, 3, none⟩) (fun v244 w245 =>
  asI (IntKind.i64) (v244) (fun n246 w247 =>
  ld (⟨k0, 4, none⟩) (fun v248 w249 =>
  asI (IntKind.i64) (v248) (fun n250 w251 =>
  ld (⟨k0, 5, none⟩) (fun v252 w253 =>
  asI (IntKind.i64) (v252) (fun n254 w255 =>
  ld (⟨k0, 6, none⟩) (fun v256 w257 =>
  asI (IntKind.i64) (v256) (fun n258 w259 =>
  gocall Tryd.prog (18) [(Value.pointer p4), (Value.agg #[(Value.int IntKind.i64 (n234)), (Value.int IntKind.i64 (n238)), (Value.int IntKind.i64 (n242)), (Value.int IntKind.i64 (n246)), (Value.int IntKind.i64 (n250)), (Value.int IntKind.i64 (n254)), (Value.int IntKind.i64 (n258))])] (fun v260 w261 =>
  asSl (v260) (fun p262 k263 k264 w265 =>
  br ((↑k263 : Int) == 0) (fun w266 =>
  gocall Tryd.prog (19) [(Value.pointer p4)] (fun v267 w268 =>
  asI (IntKind.i64) (v267) (fun n269 w270 =>
  br (n269 == 45) (fun w271 =>
  gocall Tryd.prog (20) [(Value.pointer p4), (Value.int IntKind.i64 (9))] (fun v272 w273 =>
  asI (IntKind.i64) (v272) (fun n274 w275 =>
  br (n274 == 1) (fun w276 =>
  gocall Tryd.prog (21) [] (fun v277 w278 =>
  asBoo (v277) (fun b279 w280 =>
  K (Value.bool (b279)) (w280)) (w278)) (w276)) (fun w281 =>
  K (Value.bool (false)) (w281)) (w275)) (w273)) (w271)) (fun w282 =>
  K (Value.bool (false)) (w282)) (w270)) (w268)) (w266)) (fun w283 =>
  K (Value.bool (false)) (w283)) (w265)) (w261)) (w259)) (w257)) (w255)) (w253)) (w251)) (w249)) (w247)) (w245)) (w243)) (w241)) (w239)) (w237)) (w235)) (w233)) (w231)) (w27)) (w25)) (w23)) (fun w284 =>
  ld (⟨k0, 0, none⟩) (fun v285 w286 =>
  asI (IntKind.i64) (v285) (fun n287 w288 =>
  ld (⟨k0, 1, none⟩) (fun v289 w290 =>
  asI (IntKind.i64) (v289) (fun n291 w292 =>
  ld (⟨k0, 2, none⟩) (fun v293 w294 =>
  asI (IntKind.i64) (v293) (fun n295 w296 =>
  ld (⟨k0, 3, none⟩) (fun v297 w298 =>
  asI (IntKind.i64) (v297) (fun n299 w300 =>
  ld (⟨k0, 4, none⟩) (fun v301 w302 =>
  asI (IntKind.i64) (v301) (fun n303 w304 =>
  ld (⟨k0, 5, none⟩) (fun v305 w306 =>
  asI (IntKind.i64) (v305) (fun n307 w308 =>
  ld (⟨k0, 6, none⟩) (fun v309 w310 =>
  asI (IntKind.i64) (v309) (fun n311 w312 =>
  gocall Tryd.prog (18) [(Value.pointer p4), (Value.agg #[(Value.int IntKind.i64 (n287)), (Value.int IntKind.i64 (n291)), (Value.int IntKind.i64 (n295)), (Value.int IntKind.i64 (n299)), (Value.int IntKind.i64 (n303)), (Value.int IntKind.i64 (n307)), (Value.int IntKind.i64 (n311))])] (fun v313 w314 =>
  asSl (v313) (fun p315 k316 k317 w318 =>
  br ((↑k316 : Int) == 0) (fun w319 =>
  gocall Tryd.prog (19) [(Value.pointer p4)] (fun v320 w321 =>
  asI (IntKind.i64) (v320) (fun n322 w323 =>
  br (n322 == 45) (fun w324 =>
  gocall Tryd.prog (20) [(Value.pointer p4), (Value.int IntKind.i64 (9))] (fun v325 w326 =>
  asI (IntKind.i64) (v325) (fun n327 w328 =>
  br (n327 == 1) (fun w329 =>
  gocall Tryd.prog (21) [] (fun v330 w331 =>
  asBoo (v330) (fun b332 w333 =>
  K (Value.bool (b332)) (w333)) (w331)) (w329)) (fun w334 =>
  K (Value.bool (false)) (w334)) (w328)) (w326)) (w324)) (fun w335 =>
  K (Value.bool (false)) (w335)) (w323)) (w321)) (w319)) (fun w336 =>
  K (Value.bool (false)) (w336)) (w318)) (w314)) (w312)) (w310)) (w308)) (w306)) (w304)) (w302)) (w300)) (w298)) (w296)) (w294)) (w292)) (w290)) (w288)) (w286)) (w284)) (w22)) (w20)) (w18)) (fun w337 =>
  ld (⟨k0, 0, none⟩) (fun v338 w339 =>
  asI (IntKind.i64) (v338) (fun n340 w341 =>
  ld (⟨k0, 1, none⟩) (fun v342 w343 =>
  asI (IntKind.i64) (v342) (fun n344 w345 =>
  ld (⟨k0, 2, none⟩) (fun v346 w347 =>
  asI (IntKind.i64) (v346) (fun n348 w349 =>
  ld (⟨k0, 3, none⟩) (fun v350 w351 =>
  asI (IntKind.i64) (v350) (fun n352 w353 =>
  ld (⟨k0, 4, none⟩) (fun v354 w355 =>
  asI (IntKind.i64) (v354) (fun n356 w357 =>
  ld (⟨k0, 5, none⟩) (fun v358 w359 =>
  asI (IntKind.i64) (v358) (fun n360 w361 =>
  ld (⟨k0, 6, none⟩) (fun v362 w363 =>
  asI (IntKind.i64) (v362) (fun n364 w365 =>
  gocall Tryd.prog (18) [(Value.pointer p4), (Value.agg #[(Value.int IntKind.i64 (n340)), (Value.int IntKind.i64 (n344)), (Value.int IntKind.i64 (n348)), (Value.int IntKind.i64 (n352)), (Value.int IntKind.i64 (n356)), (Value.int IntKind.i64 (n360)), (Value.int IntKind.i64 (n364))])] (fun v366 w367 =>
  asSl (v366) (fun p368 k369 k370 w371 =>
  br ((↑k369 : Int) == 0) (fun w372 =>
  gocall Tryd.prog (19) [(Value.pointer p4)] (fun v373 w374 =>
  asI (IntKind.i64) (v373) (fun n375 w376 =>
  br (n375 == 45) (fun w377 =>
  gocall Tryd.prog (20) [(Value.pointer p4), (Value.int IntKind.i64 (9))] (fun v378 w379 =>
  asI (IntKind.i64) (v378) (fun n380 w381 =>
  br (n380 == 1) (fun w382 =>
  gocall Tryd.prog (21) [] (fun v383 w384 =>
  asBoo (v383) (fun b385 w386 =>
  K (Value.bool (b385)) (w386)) (w384)) (w382)) (fun w387 =>
  K (Value.bool (false)) (w387)) (w381)) (w379)) (w377)) (fun w388 =>
  K (Value.bool (false)) (w388)) (w376)) (w374)) (w372)) (fun w389 =>
  K (Value.bool (false)) (w389)) (w371)) (w367)) (w365)) (w363)) (w361)) (w359)) (w357)) (w355)) (w353)) (w351)) (w349)) (w347)) (w345)) (w343)) (w341)) (w339)) (w337)) (w17)) (w15)) (w13)) (w9)) (w7)) (w5)) (w3)) (w1)) (w)
theorem F6_eq (x0 : Int) (x1 : Int) (x2 : Int) (x3 : Int) (x4 : Int) (x5 : Int) (x6 : Int) : sBody Tryd.prog [] Tryd.f6 [(Value.agg #[(Value.int IntKind.i64 x0), (Value.int IntKind.i64 x1), (Value.int IntKind.i64 x2), (Value.int IntKind.i64 x3), (Value.int IntKind.i64 x4), (Value.int IntKind.i64 x5), (Value.int IntKind.i64 x6)])] = F6 x0 x1 x2 x3 x4 x5 x6 := by kernel_rfl
theorem F6_go (x0 : Int) (x1 : Int) (x2 : Int) (x3 : Int) (x4 : Int) (x5 : Int) (x6 : Int) {K : KV} {w : World} (h : F6 x0 x1 x2 x3 x4 x5 x6 K w) : gocall Tryd.prog 6 [(Value.agg #[(Value.int IntKind.i64 x0), (Value.int IntKind.i64 x1), (Value.int IntKind.i64 x2), (Value.int IntKind.i64 x3), (Value.int IntKind.i64 x4), (Value.int IntKind.i64 x5), (Value.int IntKind.i64 x6)])] K w :=
  ⟨by kernel_rfl, calls_of_sBody (T := []) mixed Tryd.func6 (by kernel_rfl) (by rw [F6_eq]; exact h)⟩
end Go.Proofs.YtiihiaicggmhjaaDoor
