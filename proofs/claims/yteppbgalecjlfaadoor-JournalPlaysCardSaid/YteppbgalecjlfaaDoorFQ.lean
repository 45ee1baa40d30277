/- The shallow readings of some functions of the program (printed by a program of ours out of the model's own evaluation) and, for each, the proof that it is one. Conditions: none. -/
import Derived.Test.YteppbgalecjlfaaDoorCPl
set_option maxRecDepth 100000
set_option linter.unusedVariables false
namespace Go.Proofs.YteppbgalecjlfaaDoor
open Go Go.Sh
def F6 (x0 : Int) (a1 : Option Addr) (n1 : Nat) (c1 : Nat) (x2 : Int) (K : KV) (w : World) : Prop :=
  gocall Tryd.prog (19) [(Value.slice a1 (n1) (c1))] (fun v5 w6 =>
  asBoo (v5) (fun b7 w8 =>
  br (!b7) (fun w9 =>
  gocall Tryd.prog (14) [] (fun v10 w11 =>
  asBoo (v10) (fun b12 w13 =>
  K (Value.bool (b12)) (w13)) (w11)) (w9)) (fun w14 =>
  gocall Tryd.prog (9) [(Value.int IntKind.i64 (x0))] (fun v15 w16 =>
  asPtr (v15) (fun p17 w18 =>
  gocall Tryd.prog (20) [(Value.int IntKind.i64 (x0))] (fun v19 w20 =>
  asPtr (v19) (fun p21 w22 =>
  br (p17.isNone) (fun w23 =>
  K (Value.bool (false)) (w23)) (fun w24 =>
  divW (5) (fun w25 =>
  loop (X := (Int) × (Bool) × Unit) (0, (false, ())) (fun x26 rec27 w28 =>
  br (decide (x26.fst < (↑n1 : Int))) (fun w29 =>
  slAt (a1) (n1) (x26.fst) (6) (fun a30 w31 =>
  ld (a30) (fun v32 w33 =>
  asI (IntKind.i64) (v32) (fun n34 w35 =>
  ld (⟨a30.block, a30.off + 1, none⟩) (fun v36 w37 =>
  asI (IntKind.i64) (v36) (fun n38 w39 =>
  ld (⟨a30.block, a30.off + 2, none⟩) (fun v40 w41 =>
  asI (IntKind.i64) (v40) (fun n42 w43 =>
  ld (⟨a30.block, a30.off + 3, none⟩) (fun v44 w45 =>
  asStr (v44) (fun s46 w47 =>
  ld (⟨a30.block, a30.off + 4, none⟩) (fun v48 w49 =>
  asI (IntKind.i64) (v48) (fun n50 w51 =>
  ld (⟨a30.block, a30.off + 5, none⟩) (fun v52 w53 =>
  asSl (v52) (fun p54 k55 k56 w57 =>
  nw (Obj.cells #[(Value.int IntKind.i64 (0)), (Value.int IntKind.i64 (0)), (Value.int IntKind.i64 (0)), (Value.string ({ data := #[] })), (Value.int IntKind.i64 (0)), (Value.slice none (0) (0))] 46 (0, 0)) (fun k58 w59 =>
  st (⟨k58, 0, none⟩) (Value.int IntKind.i64 (n34)) (fun w60 =>
  st (⟨k58, 1, none⟩) (Value.int IntKind.i64 (n38)) (fun w61 =>
  st (⟨k58, 2, none⟩) (Value.int IntKind.i64 (n42)) (fun w62 =>
  st (⟨k58, 3, none⟩) (Value.string (s46)) (fun w63 =>
  st (⟨k58, 4, none⟩) (Value.int IntKind.i64 (n50)) (fun w64 =>
  st (⟨k58, 5, none⟩) (Value.slice p54 (k55) (k56)) (fun w65 =>
  ld (⟨k58, 0, none⟩) (fun v66 w67 =>
  asI (IntKind.i64) (v66) (fun n68 w69 =>
  br (n68 == 0) (fun w70 =>
  keeps (fun S71 w72 =>
  ldS (S71) (⟨k58, 3, none⟩) (fun v73 w74 =>
  asStr (v73) (fun s75 w76 =>
  ldS (S71) (⟨k58, 4, none⟩) (fun v77 w78 =>
  asI (IntKind.i64) (v77) (fun n79 w80 =>
  ldS (S71) (⟨k58, 5, none⟩) (fun v81 w82 =>
  asSl (v81) (fun p83 k84 k85 w86 =>
  ldS (S71) (⟨k58, 3, none⟩) (fun v87 w88 =>
  asStr (v87) (fun s89 w90 =>
  ldS (S71) (⟨k58, 4, none⟩) (fun v91 w92 =>
  asI (IntKind.i64) (v91) (fun n93 w94 =>
  ldS (S71) (⟨k58, 5, none⟩) (fun v95 w96 =>
  asSl (v95) (fun p97 k98 k99 w100 =>
  gocall Tryd.prog (10) [(Value.pointer p17), (Value.agg #[(Value.string (s75)), (Value.int IntKind.i64 (n79)), (Value.slice p83 (k84) (k85))])] (fun v101 w102 =>
  asI (IntKind.i64) (v101) (fun n103 w104 =>
  kp (S71) (fun w105 =>
  gocall Tryd.prog (21) [(Value.pointer p21), (Value.agg #[(Value.string (s89)), (Value.int IntKind.i64 (n93)), (Value.slice p97 (k98) (k99))])] (fun v106 w107 =>
  asI (IntKind.i64) (v106) (fun n108 w109 =>
  kp (S71) (fun w110 =>
  gocall Tryd.prog (25) [(Value.pointer p21)] (fun v111 w112 =>
  asSl (v111) (fun p113 k114 k115 w116 =>
  keeps (fun S117 w118 =>
  br (!n103 == n108) (fun w119 =>
  K (Value.bool (false)) (w119)) (fun w120 =>
  nn (p21) (fun a121 w122 =>
  ldS (S117) (⟨a121.block, a121.off + 1, none⟩) (fun v123 w124 =>
  asSl (v123) (fun p125 k126 k127 w128 =>
  gocall Tryd.prog (11) [(Value.pointer p17)] (fun v129 w130 =>
  asSl (v129) (fun p131 k132 k133 w134 =>
  kp (S117) (fun w135 =>
  gocall Tryd.prog (26) [(Value.slice p131 (k132) (k133)), (Value.slice p125 (k126) (k127))] (fun v136 w137 =>
  asBoo (v136) (fun b138 w139 =>
  kp (S117) (fun w140 =>
  br (!b138) (fun w141 =>
  K (Value.bool (false)) (w141)) (fun w142 =>
  nn (p21) (fun a143 w144 =>
  ldS (S117) (⟨a143.block, a143.off + 2, none⟩) (fun v145 w146 =>
  asI (IntKind.i64) (v145) (fun n147 w148 =>
  gocall Tryd.prog (16) [(Value.pointer p17)] (fun v149 w150 =>
  asI (IntKind.i64) (v149) (fun n151 w152 =>
  kp (S117) (fun w153 =>
  br (n151 != n147) (fun w154 =>
  K (Value.bool (false)) (w154)) (fun w155 =>
  nn (p21) (fun a156 w157 =>
  ldS (S117) (⟨a156.block, a156.off + 3, none⟩) (fun v158 w159 =>
  asBoo (v158) (fun b160 w161 =>
  gocall Tryd.prog (27) [(Value.pointer p17)] (fun v162 w163 =>
  asBoo (v162) (fun b164 w165 =>
  kp (S117) (fun w166 =>
  br (!b164 == b160) (fun w167 =>
  K (Value.bool (false)) (w167)) (fun w168 =>
  gocall Tryd.prog (17) [(Value.pointer p17), (Value.int IntKind.i64 (5000))] (fun v169 w170 =>
  asSl (v169) (fun p171 k172 k173 w174 =>
  kp (S117) (fun w175 =>
  gocall Tryd.prog (18) [(Value.slice p171 (k172) (k173)), (Value.slice p113 (k114) (k115))] (fun v176 w177 =>
  asBoo (v176) (fun b178 w179 =>
  kp (S117) (fun w180 =>
  br (!b178) (fun w181 =>
  K (Value.bool (false)) (w181)) (fun w182 =>
  gocall Tryd.prog (17) [(Value.pointer p17), (Value.int IntKind.i64 (IntKind.i64.wrap ((IntKind.u64.wrap x2).tmod 5)))] (fun v183 w184 =>
  asSl (v183) (fun p185 k186 k187 w188 =>
  kp (S117) (fun w189 =>
  br ((↑k186 : Int) != if (↑k114 : Int) < IntKind.i64.wrap ((IntKind.u64.wrap x2).tmod 5) then (↑k114 : Int) else IntKind.i64.wrap ((IntKind.u64.wrap x2).tmod 5)) (fun w190 =>
  K (Value.bool (false)) (w190)) (fun w191 =>
  rec27 (IntKind.i64.wrap (x26.fst + 1), (x26.snd.fst, ())) (w191)) (w189)) (w188)) (w184)) (w182)) (w180)) (w179)) (w177)) (w175)) (w174)) (w170)) (w168)) (w166)) (w165)) (w163)) (w161)) (w159)) (w157)) (w155)) (w153)) (w152)) (w150)) (w148)) (w146)) (w144)) (w142)) (w140)) (w139)) (w137)) (w135)) (w134)) (w130)) (w128)) (w124)) (w122)) (w120)) (w118)) (w116.drew)) (w112)) (w110)) (w109)) (w107)) (w105)) (w104)) (w102)) (w100)) (w96)) (w94)) (w92)) (w90)) (w88)) (w86)) (w82)) (w80)) (w78)) (w76)) (w74)) (w72)) (w70.drew)) (fun w192 =>
  br (n68 == 1) (fun w193 =>
  gocall Tryd.prog (15) [(Value.pointer p17)] (fun v194 w195 =>
  asI (IntKind.i64) (v194) (fun n196 w197 =>
  gocall Tryd.prog (22) [(Value.pointer p21)] (fun v198 w199 =>
  asI (IntKind.i64) (v198) (fun n200 w201 =>
  gocall Tryd.prog (25) [(Value.pointer p21)] (fun v202 w203 =>
  asSl (v202) (fun p204 k205 k206 w207 =>
  keeps (fun S208 w209 =>
  br (!n196 == n200) (fun w210 =>
  K (Value.bool (false)) (w210)) (fun w211 =>
  nn (p21) (fun a212 w213 =>
  ldS (S208) (⟨a212.block, a212.off + 1, none⟩) (fun v214 w215 =>
  asSl (v214) (fun p216 k217 k218 w219 =>
  gocall Tryd.prog (11) [(Value.pointer p17)] (fun v220 w221 =>
  asSl (v220) (fun p222 k223 k224 w225 =>
  kp (S208) (fun w226 =>
  gocall Tryd.prog (26) [(Value.slice p222 (k223) (k224)), (Value.slice p216 (k217) (k218))] (fun v227 w228 =>
  asBoo (v227) (fun b229 w230 =>
  kp (S208) (fun w231 =>
  br (!b229) (fun w232 =>
  K (Value.bool (false)) (w232)) (fun w233 =>
  nn (p21) (fun a234 w235 =>
  ldS (S208) (⟨a234.block, a234.off + 2, none⟩) (fun v236 w237 =>
  asI (IntKind.i64) (v236) (fun n238 w239 =>
  gocall Tryd.prog (16) [(Value.pointer p17)] (fun v240 w241 =>
  asI (IntKind.i64) (v240) (fun n242 w243 =>
  kp (S208) (fun w244 =>
  br (n242 != n238) (fun w245 =>
  K (Value.bool (false)) (w245)) (fun w246 =>
  nn (p21) (fun a247 w248 =>
  ldS (S208) (⟨a247.block, a247.off + 3, none⟩) (fun v249 w250 =>
  asBoo (v249) (fun b251 w252 =>
  gocall Tryd.prog (27) [(Value.pointer p17)] (fun v253 w254 =>
  asBoo (v253) (fun b255 w256 =>
  kp (S208) (fun w257 =>
  br (!b255 == b251) (fun w258 =>
  K (Value.bool (false)) (w258)) (fun w259 =>
  gocall Tryd.prog (17) [(Value.pointer p17), (Value.int IntKind.i64 (5000))] (fun v260 w261 =>
  asSl (v260) (fun p262 k263 k264 w265 =>
  kp (S208) (fun w266 =>
  gocall Tryd.prog (18) [(Value.slice p262 (k263) (k264)), (Value.slice p204 (k205) (k206))] (fun v267 w268 =>
  asBoo (v267) (fun b269 w270 =>
  kp (S208) (fun w271 =>
  br (!b269) (fun w272 =>
  K (Value.bool (false)) (w272)) (fun w273 =>
  gocall Tryd.prog (17) [(Value.pointer p17), (Value.int IntKind.i64 (IntKind.i64.wrap ((IntKind.u64.wrap x2).tmod 5)))] (fun v274 w275 =>
  asSl (v274) (fun p276 k277 k278 w279 =>
  kp (S208) (fun w280 =>
  br ((↑k277 : Int) != if (↑k205 : Int) < IntKind.i64.wrap ((IntKind.u64.wrap x2).tmod 5) then (↑k205 : Int) else IntKind.i64.wrap ((IntKind.u64.wrap x2).tmod 5)) (fun w281 =>
  K (Value.bool (false)) (w281)) (fun w282 =>
  rec27 (IntKind.i64.wrap (x26.fst + 1), (x26.snd.fst, ())) (w282)) (w280)) (w279)) (w275)) (w273)) (w271)) (w270)) (w268)) (w266)) (w265)) (w261)) (w259)) (w257)) (w256)) (w254)) (w252)) (w250)) (w248)) (w246)) (w244)) (w243)) (w241)) (w239)) (w237)) (w235)) (w233)) (w231)) (w230)) (w228)) (w226)) (w225)) (w221)) (w219)) (w215)) (w213)) (w211)) (w209)) (w207.drew)) (w203)) (w201)) (w199)) (w197)) (w195)) (w193)) (fun w283 =>
  br (n68 == 2) (fun w284 =>
  ld (⟨k58, 1, none⟩) (fun v285 w286 =>
  asI (IntKind.i64) (v285) (fun n287 w288 =>
  ld (⟨k58, 2, none⟩) (fun v289 w290 =>
  asI (IntKind.i64) (v289) (fun n291 w292 =>
  gocall Tryd.prog (12) [(Value.pointer p17), (Value.int IntKind.i64 (n287)), (Value.int IntKind.i64 (n291))] (fun v293 w294 =>
  asT (0) (v293) (fun f295 w296 =>
  ld (⟨k58, 1, none⟩) (fun v297 w298 =>
  asI (IntKind.i64) (v297) (fun n299 w300 =>
  ld (⟨k58, 2, none⟩) (fun v301 w302 =>
  asI (IntKind.i64) (v301) (fun n303 w304 =>
  gocall Tryd.prog (23) [(Value.pointer p21), (Value.int IntKind.i64 (n299)), (Value.int IntKind.i64 (n303))] (fun v305 w306 =>
  asT (0) (v305) (fun f307 w308 =>
  gocall Tryd.prog (25) [(Value.pointer p21)] (fun v309 w310 =>
  asSl (v309) (fun p311 k312 k313 w314 =>
  keeps (fun S315 w316 =>
  nn (p21) (fun a317 w318 =>
  ldS (S315) (⟨a317.block, a317.off + 1, none⟩) (fun v319 w320 =>
  asSl (v319) (fun p321 k322 k323 w324 =>
  gocall Tryd.prog (11) [(Value.pointer p17)] (fun v325 w326 =>
  asSl (v325) (fun p327 k328 k329 w330 =>
  kp (S315) (fun w331 =>
  gocall Tryd.prog (26) [(Value.slice p327 (k328) (k329)), (Value.slice p321 (k322) (k323))] (fun v332 w333 =>
  asBoo (v332) (fun b334 w335 =>
  kp (S315) (fun w336 =>
  br (!b334) (fun w337 =>
  K (Value.bool (false)) (w337)) (fun w338 =>
  nn (p21) (fun a339 w340 =>
  ldS (S315) (⟨a339.block, a339.off + 2, none⟩) (fun v341 w342 =>
  asI (IntKind.i64) (v341) (fun n343 w344 =>
  gocall Tryd.prog (16) [(Value.pointer p17)] (fun v345 w346 =>
  asI (IntKind.i64) (v345) (fun n347 w348 =>
  kp (S315) (fun w349 =>
  br (n347 != n343) (fun w350 =>
  K (Value.bool (false)) (w350)) (fun w351 =>
  nn (p21) (fun a352 w353 =>
  ldS (S315) (⟨a352.block, a352.off + 3, none⟩) (fun v354 w355 =>
  asBoo (v354) (fun b356 w357 =>
  gocall Tryd.prog (27) [(Value.pointer p17)] (fun v358 w359 =>
  asBoo (v358) (fun b360 w361 =>
  kp (S315) (fun w362 =>
  br (!b360 == b356) (fun w363 =>
  K (Value.bool (false)) (w363)) (fun w364 =>
  gocall Tryd.prog (17) [(Value.pointer p17), (Value.int IntKind.i64 (5000))] (fun v365 w366 =>
  asSl (v365) (fun p367 k368 k369 w370 =>
  kp (S315) (fun w371 =>
  gocall Tryd.prog (18) [(Value.slice p367 (k368) (k369)), (Value.slice p311 (k312) (k313))] (fun v372 w373 =>
  asBoo (v372) (fun b374 w375 =>
  kp (S315) (fun w376 =>
  br (!b374) (fun w377 =>
  K (Value.bool (false)) (w377)) (fun w378 =>
  gocall Tryd.prog (17) [(Value.pointer p17), (Value.int IntKind.i64 (IntKind.i64.wrap ((IntKind.u64.wrap x2).tmod 5)))] (fun v379 w380 =>
  asSl (v379) (fun p381 k382 k383 w384 =>
  kp (S315) (fun w385 =>
  br ((↑k382 : Int) != if (↑k312 : Int) < IntKind.i64.wrap ((IntKind.u64.wrap x2).tmod 5) then (↑k312 : Int) else IntKind.i64.wrap ((IntKind.u64.wrap x2).tmod 5)) (fun w386 =>
  K (Value.bool (false)) (w386)) (fun w387 =>
  rec27 (IntKind.i64.wrap (x26.fst + 1), (x26.snd.fst, ())) (w387)) (w385)) (w384)) (w380)) (w378)) (w376)) (w375)) (w373)) (w371)) (w370)) (w366)) (w364)) (w362)) (w361)) (w359)) (w357)) (w355)) (w353)) (w351)) (w349)) (w348)) (w346)) (w344)) (w342)) (w340)) (w338)) (w336)) (w335)) (w333)) (w331)) (w330)) (w326)) (w324)) (w320)) (w318)) (w316)) (w314.drew)) (w310)) (w308)) (w306)) (w304)) (w302)) (w300)) (w298)) (w296)) (w294)) (w292)) (w290)) (w288)) (w286)) (w284)) (fun w388 =>
  gocall Tryd.prog (13) [(Value.pointer p17)] (fun v389 w390 =>
  asI (IntKind.i64) (v389) (fun n391 w392 =>
  gocall Tryd.prog (24) [(Value.pointer p21)] (fun v393 w394 =>
  asI (IntKind.i64) (v393) (fun n395 w396 =>
  gocall Tryd.prog (25) [(Value.pointer p21)] (fun v397 w398 =>
  asSl (v397) (fun p399 k400 k401 w402 =>
  keeps (fun S403 w404 =>
  br (!n391 == n395) (fun w405 =>
  K (Value.bool (false)) (w405)) (fun w406 =>
  nn (p21) (fun a407 w408 =>
  ldS (S403) (⟨a407.block, a407.off + 1, none⟩) (fun v409 w410 =>
  asSl (v409) (fun p411 k412 k413 w414 =>
  gocall Tryd.prog (11) [(Value.pointer p17)] (fun v415 w416 =>
  asSl (v415) (fun p417 k418 k419 w420 =>
  kp (S403) (fun w421 =>
  gocall Tryd.prog (26) [(Value.slice p417 (k418) (k419)), (Value.slice p411 (k412) (k413))] (fun v422 w423 =>
  asBoo (v422) (fun b424 w425 =>
  kp (S403) (fun w426 =>
  br (!b424) (fun w427 =>
  K (Value.bool (false)) (w427)) (fun w428 =>
  nn (p21) (fun a429 w430 =>
  ldS (S403) (⟨a429.block, a429.off + 2, none⟩) (fun v431 w432 =>
  asI (IntKind.i64) (v431) (fun n433 w434 =>
  gocall Tryd.prog (16) [(Value.pointer p17)] (fun v435 w436 =>
  asI (IntKind.i64) (v435) (fun n437 w438 =>
  kp (S403) (fun w439 =>
  br (n437 != n433) (fun w440 =>
  K (Value.bool (false)) (w440)) (fun w441 =>
  nn (p21) (fun a442 w443 =>
  ldS (S403) (⟨a442.block, a442.off + 3, none⟩) (fun v444 w445 =>
  asBoo (v444) (fun b446 w447 =>
  gocall Tryd.prog (27) [(Value.pointer p17)] (fun v448 w449 =>
  asBoo (v448) (fun b450 w451 =>
  kp (S403) (fun w452 =>
  br (!b450 == b446) (fun w453 =>
  K (Value.bool (false)) (w453)) (fun w454 =>
  gocall Tryd.prog (17) [(Value.pointer p17), (Value.int IntKind.i64 (5000))] (fun v455 w456 =>
  asSl (v455) (fun p457 k458 k459 w460 =>
  kp (S403) (fun w461 =>
  gocall Tryd.prog (18) [(Value.slice p457 (k458) (k459)), (Value.slice p399 (k400) (k401))] (fun v462 w463 =>
  asBoo (v462) (fun b464 w465 =>
  kp (S403) (fun w466 =>
  br (!b464) (fun w467 =>
  K (Value.bool (false)) (w467)) (fun w468 =>
  gocall Tryd.prog (17) [(Value.pointer p17), (Value.int IntKind.i64 (IntKind.i64.wrap ((IntKind.u64.wrap x2).tmod 5)))] (fun v469 w470 =>
  asSl (v469) (fun p471 k472 k473 w474 =>
  kp (S403) (fun w475 =>
  br ((↑k472 : Int) != if (↑k400 : Int) < IntKind.i64.wrap ((IntKind.u64.wrap x2).tmod 5) then (↑k400 : Int) else IntKind.i64.wrap ((IntKind.u64.wrap x2).tmod 5)) (fun w476 =>
  K (Value.bool (false)) (w476)) (fun w477 =>
  rec27 (IntKind.i64.wrap (x26.fst + 1), (x26.snd.fst, ())) (w477)) (w475)) (w474)) (w470)) (w468)) (w466)) (w465)) (w463)) (w461)) (w460)) (w456)) (w454)) (w452)) (w451)) (w449)) (w447)) (w445)) (w443)) (w441)) (w439)) (w438)) (w436)) (w434)) (w432)) (w430)) (w428)) (w426)) (w425)) (w423)) (w421)) (w420)) (w416)) (w414)) (w410)) (w408)) (w406)) (w404)) (w402.drew)) (w398)) (w396)) (w394)) (w392)) (w390)) (w388)) (w283)) (w192)) (w69)) (w67)) (w65)) (w64)) (w63)) (w62)) (w61)) (w60)) (w59)) (w57)) (w53)) (w51)) (w49)) (w47)) (w45)) (w43)) (w41)) (w39)) (w37)) (w35)) (w33)) (w31)) (w29)) (fun w478 =>
  gocall Tryd.prog (14) [] (fun v479 w480 =>
  asBoo (v479) (fun b481 w482 =>
  K (Value.bool (b481)) (w482)) (w480)) (w478)) (w28)) (w25)) (w24)) (w22)) (w20)) (w18)) (w16)) (w14)) (w8)) (w6)) (w)
theorem F6_eq (x0 : Int) (a1 : Option Addr) (n1 : Nat) (c1 : Nat) (x2 : Int) : sBody Tryd.prog [(14, [0, 1, 2, 4, 5, 6, 3, 7, 8, 9]), (21, [0, 1, 2, 3, 5, 6, 7, 8, 4, 9, 10, 11, 12, 13, 15, 16, 17, 18, 14, 19, 20, 21, 22, 24, 25, 26, 27, 23, 28, 29, 30, 31, 33, 32, 34, 35, 36, 37, 38, 39, 42, 43, 44, 45, 40, 41, 46, 47])] Tryd.f6 [(Value.int IntKind.i64 x0), (Value.slice a1 n1 c1), (Value.int IntKind.i64 x2)] = F6 x0 a1 n1 c1 x2 := by kernel_rfl
theorem F6_go (x0 : Int) (a1 : Option Addr) (n1 : Nat) (c1 : Nat) (x2 : Int) {K : KV} {w : World} (h : F6 x0 a1 n1 c1 x2 K w) : gocall Tryd.prog 6 [(Value.int IntKind.i64 x0), (Value.slice a1 n1 c1), (Value.int IntKind.i64 x2)] K w :=
  ⟨by kernel_rfl, calls_of_sBody (T := [(14, [0, 1, 2, 4, 5, 6, 3, 7, 8, 9]), (21, [0, 1, 2, 3, 5, 6, 7, 8, 4, 9, 10, 11, 12, 13, 15, 16, 17, 18, 14, 19, 20, 21, 22, 24, 25, 26, 27, 23, 28, 29, 30, 31, 33, 32, 34, 35, 36, 37, 38, 39, 42, 43, 44, 45, 40, 41, 46, 47])]) mixed Tryd.func6 (by kernel_rfl) (by rw [F6_eq]; exact h)⟩
end Go.Proofs.YteppbgalecjlfaaDoor
