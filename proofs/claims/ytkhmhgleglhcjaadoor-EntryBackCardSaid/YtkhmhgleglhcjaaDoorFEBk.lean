/- The shallow readings of some functions of the program (printed by a program of ours out of the model's own evaluation) and, for each, the proof that it is one. Conditions: none. -/
import Derived.Test.YtkhmhgleglhcjaaDoorC17
set_option maxRecDepth 100000
set_option linter.unusedVariables false
namespace Go.Proofs.YtkhmhgleglhcjaaDoor
open Go Go.Sh
def F3 (s0 : ByteArray) (x1 : Int) (a2 : Option Addr) (n2 : Nat) (c2 : Nat) (s3 : ByteArray) (b4 : Bool) (K : KV) (w : World) : Prop :=
  nw (Obj.cells #[(Value.string (s0)), (Value.int IntKind.i64 (x1)), (Value.slice a2 (n2) (c2))] 24 (0, 0)) (fun k7 w8 =>
  ld (⟨k7, 0, none⟩) (fun v9 w10 =>
  asStr (v9) (fun s11 w12 =>
  ld (⟨k7, 1, none⟩) (fun v13 w14 =>
  asI (IntKind.i64) (v13) (fun n15 w16 =>
  ld (⟨k7, 2, none⟩) (fun v17 w18 =>
  asSl (v17) (fun p19 k20 k21 w22 =>
  gocall Tryd.prog (13) [(Value.agg #[(Value.string (s11)), (Value.int IntKind.i64 (n15)), (Value.slice p19 (k20) (k21))])] (fun v23 w24 =>
  asBoo (v23) (fun b25 w26 =>
  br (!b25) (fun w27 =>
  gocall Tryd.prog (14) [] (fun v28 w29 =>
  asBoo (v28) (fun b30 w31 =>
  K (Value.bool (b30)) (w31)) (w29)) (w27)) (fun w32 =>
  br (decide ((↑s3.size : Int) > 300)) (fun w33 =>
  gocall Tryd.prog (14) [] (fun v34 w35 =>
  asBoo (v34) (fun b36 w37 =>
  K (Value.bool (b36)) (w37)) (w35)) (w33)) (fun w38 =>
  br (b4) (fun w39 =>
  gocall Tryd.prog (15) [(Value.string (s3))] (fun v40 w41 =>
  asStr (v40) (fun s42 w43 =>
  ld (⟨k7, 0, none⟩) (fun v44 w45 =>
  asStr (v44) (fun s46 w47 =>
  ld (⟨k7, 1, none⟩) (fun v48 w49 =>
  asI (IntKind.i64) (v48) (fun n50 w51 =>
  ld (⟨k7, 2, none⟩) (fun v52 w53 =>
  asSl (v52) (fun p54 k55 k56 w57 =>
  gocall Tryd.prog (16) [(Value.agg #[(Value.string (s46)), (Value.int IntKind.i64 (n50)), (Value.slice p54 (k55) (k56))])] (fun v58 w59 =>
  asT (2) (v58) (fun f60 w61 =>
  asStr (f60 0) (fun s62 w63 =>
  asI (IntKind.i64) (f60 1) (fun n64 w65 =>
  gocall Tryd.prog (17) [(Value.string (s62))] (fun v66 w67 =>
  asT (2) (v66) (fun f68 w69 =>
  asN (3) (f68 0) (fun f70 w71 =>
  asStr (f70 0) (fun s72 w73 =>
  asI (IntKind.i64) (f70 1) (fun n74 w75 =>
  asSl (f70 2) (fun p76 k77 k78 w79 =>
  asI (IntKind.i64) (f68 1) (fun n80 w81 =>
  nw (Obj.cells #[(Value.string ({ data := #[] })), (Value.int IntKind.i64 (0)), (Value.slice none (0) (0))] 24 (0, 0)) (fun k82 w83 =>
  st (⟨k82, 0, none⟩) (Value.string (s72)) (fun w84 =>
  st (⟨k82, 1, none⟩) (Value.int IntKind.i64 (n74)) (fun w85 =>
  st (⟨k82, 2, none⟩) (Value.slice p76 (k77) (k78)) (fun w86 =>
  ld (⟨k7, 0, none⟩) (fun v87 w88 =>
  asStr (v87) (fun s89 w90 =>
  ld (⟨k7, 1, none⟩) (fun v91 w92 =>
  asI (IntKind.i64) (v91) (fun n93 w94 =>
  ld (⟨k7, 2, none⟩) (fun v95 w96 =>
  asSl (v95) (fun p97 k98 k99 w100 =>
  gocall Tryd.prog (18) [(Value.agg #[(Value.string (s89)), (Value.int IntKind.i64 (n93)), (Value.slice p97 (k98) (k99))])] (fun v101 w102 =>
  asBoo (v101) (fun b103 w104 =>
  br (!(n64 == 0) == b103) (fun w105 =>
  K (Value.bool (false)) (w105)) (fun w106 =>
  br (n64 == 0) (fun w107 =>
  br (n80 != 0) (fun w108 =>
  K (Value.bool (false)) (w108)) (fun w109 =>
  ld (⟨k7, 0, none⟩) (fun v110 w111 =>
  asStr (v110) (fun s112 w113 =>
  ld (⟨k7, 1, none⟩) (fun v114 w115 =>
  asI (IntKind.i64) (v114) (fun n116 w117 =>
  ld (⟨k7, 2, none⟩) (fun v118 w119 =>
  asSl (v118) (fun p120 k121 k122 w123 =>
  ld (⟨k82, 0, none⟩) (fun v124 w125 =>
  asStr (v124) (fun s126 w127 =>
  ld (⟨k82, 1, none⟩) (fun v128 w129 =>
  asI (IntKind.i64) (v128) (fun n130 w131 =>
  ld (⟨k82, 2, none⟩) (fun v132 w133 =>
  asSl (v132) (fun p134 k135 k136 w137 =>
  gocall Tryd.prog (19) [(Value.agg #[(Value.string (s112)), (Value.int IntKind.i64 (n116)), (Value.slice p120 (k121) (k122))]), (Value.agg #[(Value.string (s126)), (Value.int IntKind.i64 (n130)), (Value.slice p134 (k135) (k136))])] (fun v138 w139 =>
  asBoo (v138) (fun b140 w141 =>
  br (!b140) (fun w142 =>
  K (Value.bool (false)) (w142)) (fun w143 =>
  br (decide ((↑s62.size : Int) > 80)) (fun w144 =>
  K (Value.bool (false)) (w144)) (fun w145 =>
  gocall Tryd.prog (17) [(Value.string (s42))] (fun v146 w147 =>
  asT (2) (v146) (fun f148 w149 =>
  asN (3) (f148 0) (fun f150 w151 =>
  asStr (f150 0) (fun s152 w153 =>
  asI (IntKind.i64) (f150 1) (fun n154 w155 =>
  asSl (f150 2) (fun p156 k157 k158 w159 =>
  asI (IntKind.i64) (f148 1) (fun n160 w161 =>
  nw (Obj.cells #[(Value.string ({ data := #[] })), (Value.int IntKind.i64 (0)), (Value.slice none (0) (0))] 24 (0, 0)) (fun k162 w163 =>
  st (⟨k162, 0, none⟩) (Value.string (s152)) (fun w164 =>
  st (⟨k162, 1, none⟩) (Value.int IntKind.i64 (n154)) (fun w165 =>
  st (⟨k162, 2, none⟩) (Value.slice p156 (k157) (k158)) (fun w166 =>
  br (n160 != 0) (fun w167 =>
  ld (⟨k162, 0, none⟩) (fun v168 w169 =>
  asStr (v168) (fun s170 w171 =>
  br (strEq s170 { data := #[] }) (fun w172 =>
  ld (⟨k162, 2, none⟩) (fun v173 w174 =>
  asSl (v173) (fun p175 k176 k177 w178 =>
  br ((↑k176 : Int) == 0) (fun w179 =>
  gocall Tryd.prog (14) [] (fun v180 w181 =>
  asBoo (v180) (fun b182 w183 =>
  K (Value.bool (b182)) (w183)) (w181)) (w179)) (fun w184 =>
  K (Value.bool (false)) (w184)) (w178)) (w174)) (w172)) (fun w185 =>
  K (Value.bool (false)) (w185)) (w171)) (w169)) (w167)) (fun w186 =>
  ld (⟨k162, 0, none⟩) (fun v187 w188 =>
  asStr (v187) (fun s189 w190 =>
  ld (⟨k162, 1, none⟩) (fun v191 w192 =>
  asI (IntKind.i64) (v191) (fun n193 w194 =>
  ld (⟨k162, 2, none⟩) (fun v195 w196 =>
  asSl (v195) (fun p197 k198 k199 w200 =>
  gocall Tryd.prog (16) [(Value.agg #[(Value.string (s189)), (Value.int IntKind.i64 (n193)), (Value.slice p197 (k198) (k199))])] (fun v201 w202 =>
  asT (2) (v201) (fun f203 w204 =>
  asStr (f203 0) (fun s205 w206 =>
  asI (IntKind.i64) (f203 1) (fun n207 w208 =>
  br (n207 == 0) (fun w209 =>
  br (strEq s205 s42) (fun w210 =>
  ld (⟨k162, 0, none⟩) (fun v211 w212 =>
  asStr (v211) (fun s213 w214 =>
  ld (⟨k162, 1, none⟩) (fun v215 w216 =>
  asI (IntKind.i64) (v215) (fun n217 w218 =>
  ld (⟨k162, 2, none⟩) (fun v219 w220 =>
  asSl (v219) (fun p221 k222 k223 w224 =>
  gocall Tryd.prog (18) [(Value.agg #[(Value.string (s213)), (Value.int IntKind.i64 (n217)), (Value.slice p221 (k222) (k223))])] (fun v225 w226 =>
  asBoo (v225) (fun b227 w228 =>
  br (b227) (fun w229 =>
  gocall Tryd.prog (14) [] (fun v230 w231 =>
  asBoo (v230) (fun b232 w233 =>
  K (Value.bool (b232)) (w233)) (w231)) (w229)) (fun w234 =>
  K (Value.bool (false)) (w234)) (w228)) (w226)) (w224)) (w220)) (w218)) (w216)) (w214)) (w212)) (w210)) (fun w235 =>
  K (Value.bool (false)) (w235)) (w209)) (fun w236 =>
  K (Value.bool (false)) (w236)) (w208)) (w206)) (w204)) (w202)) (w200)) (w196)) (w194)) (w192)) (w190)) (w188)) (w186)) (w166)) (w165)) (w164)) (w163)) (w161)) (w159)) (w155)) (w153)) (w151)) (w149)) (w147)) (w145)) (w143)) (w141)) (w139)) (w137)) (w133)) (w131)) (w129)) (w127)) (w125)) (w123)) (w119)) (w117)) (w115)) (w113)) (w111)) (w109)) (w107)) (fun w237 =>
  gocall Tryd.prog (17) [(Value.string (s42))] (fun v238 w239 =>
  asT (2) (v238) (fun f240 w241 =>
  asN (3) (f240 0) (fun f242 w243 =>
  asStr (f242 0) (fun s244 w245 =>
  asI (IntKind.i64) (f242 1) (fun n246 w247 =>
  asSl (f242 2) (fun p248 k249 k250 w251 =>
  asI (IntKind.i64) (f240 1) (fun n252 w253 =>
  nw (Obj.cells #[(Value.string ({ data := #[] })), (Value.int IntKind.i64 (0)), (Value.slice none (0) (0))] 24 (0, 0)) (fun k254 w255 =>
  st (⟨k254, 0, none⟩) (Value.string (s244)) (fun w256 =>
  st (⟨k254, 1, none⟩) (Value.int IntKind.i64 (n246)) (fun w257 =>
  st (⟨k254, 2, none⟩) (Value.slice p248 (k249) (k250)) (fun w258 =>
  br (n252 != 0) (fun w259 =>
  ld (⟨k254, 0, none⟩) (fun v260 w261 =>
  asStr (v260) (fun s262 w263 =>
  br (strEq s262 { data := #[] }) (fun w264 =>
  ld (⟨k254, 2, none⟩) (fun v265 w266 =>
  asSl (v265) (fun p267 k268 k269 w270 =>
  br ((↑k268 : Int) == 0) (fun w271 =>
  gocall Tryd.prog (14) [] (fun v272 w273 =>
  asBoo (v272) (fun b274 w275 =>
  K (Value.bool (b274)) (w275)) (w273)) (w271)) (fun w276 =>
  K (Value.bool (false)) (w276)) (w270)) (w266)) (w264)) (fun w277 =>
  K (Value.bool (false)) (w277)) (w263)) (w261)) (w259)) (fun w278 =>
  ld (⟨k254, 0, none⟩) (fun v279 w280 =>
  asStr (v279) (fun s281 w282 =>
  ld (⟨k254, 1, none⟩) (fun v283 w284 =>
  asI (IntKind.i64) (v283) (fun n285 w286 =>
  ld (⟨k254, 2, none⟩) (fun v287 w288 =>
  asSl (v287) (fun p289 k290 k291 w292 =>
  gocall Tryd.prog (16) [(Value.agg #[(Value.string (s281)), (Value.int IntKind.i64 (n285)), (Value.slice p289 (k290) (k291))])] (fun v293 w294 =>
  asT (2) (v293) (fun f295 w296 =>
  asStr (f295 0) (fun s297 w298 =>
  asI (IntKind.i64) (f295 1) (fun n299 w300 =>
  br (n299 == 0) (fun w301 =>
  br (strEq s297 s42) (fun w302 =>
  ld (⟨k254, 0, none⟩) (fun v303 w304 =>
  asStr (v303) (fun s305 w306 =>
  ld (⟨k254, 1, none⟩) (fun v307 w308 =>
  asI (IntKind.i64) (v307) (fun n309 w310 =>
  ld (⟨k254, 2, none⟩) (fun v311 w312 =>
  asSl (v311) (fun p313 k314 k315 w316 =>
  gocall Tryd.prog (18) [(Value.agg #[(Value.string (s305)), (Value.int IntKind.i64 (n309)), (Value.slice p313 (k314) (k315))])] (fun v317 w318 =>
  asBoo (v317) (fun b319 w320 =>
  br (b319) (fun w321 =>
  gocall Tryd.prog (14) [] (fun v322 w323 =>
  asBoo (v322) (fun b324 w325 =>
  K (Value.bool (b324)) (w325)) (w323)) (w321)) (fun w326 =>
  K (Value.bool (false)) (w326)) (w320)) (w318)) (w316)) (w312)) (w310)) (w308)) (w306)) (w304)) (w302)) (fun w327 =>
  K (Value.bool (false)) (w327)) (w301)) (fun w328 =>
  K (Value.bool (false)) (w328)) (w300)) (w298)) (w296)) (w294)) (w292)) (w288)) (w286)) (w284)) (w282)) (w280)) (w278)) (w258)) (w257)) (w256)) (w255)) (w253)) (w251)) (w247)) (w245)) (w243)) (w241)) (w239)) (w237)) (w106)) (w104)) (w102)) (w100)) (w96)) (w94)) (w92)) (w90)) (w88)) (w86)) (w85)) (w84)) (w83)) (w81)) (w79)) (w75)) (w73)) (w71)) (w69)) (w67)) (w65)) (w63)) (w61)) (w59)) (w57)) (w53)) (w51)) (w49)) (w47)) (w45)) (w43)) (w41)) (w39)) (fun w329 =>
  ld (⟨k7, 0, none⟩) (fun v330 w331 =>
  asStr (v330) (fun s332 w333 =>
  ld (⟨k7, 1, none⟩) (fun v334 w335 =>
  asI (IntKind.i64) (v334) (fun n336 w337 =>
  ld (⟨k7, 2, none⟩) (fun v338 w339 =>
  asSl (v338) (fun p340 k341 k342 w343 =>
  gocall Tryd.prog (16) [(Value.agg #[(Value.string (s332)), (Value.int IntKind.i64 (n336)), (Value.slice p340 (k341) (k342))])] (fun v344 w345 =>
  asT (2) (v344) (fun f346 w347 =>
  asStr (f346 0) (fun s348 w349 =>
  asI (IntKind.i64) (f346 1) (fun n350 w351 =>
  gocall Tryd.prog (17) [(Value.string (s348))] (fun v352 w353 =>
  asT (2) (v352) (fun f354 w355 =>
  asN (3) (f354 0) (fun f356 w357 =>
  asStr (f356 0) (fun s358 w359 =>
  asI (IntKind.i64) (f356 1) (fun n360 w361 =>
  asSl (f356 2) (fun p362 k363 k364 w365 =>
  asI (IntKind.i64) (f354 1) (fun n366 w367 =>
  nw (Obj.cells #[(Value.string ({ data := #[] })), (Value.int IntKind.i64 (0)), (Value.slice none (0) (0))] 24 (0, 0)) (fun k368 w369 =>
  st (⟨k368, 0, none⟩) (Value.string (s358)) (fun w370 =>
  st (⟨k368, 1, none⟩) (Value.int IntKind.i64 (n360)) (fun w371 =>
  st (⟨k368, 2, none⟩) (Value.slice p362 (k363) (k364)) (fun w372 =>
  ld (⟨k7, 0, none⟩) (fun v373 w374 =>
  asStr (v373) (fun s375 w376 =>
  ld (⟨k7, 1, none⟩) (fun v377 w378 =>
  asI (IntKind.i64) (v377) (fun n379 w380 =>
  ld (⟨k7, 2, none⟩) (fun v381 w382 =>
  asSl (v381) (fun p383 k384 k385 w386 =>
  gocall Tryd.prog (18) [(Value.agg #[(Value.string (s375)), (Value.int IntKind.i64 (n379)), (Value.slice p383 (k384) (k385))])] (fun v387 w388 =>
  asBoo (v387) (fun b389 w390 =>
  br (!(n350 == 0) == b389) (fun w391 =>
  K (Value.bool (false)) (w391)) (fun w392 =>
  br (n350 == 0) (fun w393 =>
  br (n366 != 0) (fun w394 =>
  K (Value.bool (false)) (w394)) (fun w395 =>
  ld (⟨k7, 0, none⟩) (fun v396 w397 =>
  asStr (v396) (fun s398 w399 =>
  ld (⟨k7, 1, none⟩) (fun v400 w401 =>
  asI (IntKind.i64) (v400) (fun n402 w403 =>
  ld (⟨k7, 2, none⟩) (fun v404 w405 =>
  asSl (v404) (fun p406 k407 k408 w409 =>
  ld (⟨k368, 0, none⟩) (fun v410 w411 =>
  asStr (v410) (fun s412 w413 =>
  ld (⟨k368, 1, none⟩) (fun v414 w415 =>
  asI (IntKind.i64) (v414) (fun n416 w417 =>
  ld (⟨k368, 2, none⟩) (fun v418 w419 =>
  asSl (v418) (fun p420 k421 k422 w423 =>
  gocall Tryd.prog (19) [(Value.agg #[(Value.string (s398)), (Value.int IntKind.i64 (n402)), (Value.slice p406 (k407) (k408))]), (Value.agg #[(Value.string (s412)), (Value.int IntKind.i64 (n416)), (Value.slice p420 (k421) (k422))])] (fun v424 w425 =>
  asBoo (v424) (fun b426 w427 =>
  br (!b426) (fun w428 =>
  K (Value.bool (false)) (w428)) (fun w429 =>
  br (decide ((↑s348.size : Int) > 80)) (fun w430 =>
  K (Value.bool (false)) (w430)) (fun w431 =>
  gocall Tryd.prog (17) [(Value.string (s3))] (fun v432 w433 =>
  asT (2) (v432) (fun f434 w435 =>
  asN (3) (f434 0) (fun f436 w437 =>
  asStr (f436 0) (fun s438 w439 =>
  asI (IntKind.i64) (f436 1) (fun n440 w441 =>
  asSl (f436 2) (fun p442 k443 k444 w445 =>
  asI (IntKind.i64) (f434 1) (fun n446 w447 =>
  nw (Obj.cells #[(Value.string ({ data := #[] })), (Value.int IntKind.i64 (0)), (Value.slice none (0) (0))] 24 (0, 0)) (fun k448 w449 =>
  st (⟨k448, 0, none⟩) (Value.string (s438)) (fun w450 =>
  st (⟨k448, 1, none⟩) (Value.int IntKind.i64 (n440)) (fun w451 =>
  st (⟨k448, 2, none⟩) (Value.slice p442 (k443) (k444)) (fun w452 =>
  br (n446 != 0) (fun w453 =>
  ld (⟨k448, 0, none⟩) (fun v454 w455 =>
  asStr (v454) (fun s456 w457 =>
  br (strEq s456 { data := #[] }) (fun w458 =>
  ld (⟨k448, 2, none⟩) (fun v459 w460 =>
  asSl (v459) (fun p461 k462 k463 w464 =>
  br ((↑k462 : Int) == 0) (fun w465 =>
  gocall Tryd.prog (14) [] (fun v466 w467 =>
  asBoo (v466) (fun b468 w469 =>
  K (Value.bool (b468)) (w469)) (w467)) (w465)) (fun w470 =>
  K (Value.bool (false)) (w470)) (w464)) (w460)) (w458)) (fun w471 =>
  K (Value.bool (false)) (w471)) (w457)) (w455)) (w453)) (fun w472 =>
  ld (⟨k448, 0, none⟩) (fun v473 w474 =>
  asStr (v473) (fun s475 w476 =>
  ld (⟨k448, 1, none⟩) (fun v477 w478 =>
  asI (IntKind.i64) (v477) (fun n479 w480 =>
  ld (⟨k448, 2, none⟩) (fun v481 w482 =>
  asSl (v481) (fun p483 k484 k485 w486 =>
  gocall Tryd.prog (16) [(Value.agg #[(Value.string (s475)), (Value.int IntKind.i64 (n479)), (Value.slice p483 (k484) (k485))])] (fun v487 w488 =>
  asT (2) (v487) (fun f489 w490 =>
  asStr (f489 0) (fun s491 w492 =>
  asI (IntKind.i64) (f489 1) (fun n493 w494 =>
  br (n493 == 0) (fun w495 =>
  br (strEq s491 s3) (fun w496 =>
  ld (⟨k448, 0, none⟩) (fun v497 w498 =>
  asStr (v497) (fun s499 w500 =>
  ld (⟨k448, 1, none⟩) (fun v501 w502 =>
  asI (IntKind.i64) (v501) (fun n503 w504 =>
  ld (⟨k448, 2, none⟩) (fun v505 w506 =>
  asSl (v505) (fun p507 k508 k509 w510 =>
  gocall Tryd.prog (18) [(Value.agg #[(Value.string (s499)), (Value.int IntKind.i64 (n503)), (Value.slice p507 (k508) (k509))])] (fun v511 w512 =>
  asBoo (v511) (fun b513 w514 =>
  br (b513) (fun w515 =>
  gocall Tryd.prog (14) [] (fun v516 w517 =>
  asBoo (v516) (fun b518 w519 =>
  K (Value.bool (b518)) (w519)) (w517)) (w515)) (fun w520 =>
  K (Value.bool (false)) (w520)) (w514)) (w512)) (w510)) (w506)) (w504)) (w502)) (w500)) (w498)) (w496)) (fun w521 =>
  K (Value.bool (false)) (w521)) (w495)) (fun w522 =>
  K (Value.bool (false)) (w522)) (w494)) (w492)) (w490)) (w488)) (w486)) (w482)) (w480)) (w478)) (w476)) (w474)) (w472)) (w452)) (w451)) (w450)) (w449)) (w447)) (w445)) (w441)) (w439)) (w437)) (w435)) (w433)) (w431)) (w429)) (w427)) (w425)) (w423)) (w419)) (w417)) (w415)) (w413)) (w411)) (w409)) (w405)) (w403)) (w401)) (w399)) (w397)) (w395)) (w393)) (fun w523 =>
  gocall Tryd.prog (17) [(Value.string (s3))] (fun v524 w525 =>
  asT (2) (v524) (fun f526 w527 =>
  asN (3) (f526 0) (fun f528 w529 =>
  asStr (f528 0) (fun s530 w531 =>
  asI (IntKind.i64) (f528 1) (fun n532 w533 =>
  asSl (f528 2) (fun p534 k535 k536 w537 =>
  asI (IntKind.i64) (f526 1) (fun n538 w539 =>
  nw (Obj.cells #[(Value.string ({ data := #[] })), (Value.int IntKind.i64 (0)), (Value.slice none (0) (0))] 24 (0, 0)) (fun k540 w541 =>
  st (⟨k540, 0, none⟩) (Value.string (s530)) (fun w542 =>
  st (⟨k540, 1, none⟩) (Value.int IntKind.i64 (n532)) (fun w543 =>
  st (⟨k540, 2, none⟩) (Value.slice p534 (k535) (k536)) (fun w544 =>
  br (n538 != 0) (fun w545 =>
  ld (⟨k540, 0, none⟩) (fun v546 w547 =>
  asStr (v546) (fun s548 w549 =>
  br (strEq s548 { data := #[] }) (fun w550 =>
  ld (⟨k540, 2, none⟩) (fun v551 w552 =>
  asSl (v551) (fun p553 k554 k555 w556 =>
  br ((↑k554 : Int) == 0) (fun w557 =>
  gocall Tryd.prog (14) [] (fun v558 w559 =>
  asBoo (v558) (fun b560 w561 =>
  K (Value.bool (b560)) (w561)) (w559)) (w557)) (fun w562 =>
  K (Value.bool (false)) (w562)) (w556)) (w552)) (w550)) (fun w563 =>
  K (Value.bool (false)) (w563)) (w549)) (w547)) (w545)) (fun w564 =>
  ld (⟨k540, 0, none⟩) (fun v565 w566 =>
  asStr (v565) (fun s567 w568 =>
  ld (⟨k540, 1, none⟩) (fun v569 w570 =>
  asI (IntKind.i64) (v569) (fun n571 w572 =>
  ld (⟨k540, 2, none⟩) (fun v573 w574 =>
  asSl (v573) (fun p575 k576 k577 w578 =>
  gocall Tryd.prog (16) [(Value.agg #[(Value.string (s567)), (Value.int IntKind.i64 (n571)), (Value.slice p575 (k576) (k577))])] (fun v579 w580 =>
  asT (2) (v579) (fun f581 w582 =>
  asStr (f581 0) (fun s583 w584 =>
  asI (IntKind.i64) (f581 1) (fun n585 w586 =>
  br (n585 == 0) (fun w587 =>
  br (strEq s583 s3) (fun w588 =>
  ld (⟨k540, 0, none⟩) (fun v589 w590 =>
  asStr (v589) (fun s591 w592 =>
  ld (⟨k540, 1, none⟩) (fun v593 w594 =>
  asI (IntKind.i64) (v593) (fun n595 w596 =>
  ld (⟨k540, 2, none⟩) (fun v597 w598 =>
  asSl (v597) (fun p599 k600 k601 w602 =>
  gocall Tryd.prog (18) [(Value.agg #[(Value.string (s591)), (Value.int IntKind.i64 (n595)), (Value.slice p599 (k600) (k601))])] (fun v603 w604 =>
  asBoo (v603) (fun b605 w606 =>
  br (b605) (fun w607 =>
  gocall Tryd.prog (14) [] (fun v608 w609 =>
  asBoo (v608) (fun b610 w611 =>
  K (Value.bool (b610)) (w611)) (w609)) (w607)) (fun w612 =>
  K (Value.bool (false)) (w612)) (w606)) (w604)) (w602)) (w598)) (w596)) (w594)) (w592)) (w590)) (w588)) (fun w613 =>
  K (Value.bool (false)) (w613)) (w587)) (fun w614 =>
  K (Value.bool (false)) (w614)) (w586)) (w584)) (w582)) (w580)) (w578)) (w574)) (w572)) (w570)) (w568)) (w566)) (w564)) (w544)) (w543)) (w542)) (w541)) (w539)) (w537)) (w533)) (w531)) (w529)) (w527)) (w525)) (w523)) (w392)) (w390)) (w388)) (w386)) (w382)) (w380)) (w378)) (w376)) (w374)) (w372)) (w371)) (w370)) (w369)) (w367)) (w365)) (w361)) (w359)) (w357)) (w355)) (w353)) (w351)) (w349)) (w347)) (w345)) (w343)) (w339)) (w337)) (w335)) (w333)) (w331)) (w329)) (w38)) (w32)) (w26)) (w24)) (w22)) (w18)) (w16)) (w14)) (w12)) (w10)) (w8)) (w)
theorem F3_eq (s0 : ByteArray) (x1 : Int) (a2 : Option Addr) (n2 : Nat) (c2 : Nat) (s3 : ByteArray) (b4 : Bool) : sBody Tryd.prog [] Tryd.f3 [(Value.agg #[(Value.string s0), (Value.int IntKind.i64 x1), (Value.slice a2 n2 c2)]), (Value.string s3), (Value.bool b4)] = F3 s0 x1 a2 n2 c2 s3 b4 := by kernel_rfl
theorem F3_go (s0 : ByteArray) (x1 : Int) (a2 : Option Addr) (n2 : Nat) (c2 : Nat) (s3 : ByteArray) (b4 : Bool) {K : KV} {w : World} (h : F3 s0 x1 a2 n2 c2 s3 b4 K w) : gocall Tryd.prog 3 [(Value.agg #[(Value.string s0), (Value.int IntKind.i64 x1), (Value.slice a2 n2 c2)]), (Value.string s3), (Value.bool b4)] K w :=
  ⟨by kernel_rfl, calls_of_sBody (T := []) mixed Tryd.func3 (by kernel_rfl) (by rw [F3_eq]; exact h)⟩
end Go.Proofs.YtkhmhgleglhcjaaDoor
