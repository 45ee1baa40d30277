/- What law5's OrderBack computes: true, of any two orders and any text. Conditions: none. -/
import Derived.Test.YtiihiaicggmhjaaDoorFOBk
set_option linter.unusedVariables false
set_option maxRecDepth 100000
namespace Go.Proofs.YtiihiaicggmhjaaDoor
open Go Go.Sh

def backTail (s12 : ByteArray) (K : KV) (w407 : World) : Prop :=
  gocall Tryd.prog (25) [(Value.string (s12))] (fun v408 w409 =>
    asT (2) (v408) (fun f410 w411 =>
      asN (6) (f410 0) (fun f412 w413 =>
        asI (IntKind.i64) (f412 0) (fun n414 w415 =>
          asI (IntKind.i64) (f412 1) (fun n416 w417 =>
            asI (IntKind.i64) (f412 2) (fun n418 w419 =>
              asI (IntKind.i64) (f412 3) (fun n420 w421 =>
                asI (IntKind.i64) (f412 4) (fun n422 w423 =>
                  asSl (f412 5) (fun p424 k425 k426 w427 =>
                    asI (IntKind.i64) (f410 1) (fun n428 w429 =>
                      nw (Obj.cells #[(Value.int IntKind.i64 (0)), (Value.int IntKind.i64 (0)), (Value.int IntKind.i64 (0)), (Value.int IntKind.i64 (0)), (Value.int IntKind.i64 (0)), (Value.slice none (0) (0))] 43 (0, 0)) (fun k430 w431 =>
                        st (⟨k430, 0, none⟩) (Value.int IntKind.i64 (n414)) (fun w432 =>
                          st (⟨k430, 1, none⟩) (Value.int IntKind.i64 (n416)) (fun w433 =>
                            st (⟨k430, 2, none⟩) (Value.int IntKind.i64 (n418)) (fun w434 =>
                              st (⟨k430, 3, none⟩) (Value.int IntKind.i64 (n420)) (fun w435 =>
                                st (⟨k430, 4, none⟩) (Value.int IntKind.i64 (n422)) (fun w436 =>
                                  st (⟨k430, 5, none⟩) (Value.slice p424 (k425) (k426)) (fun w437 =>
                                    br (n428 != 0) (fun w438 =>
                                      gocall Tryd.prog (23) [] (fun v439 w440 =>
                                        asBoo (v439) (fun b441 w442 =>
                                          K (Value.bool (b441)) (w442)) (w440)) (w438)) (fun w443 =>
                                      ld (⟨k430, 0, none⟩) (fun v444 w445 =>
                                        asI (IntKind.i64) (v444) (fun n446 w447 =>
                                          ld (⟨k430, 1, none⟩) (fun v448 w449 =>
                                            asI (IntKind.i64) (v448) (fun n450 w451 =>
                                              ld (⟨k430, 2, none⟩) (fun v452 w453 =>
                                                asI (IntKind.i64) (v452) (fun n454 w455 =>
                                                  ld (⟨k430, 3, none⟩) (fun v456 w457 =>
                                                    asI (IntKind.i64) (v456) (fun n458 w459 =>
                                                      ld (⟨k430, 4, none⟩) (fun v460 w461 =>
                                                        asI (IntKind.i64) (v460) (fun n462 w463 =>
                                                          ld (⟨k430, 5, none⟩) (fun v464 w465 =>
                                                            asSl (v464) (fun p466 k467 k468 w469 =>
                                                              gocall Tryd.prog (26) [(Value.agg #[(Value.int IntKind.i64 (n446)), (Value.int IntKind.i64 (n450)), (Value.int IntKind.i64 (n454)), (Value.int IntKind.i64 (n458)), (Value.int IntKind.i64 (n462)), (Value.slice p466 (k467) (k468))])] (fun v470 w471 =>
                                                                asBoo (v470) (fun b472 w473 =>
                                                                  br (b472) (fun w474 =>
                                                                    ld (⟨k430, 0, none⟩) (fun v475 w476 =>
                                                                      asI (IntKind.i64) (v475) (fun n477 w478 =>
                                                                        ld (⟨k430, 1, none⟩) (fun v479 w480 =>
                                                                          asI (IntKind.i64) (v479) (fun n481 w482 =>
                                                                            ld (⟨k430, 2, none⟩) (fun v483 w484 =>
                                                                              asI (IntKind.i64) (v483) (fun n485 w486 =>
                                                                                ld (⟨k430, 3, none⟩) (fun v487 w488 =>
                                                                                  asI (IntKind.i64) (v487) (fun n489 w490 =>
                                                                                    ld (⟨k430, 4, none⟩) (fun v491 w492 =>
                                                                                      asI (IntKind.i64) (v491) (fun n493 w494 =>
                                                                                        ld (⟨k430, 5, none⟩) (fun v495 w496 =>
                                                                                          asSl (v495) (fun p497 k498 k499 w500 =>
                                                                                            gocall Tryd.prog (24) [(Value.agg #[(Value.int IntKind.i64 (n477)), (Value.int IntKind.i64 (n481)), (Value.int IntKind.i64 (n485)), (Value.int IntKind.i64 (n489)), (Value.int IntKind.i64 (n493)), (Value.slice p497 (k498) (k499))])] (fun v501 w502 =>
                                                                                              asStr (v501) (fun s503 w504 =>
                                                                                                br (strEq s503 s12) (fun w505 =>
                                                                                                  gocall Tryd.prog (23) [] (fun v506 w507 =>
                                                                                                    asBoo (v506) (fun b508 w509 =>
                                                                                                      K (Value.bool (b508)) (w509)) (w507)) (w505)) (fun w510 =>
                                                                                                  K (Value.bool (false)) (w510)) (w504)) (w502)) (w500)) (w496)) (w494)) (w492)) (w490)) (w488)) (w486)) (w484)) (w482)) (w480)) (w478)) (w476)) (w474)) (fun w511 =>
                                                                    K (Value.bool (false)) (w511)) (w473)) (w471)) (w469)) (w465)) (w463)) (w461)) (w459)) (w457)) (w455)) (w453)) (w451)) (w449)) (w447)) (w445)) (w443)) (w437)) (w436)) (w435)) (w434)) (w433)) (w432)) (w431)) (w429)) (w427)) (w423)) (w421)) (w419)) (w417)) (w415)) (w413)) (w411)) (w409)) (w407)
def backMid (k17 k19 : Nat) (s127 s12 : ByteArray) (K : KV) (w251 : World) : Prop :=
  keeps (fun S252 w253 =>
    ldS (S252) (⟨k17, 0, none⟩) (fun v254 w255 =>
      asI (IntKind.i64) (v254) (fun n256 w257 =>
        ldS (S252) (⟨k17, 1, none⟩) (fun v258 w259 =>
          asI (IntKind.i64) (v258) (fun n260 w261 =>
            ldS (S252) (⟨k17, 2, none⟩) (fun v262 w263 =>
              asI (IntKind.i64) (v262) (fun n264 w265 =>
                ldS (S252) (⟨k17, 3, none⟩) (fun v266 w267 =>
                  asI (IntKind.i64) (v266) (fun n268 w269 =>
                    ldS (S252) (⟨k17, 4, none⟩) (fun v270 w271 =>
                      asI (IntKind.i64) (v270) (fun n272 w273 =>
                        ldS (S252) (⟨k17, 5, none⟩) (fun v274 w275 =>
                          asSl (v274) (fun p276 k277 k278 w279 =>
                            gocall Tryd.prog (26) [(Value.agg #[(Value.int IntKind.i64 (n256)), (Value.int IntKind.i64 (n260)), (Value.int IntKind.i64 (n264)), (Value.int IntKind.i64 (n268)), (Value.int IntKind.i64 (n272)), (Value.slice p276 (k277) (k278))])] (fun v280 w281 =>
                              asBoo (v280) (fun b282 w283 =>
                                kp (S252) (fun w284 =>
                                  br (b282) (fun w285 =>
                                    ldS (S252) (⟨k19, 0, none⟩) (fun v286 w287 =>
                                      asI (IntKind.i64) (v286) (fun n288 w289 =>
                                        ldS (S252) (⟨k19, 1, none⟩) (fun v290 w291 =>
                                          asI (IntKind.i64) (v290) (fun n292 w293 =>
                                            ldS (S252) (⟨k19, 2, none⟩) (fun v294 w295 =>
                                              asI (IntKind.i64) (v294) (fun n296 w297 =>
                                                ldS (S252) (⟨k19, 3, none⟩) (fun v298 w299 =>
                                                  asI (IntKind.i64) (v298) (fun n300 w301 =>
                                                    ldS (S252) (⟨k19, 4, none⟩) (fun v302 w303 =>
                                                      asI (IntKind.i64) (v302) (fun n304 w305 =>
                                                        ldS (S252) (⟨k19, 5, none⟩) (fun v306 w307 =>
                                                          asSl (v306) (fun p308 k309 k310 w311 =>
                                                            gocall Tryd.prog (26) [(Value.agg #[(Value.int IntKind.i64 (n288)), (Value.int IntKind.i64 (n292)), (Value.int IntKind.i64 (n296)), (Value.int IntKind.i64 (n300)), (Value.int IntKind.i64 (n304)), (Value.slice p308 (k309) (k310))])] (fun v312 w313 =>
                                                              asBoo (v312) (fun b314 w315 =>
                                                                kp (S252) (fun w316 =>
                                                                  br (b314) (fun w317 =>
                                                                    ldS (S252) (⟨k19, 0, none⟩) (fun v318 w319 =>
                                                                      asI (IntKind.i64) (v318) (fun n320 w321 =>
                                                                        ldS (S252) (⟨k19, 1, none⟩) (fun v322 w323 =>
                                                                          asI (IntKind.i64) (v322) (fun n324 w325 =>
                                                                            ldS (S252) (⟨k19, 2, none⟩) (fun v326 w327 =>
                                                                              asI (IntKind.i64) (v326) (fun n328 w329 =>
                                                                                ldS (S252) (⟨k19, 3, none⟩) (fun v330 w331 =>
                                                                                  asI (IntKind.i64) (v330) (fun n332 w333 =>
                                                                                    ldS (S252) (⟨k19, 4, none⟩) (fun v334 w335 =>
                                                                                      asI (IntKind.i64) (v334) (fun n336 w337 =>
                                                                                        ldS (S252) (⟨k19, 5, none⟩) (fun v338 w339 =>
                                                                                          asSl (v338) (fun p340 k341 k342 w343 =>
                                                                                            ldS (S252) (⟨k17, 0, none⟩) (fun v344 w345 =>
                                                                                              asI (IntKind.i64) (v344) (fun n346 w347 =>
                                                                                                ldS (S252) (⟨k17, 1, none⟩) (fun v348 w349 =>
                                                                                                  asI (IntKind.i64) (v348) (fun n350 w351 =>
                                                                                                    ldS (S252) (⟨k17, 2, none⟩) (fun v352 w353 =>
                                                                                                      asI (IntKind.i64) (v352) (fun n354 w355 =>
                                                                                                        ldS (S252) (⟨k17, 3, none⟩) (fun v356 w357 =>
                                                                                                          asI (IntKind.i64) (v356) (fun n358 w359 =>
                                                                                                            ldS (S252) (⟨k17, 4, none⟩) (fun v360 w361 =>
                                                                                                              asI (IntKind.i64) (v360) (fun n362 w363 =>
                                                                                                                ldS (S252) (⟨k17, 5, none⟩) (fun v364 w365 =>
                                                                                                                  asSl (v364) (fun p366 k367 k368 w369 =>
                                                                                                                    ldS (S252) (⟨k19, 0, none⟩) (fun v370 w371 =>
                                                                                                                      asI (IntKind.i64) (v370) (fun n372 w373 =>
                                                                                                                        ldS (S252) (⟨k19, 1, none⟩) (fun v374 w375 =>
                                                                                                                          asI (IntKind.i64) (v374) (fun n376 w377 =>
                                                                                                                            ldS (S252) (⟨k19, 2, none⟩) (fun v378 w379 =>
                                                                                                                              asI (IntKind.i64) (v378) (fun n380 w381 =>
                                                                                                                                ldS (S252) (⟨k19, 3, none⟩) (fun v382 w383 =>
                                                                                                                                  asI (IntKind.i64) (v382) (fun n384 w385 =>
                                                                                                                                    ldS (S252) (⟨k19, 4, none⟩) (fun v386 w387 =>
                                                                                                                                      asI (IntKind.i64) (v386) (fun n388 w389 =>
                                                                                                                                        ldS (S252) (⟨k19, 5, none⟩) (fun v390 w391 =>
                                                                                                                                          asSl (v390) (fun p392 k393 k394 w395 =>
                                                                                                                                            gocall Tryd.prog (24) [(Value.agg #[(Value.int IntKind.i64 (n320)), (Value.int IntKind.i64 (n324)), (Value.int IntKind.i64 (n328)), (Value.int IntKind.i64 (n332)), (Value.int IntKind.i64 (n336)), (Value.slice p340 (k341) (k342))])] (fun v396 w397 =>
                                                                                                                                              asStr (v396) (fun s398 w399 =>
                                                                                                                                                kp (S252) (fun w400 =>
                                                                                                                                                  gocall Tryd.prog (28) [(Value.agg #[(Value.int IntKind.i64 (n346)), (Value.int IntKind.i64 (n350)), (Value.int IntKind.i64 (n354)), (Value.int IntKind.i64 (n358)), (Value.int IntKind.i64 (n362)), (Value.slice p366 (k367) (k368))]), (Value.agg #[(Value.int IntKind.i64 (n372)), (Value.int IntKind.i64 (n376)), (Value.int IntKind.i64 (n380)), (Value.int IntKind.i64 (n384)), (Value.int IntKind.i64 (n388)), (Value.slice p392 (k393) (k394))])] (fun v401 w402 =>
                                                                                                                                                    asBoo (v401) (fun b403 w404 =>
                                                                                                                                                      kp (S252) (fun w405 =>
                                                                                                                                                        br (!(if false = true then !strEq s127 s398 else strEq s127 s398) == b403) (fun w406 =>
                                                                                                                                                          K (Value.bool (false)) (w406)) (fun w407 =>
                                                                                                                                                          gocall Tryd.prog (25) [(Value.string (s12))] (fun v408 w409 =>
                                                                                                                                                            asT (2) (v408) (fun f410 w411 =>
                                                                                                                                                              asN (6) (f410 0) (fun f412 w413 =>
                                                                                                                                                                asI (IntKind.i64) (f412 0) (fun n414 w415 =>
                                                                                                                                                                  asI (IntKind.i64) (f412 1) (fun n416 w417 =>
                                                                                                                                                                    asI (IntKind.i64) (f412 2) (fun n418 w419 =>
                                                                                                                                                                      asI (IntKind.i64) (f412 3) (fun n420 w421 =>
                                                                                                                                                                        asI (IntKind.i64) (f412 4) (fun n422 w423 =>
                                                                                                                                                                          asSl (f412 5) (fun p424 k425 k426 w427 =>
                                                                                                                                                                            asI (IntKind.i64) (f410 1) (fun n428 w429 =>
                                                                                                                                                                              nw (Obj.cells #[(Value.int IntKind.i64 (0)), (Value.int IntKind.i64 (0)), (Value.int IntKind.i64 (0)), (Value.int IntKind.i64 (0)), (Value.int IntKind.i64 (0)), (Value.slice none (0) (0))] 43 (0, 0)) (fun k430 w431 =>
                                                                                                                                                                                st (⟨k430, 0, none⟩) (Value.int IntKind.i64 (n414)) (fun w432 =>
                                                                                                                                                                                  st (⟨k430, 1, none⟩) (Value.int IntKind.i64 (n416)) (fun w433 =>
                                                                                                                                                                                    st (⟨k430, 2, none⟩) (Value.int IntKind.i64 (n418)) (fun w434 =>
                                                                                                                                                                                      st (⟨k430, 3, none⟩) (Value.int IntKind.i64 (n420)) (fun w435 =>
                                                                                                                                                                                        st (⟨k430, 4, none⟩) (Value.int IntKind.i64 (n422)) (fun w436 =>
                                                                                                                                                                                          st (⟨k430, 5, none⟩) (Value.slice p424 (k425) (k426)) (fun w437 =>
                                                                                                                                                                                            br (n428 != 0) (fun w438 =>
                                                                                                                                                                                              gocall Tryd.prog (23) [] (fun v439 w440 =>
                                                                                                                                                                                                asBoo (v439) (fun b441 w442 =>
                                                                                                                                                                                                  K (Value.bool (b441)) (w442)) (w440)) (w438)) (fun w443 =>
                                                                                                                                                                                              ld (⟨k430, 0, none⟩) (fun v444 w445 =>
                                                                                                                                                                                                asI (IntKind.i64) (v444) (fun n446 w447 =>
                                                                                                                                                                                                  ld (⟨k430, 1, none⟩) (fun v448 w449 =>
                                                                                                                                                                                                    asI (IntKind.i64) (v448) (fun n450 w451 =>
                                                                                                                                                                                                      ld (⟨k430, 2, none⟩) (fun v452 w453 =>
                                                                                                                                                                                                        asI (IntKind.i64) (v452) (fun n454 w455 =>
                                                                                                                                                                                                          ld (⟨k430, 3, none⟩) (fun v456 w457 =>
                                                                                                                                                                                                            asI (IntKind.i64) (v456) (fun n458 w459 =>
                                                                                                                                                                                                              ld (⟨k430, 4, none⟩) (fun v460 w461 =>
                                                                                                                                                                                                                asI (IntKind.i64) (v460) (fun n462 w463 =>
                                                                                                                                                                                                                  ld (⟨k430, 5, none⟩) (fun v464 w465 =>
                                                                                                                                                                                                                    asSl (v464) (fun p466 k467 k468 w469 =>
                                                                                                                                                                                                                      gocall Tryd.prog (26) [(Value.agg #[(Value.int IntKind.i64 (n446)), (Value.int IntKind.i64 (n450)), (Value.int IntKind.i64 (n454)), (Value.int IntKind.i64 (n458)), (Value.int IntKind.i64 (n462)), (Value.slice p466 (k467) (k468))])] (fun v470 w471 =>
                                                                                                                                                                                                                        asBoo (v470) (fun b472 w473 =>
                                                                                                                                                                                                                          br (b472) (fun w474 =>
                                                                                                                                                                                                                            ld (⟨k430, 0, none⟩) (fun v475 w476 =>
                                                                                                                                                                                                                              asI (IntKind.i64) (v475) (fun n477 w478 =>
                                                                                                                                                                                                                                ld (⟨k430, 1, none⟩) (fun v479 w480 =>
                                                                                                                                                                                                                                  asI (IntKind.i64) (v479) (fun n481 w482 =>
                                                                                                                                                                                                                                    ld (⟨k430, 2, none⟩) (fun v483 w484 =>
                                                                                                                                                                                                                                      asI (IntKind.i64) (v483) (fun n485 w486 =>
                                                                                                                                                                                                                                        ld (⟨k430, 3, none⟩) (fun v487 w488 =>
                                                                                                                                                                                                                                          asI (IntKind.i64) (v487) (fun n489 w490 =>
                                                                                                                                                                                                                                            ld (⟨k430, 4, none⟩) (fun v491 w492 =>
                                                                                                                                                                                                                                              asI (IntKind.i64) (v491) (fun n493 w494 =>
                                                                                                                                                                                                                                                ld (⟨k430, 5, none⟩) (fun v495 w496 =>
                                                                                                                                                                                                                                                  asSl (v495) (fun p497 k498 k499 w500 =>
                                                                                                                                                                                                                                                    gocall Tryd.prog (24) [(Value.agg #[(Value.int IntKind.i64 (n477)), (Value.int IntKind.i64 (n481)), (Value.int IntKind.i64 (n485)), (Value.int IntKind.i64 (n489)), (Value.int IntKind.i64 (n493)), (Value.slice p497 (k498) (k499))])] (fun v501 w502 =>
                                                                                                                                                                                                                                                      asStr (v501) (fun s503 w504 =>
                                                                                                                                                                                                                                                        br (strEq s503 s12) (fun w505 =>
                                                                                                                                                                                                                                                          gocall Tryd.prog (23) [] (fun v506 w507 =>
                                                                                                                                                                                                                                                            asBoo (v506) (fun b508 w509 =>
                                                                                                                                                                                                                                                              K (Value.bool (b508)) (w509)) (w507)) (w505)) (fun w510 =>
                                                                                                                                                                                                                                                          K (Value.bool (false)) (w510)) (w504)) (w502)) (w500)) (w496)) (w494)) (w492)) (w490)) (w488)) (w486)) (w484)) (w482)) (w480)) (w478)) (w476)) (w474)) (fun w511 =>
                                                                                                                                                                                                                            K (Value.bool (false)) (w511)) (w473)) (w471)) (w469)) (w465)) (w463)) (w461)) (w459)) (w457)) (w455)) (w453)) (w451)) (w449)) (w447)) (w445)) (w443)) (w437)) (w436)) (w435)) (w434)) (w433)) (w432)) (w431)) (w429)) (w427)) (w423)) (w421)) (w419)) (w417)) (w415)) (w413)) (w411)) (w409)) (w407)) (w405)) (w404)) (w402)) (w400)) (w399)) (w397)) (w395)) (w391)) (w389)) (w387)) (w385)) (w383)) (w381)) (w379)) (w377)) (w375)) (w373)) (w371)) (w369)) (w365)) (w363)) (w361)) (w359)) (w357)) (w355)) (w353)) (w351)) (w349)) (w347)) (w345)) (w343)) (w339)) (w337)) (w335)) (w333)) (w331)) (w329)) (w327)) (w325)) (w323)) (w321)) (w319)) (w317)) (fun w512 =>
                                                                    gocall Tryd.prog (25) [(Value.string (s12))] (fun v513 w514 =>
                                                                      asT (2) (v513) (fun f515 w516 =>
                                                                        asN (6) (f515 0) (fun f517 w518 =>
                                                                          asI (IntKind.i64) (f517 0) (fun n519 w520 =>
                                                                            asI (IntKind.i64) (f517 1) (fun n521 w522 =>
                                                                              asI (IntKind.i64) (f517 2) (fun n523 w524 =>
                                                                                asI (IntKind.i64) (f517 3) (fun n525 w526 =>
                                                                                  asI (IntKind.i64) (f517 4) (fun n527 w528 =>
                                                                                    asSl (f517 5) (fun p529 k530 k531 w532 =>
                                                                                      asI (IntKind.i64) (f515 1) (fun n533 w534 =>
                                                                                        nw (Obj.cells #[(Value.int IntKind.i64 (0)), (Value.int IntKind.i64 (0)), (Value.int IntKind.i64 (0)), (Value.int IntKind.i64 (0)), (Value.int IntKind.i64 (0)), (Value.slice none (0) (0))] 43 (0, 0)) (fun k535 w536 =>
                                                                                          st (⟨k535, 0, none⟩) (Value.int IntKind.i64 (n519)) (fun w537 =>
                                                                                            st (⟨k535, 1, none⟩) (Value.int IntKind.i64 (n521)) (fun w538 =>
                                                                                              st (⟨k535, 2, none⟩) (Value.int IntKind.i64 (n523)) (fun w539 =>
                                                                                                st (⟨k535, 3, none⟩) (Value.int IntKind.i64 (n525)) (fun w540 =>
                                                                                                  st (⟨k535, 4, none⟩) (Value.int IntKind.i64 (n527)) (fun w541 =>
                                                                                                    st (⟨k535, 5, none⟩) (Value.slice p529 (k530) (k531)) (fun w542 =>
                                                                                                      br (n533 != 0) (fun w543 =>
                                                                                                        gocall Tryd.prog (23) [] (fun v544 w545 =>
                                                                                                          asBoo (v544) (fun b546 w547 =>
                                                                                                            K (Value.bool (b546)) (w547)) (w545)) (w543)) (fun w548 =>
                                                                                                        ld (⟨k535, 0, none⟩) (fun v549 w550 =>
                                                                                                          asI (IntKind.i64) (v549) (fun n551 w552 =>
                                                                                                            ld (⟨k535, 1, none⟩) (fun v553 w554 =>
                                                                                                              asI (IntKind.i64) (v553) (fun n555 w556 =>
                                                                                                                ld (⟨k535, 2, none⟩) (fun v557 w558 =>
                                                                                                                  asI (IntKind.i64) (v557) (fun n559 w560 =>
                                                                                                                    ld (⟨k535, 3, none⟩) (fun v561 w562 =>
                                                                                                                      asI (IntKind.i64) (v561) (fun n563 w564 =>
                                                                                                                        ld (⟨k535, 4, none⟩) (fun v565 w566 =>
                                                                                                                          asI (IntKind.i64) (v565) (fun n567 w568 =>
                                                                                                                            ld (⟨k535, 5, none⟩) (fun v569 w570 =>
                                                                                                                              asSl (v569) (fun p571 k572 k573 w574 =>
                                                                                                                                gocall Tryd.prog (26) [(Value.agg #[(Value.int IntKind.i64 (n551)), (Value.int IntKind.i64 (n555)), (Value.int IntKind.i64 (n559)), (Value.int IntKind.i64 (n563)), (Value.int IntKind.i64 (n567)), (Value.slice p571 (k572) (k573))])] (fun v575 w576 =>
                                                                                                                                  asBoo (v575) (fun b577 w578 =>
                                                                                                                                    br (b577) (fun w579 =>
                                                                                                                                      ld (⟨k535, 0, none⟩) (fun v580 w581 =>
                                                                                                                                        asI (IntKind.i64) (v580) (fun n582 w583 =>
                                                                                                                                          ld (⟨k535, 1, none⟩) (fun v584 w585 =>
                                                                                                                                            asI (IntKind.i64) (v584) (fun n586 w587 =>
                                                                                                                                              ld (⟨k535, 2, none⟩) (fun v588 w589 =>
                                                                                                                                                asI (IntKind.i64) (v588) (fun n590 w591 =>
                                                                                                                                                  ld (⟨k535, 3, none⟩) (fun v592 w593 =>
                                                                                                                                                    asI (IntKind.i64) (v592) (fun n594 w595 =>
                                                                                                                                                      ld (⟨k535, 4, none⟩) (fun v596 w597 =>
                                                                                                                                                        asI (IntKind.i64) (v596) (fun n598 w599 =>
                                                                                                                                                          ld (⟨k535, 5, none⟩) (fun v600 w601 =>
                                                                                                                                                            asSl (v600) (fun p602 k603 k604 w605 =>
                                                                                                                                                              gocall Tryd.prog (24) [(Value.agg #[(Value.int IntKind.i64 (n582)), (Value.int IntKind.i64 (n586)), (Value.int IntKind.i64 (n590)), (Value.int IntKind.i64 (n594)), (Value.int IntKind.i64 (n598)), (Value.slice p602 (k603) (k604))])] (fun v606 w607 =>
                                                                                                                                                                asStr (v606) (fun s608 w609 =>
                                                                                                                                                                  br (strEq s608 s12) (fun w610 =>
                                                                                                                                                                    gocall Tryd.prog (23) [] (fun v611 w612 =>
                                                                                                                                                                      asBoo (v611) (fun b613 w614 =>
                                                                                                                                                                        K (Value.bool (b613)) (w614)) (w612)) (w610)) (fun w615 =>
                                                                                                                                                                    K (Value.bool (false)) (w615)) (w609)) (w607)) (w605)) (w601)) (w599)) (w597)) (w595)) (w593)) (w591)) (w589)) (w587)) (w585)) (w583)) (w581)) (w579)) (fun w616 =>
                                                                                                                                      K (Value.bool (false)) (w616)) (w578)) (w576)) (w574)) (w570)) (w568)) (w566)) (w564)) (w562)) (w560)) (w558)) (w556)) (w554)) (w552)) (w550)) (w548)) (w542)) (w541)) (w540)) (w539)) (w538)) (w537)) (w536)) (w534)) (w532)) (w528)) (w526)) (w524)) (w522)) (w520)) (w518)) (w516)) (w514)) (w512)) (w316)) (w315)) (w313)) (w311)) (w307)) (w305)) (w303)) (w301)) (w299)) (w297)) (w295)) (w293)) (w291)) (w289)) (w287)) (w285)) (fun w617 =>
                                    gocall Tryd.prog (25) [(Value.string (s12))] (fun v618 w619 =>
                                      asT (2) (v618) (fun f620 w621 =>
                                        asN (6) (f620 0) (fun f622 w623 =>
                                          asI (IntKind.i64) (f622 0) (fun n624 w625 =>
                                            asI (IntKind.i64) (f622 1) (fun n626 w627 =>
                                              asI (IntKind.i64) (f622 2) (fun n628 w629 =>
                                                asI (IntKind.i64) (f622 3) (fun n630 w631 =>
                                                  asI (IntKind.i64) (f622 4) (fun n632 w633 =>
                                                    asSl (f622 5) (fun p634 k635 k636 w637 =>
                                                      asI (IntKind.i64) (f620 1) (fun n638 w639 =>
                                                        nw (Obj.cells #[(Value.int IntKind.i64 (0)), (Value.int IntKind.i64 (0)), (Value.int IntKind.i64 (0)), (Value.int IntKind.i64 (0)), (Value.int IntKind.i64 (0)), (Value.slice none (0) (0))] 43 (0, 0)) (fun k640 w641 =>
                                                          st (⟨k640, 0, none⟩) (Value.int IntKind.i64 (n624)) (fun w642 =>
                                                            st (⟨k640, 1, none⟩) (Value.int IntKind.i64 (n626)) (fun w643 =>
                                                              st (⟨k640, 2, none⟩) (Value.int IntKind.i64 (n628)) (fun w644 =>
                                                                st (⟨k640, 3, none⟩) (Value.int IntKind.i64 (n630)) (fun w645 =>
                                                                  st (⟨k640, 4, none⟩) (Value.int IntKind.i64 (n632)) (fun w646 =>
                                                                    st (⟨k640, 5, none⟩) (Value.slice p634 (k635) (k636)) (fun w647 =>
                                                                      br (n638 != 0) (fun w648 =>
                                                                        gocall Tryd.prog (23) [] (fun v649 w650 =>
                                                                          asBoo (v649) (fun b651 w652 =>
                                                                            K (Value.bool (b651)) (w652)) (w650)) (w648)) (fun w653 =>
                                                                        ld (⟨k640, 0, none⟩) (fun v654 w655 =>
                                                                          asI (IntKind.i64) (v654) (fun n656 w657 =>
                                                                            ld (⟨k640, 1, none⟩) (fun v658 w659 =>
                                                                              asI (IntKind.i64) (v658) (fun n660 w661 =>
                                                                                ld (⟨k640, 2, none⟩) (fun v662 w663 =>
                                                                                  asI (IntKind.i64) (v662) (fun n664 w665 =>
                                                                                    ld (⟨k640, 3, none⟩) (fun v666 w667 =>
                                                                                      asI (IntKind.i64) (v666) (fun n668 w669 =>
                                                                                        ld (⟨k640, 4, none⟩) (fun v670 w671 =>
                                                                                          asI (IntKind.i64) (v670) (fun n672 w673 =>
                                                                                            ld (⟨k640, 5, none⟩) (fun v674 w675 =>
                                                                                              asSl (v674) (fun p676 k677 k678 w679 =>
                                                                                                gocall Tryd.prog (26) [(Value.agg #[(Value.int IntKind.i64 (n656)), (Value.int IntKind.i64 (n660)), (Value.int IntKind.i64 (n664)), (Value.int IntKind.i64 (n668)), (Value.int IntKind.i64 (n672)), (Value.slice p676 (k677) (k678))])] (fun v680 w681 =>
                                                                                                  asBoo (v680) (fun b682 w683 =>
                                                                                                    br (b682) (fun w684 =>
                                                                                                      ld (⟨k640, 0, none⟩) (fun v685 w686 =>
                                                                                                        asI (IntKind.i64) (v685) (fun n687 w688 =>
                                                                                                          ld (⟨k640, 1, none⟩) (fun v689 w690 =>
                                                                                                            asI (IntKind.i64) (v689) (fun n691 w692 =>
                                                                                                              ld (⟨k640, 2, none⟩) (fun v693 w694 =>
                                                                                                                asI (IntKind.i64) (v693) (fun n695 w696 =>
                                                                                                                  ld (⟨k640, 3, none⟩) (fun v697 w698 =>
                                                                                                                    asI (IntKind.i64) (v697) (fun n699 w700 =>
                                                                                                                      ld (⟨k640, 4, none⟩) (fun v701 w702 =>
                                                                                                                        asI (IntKind.i64) (v701) (fun n703 w704 =>
                                                                                                                          ld (⟨k640, 5, none⟩) (fun v705 w706 =>
                                                                                                                            asSl (v705) (fun p707 k708 k709 w710 =>
                                                                                                                              gocall Tryd.prog (24) [(Value.agg #[(Value.int IntKind.i64 (n687)), (Value.int IntKind.i64 (n691)), (Value.int IntKind.i64 (n695)), (Value.int IntKind.i64 (n699)), (Value.int IntKind.i64 (n703)), (Value.slice p707 (k708) (k709))])] (fun v711 w712 =>
                                                                                                                                asStr (v711) (fun s713 w714 =>
                                                                                                                                  br (strEq s713 s12) (fun w715 =>
                                                                                                                                    gocall Tryd.prog (23) [] (fun v716 w717 =>
                                                                                                                                      asBoo (v716) (fun b718 w719 =>
                                                                                                                                        K (Value.bool (b718)) (w719)) (w717)) (w715)) (fun w720 =>
                                                                                                                                    K (Value.bool (false)) (w720)) (w714)) (w712)) (w710)) (w706)) (w704)) (w702)) (w700)) (w698)) (w696)) (w694)) (w692)) (w690)) (w688)) (w686)) (w684)) (fun w721 =>
                                                                                                      K (Value.bool (false)) (w721)) (w683)) (w681)) (w679)) (w675)) (w673)) (w671)) (w669)) (w667)) (w665)) (w663)) (w661)) (w659)) (w657)) (w655)) (w653)) (w647)) (w646)) (w645)) (w644)) (w643)) (w642)) (w641)) (w639)) (w637)) (w633)) (w631)) (w629)) (w627)) (w625)) (w623)) (w621)) (w619)) (w617)) (w284)) (w283)) (w281)) (w279)) (w275)) (w273)) (w271)) (w269)) (w267)) (w265)) (w263)) (w261)) (w259)) (w257)) (w255)) (w253)) (w251.drew)
theorem backTail_c {w0 w : World} {hs : List Hp} {K : KV} {s : List UInt8} (E : Errs w0) (T : Tab w0) (hl : s.length ≤ 100000) (H : Holds w0 hs w) (k : ∀ w', Holds w0 hs w' → K (.bool true) w') : backTail (B s) K w := by
  unfold backTail
  refine Parse_c E T H hl (fun r w ok H => ?_)
  refine res_h (o := (parseO s).getD Od.zero) ?_
  refine nw6_h H (fun k3 w H => ?_)
  cases hp : parseO s with
  | none =>
    refine br_t rfl ?_
    refine awake5_c E T H (fun w H => ?_)
    refine asBoo_h ?_
    exact k _ H.tail.tail
  | some q =>
    rw [hp] at ok H
    simp only [Option.getD_some] at ok H
    have hm := (parseO_some hp).1
    have hl3 := (mayOd_fit hm).2
    refine br_f rfl ?_
    apply ld6_h 0 H rfl
    refine mayO_c (l := q.steps) H (Sl.row 1 rfl ok) (by omega) (fun w H => ?_)
    refine asBoo_h ?_
    refine br_t hm ?_
    apply ld6_h 0 H rfl
    refine Text_c (o := q) T H (Sl.row 1 rfl ok) (by omega) (fun w H => ?_)
    refine asStr_h ?_
    refine br_t (by rw [strEq_B, parseO_odTx hp]; simp) ?_
    refine awake5_c E T H (fun w H => ?_)
    refine asBoo_h ?_
    exact k _ H.tail.tail
theorem odTx_inj {a b : Od} (ha : mayOd a = true) (hb : mayOd b = true) : decide (odTx a = odTx b) = sameOd a b := by
  by_cases h : a = b
  · subst h; rw [sameOd_iff.2 rfl]; simp
  · have h1 : sameOd a b = false := by cases e : sameOd a b with | false => rfl | true => exact absurd (sameOd_iff.1 e) h
    rw [h1, decide_eq_false_iff_not]
    intro e
    have e1 := parseO_text ha
    have e2 := parseO_text hb
    have t1 : odTx a = odT a := by rw [odTx, if_pos ha]
    have t2 : odTx b = odT b := by rw [odTx, if_pos hb]
    rw [← t1, e, t2, e2] at e1
    exact h (Option.some.inj e1).symm
theorem backMid_c {w0 w : World} {hs : List Hp} {K : KV} {a b : Od} {s : List UInt8} {p q : Option Addr} {n n' c c' k17 k19 : Nat} (E : Errs w0) (T : Tab w0) (hl : s.length ≤ 100000) (i j : Nat) (H : Holds w0 hs w)
    (hi : hs[i]? = some (odHp k17 a (.slice p n c))) (hj : hs[j]? = some (odHp k19 b (.slice q n' c'))) (hsl : Sl (Holds w0 hs) p n 2 (sps a.steps)) (hsm : Sl (Holds w0 hs) q n' 2 (sps b.steps)) (hla : a.steps.length ≤ 20) (hlb : b.steps.length ≤ 20)
    (k : ∀ w', Holds w0 hs w' → K (.bool true) w') : backMid k17 k19 (B (odTx a)) (B s) K w := by
  unfold backMid
  replace H := H.drew
  refine keeps_h H ?_
  apply ldS6_h i hi
  refine mayO_c (l := a.steps) H hsl (by omega) (fun w H => ?_)
  refine asBoo_h ?_
  refine kp_h H ?_
  refine br_s (fun h1 => ?_) (fun h1 => backTail_c E T hl H k)
  apply ldS6_h j hj
  refine mayO_c (l := b.steps) H hsm (by omega) (fun w H => ?_)
  refine asBoo_h ?_
  refine kp_h H ?_
  refine br_s (fun h2 => ?_) (fun h2 => backTail_c E T hl H k)
  apply ldS6_h j hj
  apply ldS6_h i hi
  apply ldS6_h j hj
  refine Text_c (o := b) T H hsm (by omega) (fun w H => ?_)
  refine asStr_h ?_
  refine kp_h H ?_
  refine Same_c (a := a) (b := b) H hsl hsm (by omega) (fun w H => ?_)
  refine asBoo_h ?_
  refine kp_h H ?_
  refine br_f ?_ (backTail_c E T hl H k)
  have e : strEq (B (odTx a)) (B (odTx b)) = sameOd a b := (strEq_B _ _).trans (odTx_inj h1 h2)
  simp only [Bool.false_eq_true, if_false, e]
  cases sameOd a b <;> rfl
theorem Back_c {w0 w : World} {hs : List Hp} {K : KV} {a b : Od} {s12 : ByteArray} {p q : Option Addr} {n n' c c' : Nat} (E : Errs w0) (T : Tab w0) (H : Holds w0 hs w) (hsl : Sl (Holds w0 hs) p n 2 (sps a.steps)) (hsm : Sl (Holds w0 hs) q n' 2 (sps b.steps))
    (k : ∀ w', Holds w0 hs w' → K (.bool true) w') : gocall Tryd.prog 7 [odV a (.slice p n c), odV b (.slice q n' c'), .string s12] K w := by
  have hn : n = a.steps.length := by have := hsl.len; rw [sps, flat_len Sp.len] at this; omega
  have hn' : n' = b.steps.length := by have := hsm.len; rw [sps, flat_len Sp.len] at this; omega
  obtain ⟨s, rfl⟩ : ∃ s, s12 = B s := ⟨_, (B_data s12).symm⟩
  apply F7_go; unfold F7
  refine nwO_h H (fun k17 w H => ?_)
  refine nwO_h H (fun k19 w H => ?_)
  have aw : ∀ {w}, Holds w0 (odHp k19 ⟨b.id, b.item, b.qty, b.client, b.price, []⟩ (.slice q n' c') :: odHp k17 ⟨a.id, a.item, a.qty, a.client, a.price, []⟩ (.slice p n c) :: hs) w → gocall Tryd.prog 23 [] (fun v52 w53 => asBoo (v52) (fun b54 w55 => K (Value.bool (b54)) (w55)) (w53)) w := by
    intro w H
    refine awake5_c E T H (fun w H => ?_)
    refine asBoo_h ?_
    exact k _ H.tail.tail
  apply ld6_h 1 H rfl
  refine light_c (o := a) H (fun w H => ?_)
  refine asBoo_h ?_
  refine br_s (fun h1 => aw H) (fun h1 => ?_)
  apply ld6_h 0 H rfl
  refine light_c (o := b) H (fun w H => ?_)
  refine asBoo_h ?_
  refine br_s (fun h2 => aw H) (fun h2 => ?_)
  refine br_s (fun h3 => aw H) (fun h3 => ?_)
  have hla : a.steps.length ≤ 20 := by simp at h1; omega
  have hlb : b.steps.length ≤ 20 := by simp at h2; omega
  have hls : s.length ≤ 300 := by rw [B_size] at h3; simp at h3; omega
  apply ld6_h 1 H rfl
  refine Text_c (o := a) T H (hsl.mono fun w H => H.tail.tail) (by omega) (fun w H => ?_)
  refine asStr_h ?_
  have hlt : (odTx a).length ≤ 100000 := by
    unfold odTx
    split
    · rename_i hm
      obtain ⟨⟨f1, f2, f3, f4, f5, f6, f7⟩, hl3⟩ := mayOd_fit hm
      have g1 := itoa_len f1
      have g2 := itoa_len f2
      have g3 := itoa_len f3
      have g4 := itoa_len f4
      have g5 := itoa_len f5
      have g6 := spsT_len a.steps f7
      simp only [odT, lHash, lColon, lX, lFor, lBy, List.length_append, List.length_cons, List.length_nil]
      omega
    · simp
  refine Parse_c (s := odTx a) E T H hlt (fun r w ok H => ?_)
  refine res_h (o := (parseO (odTx a)).getD Od.zero) ?_
  refine nw6_h H (fun k151 w H => ?_)
  apply ld6_h 3 H rfl
  refine mayO_c (l := a.steps) H (hsl.mono fun w H => H.tail.tail.tail.tail) (by omega) (fun w H => ?_)
  refine asBoo_h ?_
  have em : mayO a.id a.item a.qty a.client a.price a.steps = mayOd a := rfl
  simp only [if_true]
  have e0 : strEq (B (odTx a)) { data := #[] } = !mayOd a := by
    refine (strEq_B (odTx a) []).trans ?_
    unfold odTx
    cases h : mayOd a with
    | true => simp [odT, lHash]
    | false => simp
  rw [e0]
  cases hm : mayOd a with
  | false =>
    have et : odTx a = [] := by simp [odTx, hm]
    have ep : parseO (odTx a) = none := by rw [et]; exact parseO_nil
    rw [ep] at H ⊢
    refine br_f (by rw [em, hm]; rfl) ?_
    refine br_f rfl ?_
    refine br_f rfl ?_
    exact backMid_c (a := a) (b := b) (c := c) (c' := c') E T (by omega) 3 2 H rfl rfl (hsl.mono fun w H => H.tail.tail.tail.tail) (hsm.mono fun w H => H.tail.tail.tail.tail) hla hlb (fun w' H => k w' H.tail.tail.tail.tail)
  | true =>
    have et : odTx a = odT a := by rw [odTx, if_pos hm]
    have ep : parseO (odTx a) = some a := by rw [et]; exact parseO_text hm
    rw [ep] at H ok ⊢
    simp only [Option.getD_some] at H ok ⊢
    refine br_f (by rw [em, hm]; rfl) ?_
    refine br_f rfl ?_
    refine br_t rfl ?_
    apply ld6_h 3 H rfl
    apply ld6_h 0 H rfl
    refine SameOrder_c (a := a) (b := a) H (hsl.mono fun w H => H.tail.tail.tail.tail) (Sl.row 1 rfl ok) (by omega) (fun w H => ?_)
    refine asBoo_h ?_
    rw [sameOd_iff.2 rfl]
    refine br_f rfl ?_
    exact backMid_c (a := a) (b := b) (c := c) (c' := c') E T (by omega) 3 2 H rfl rfl (hsl.mono fun w H => H.tail.tail.tail.tail) (hsm.mono fun w H => H.tail.tail.tail.tail) hla hlb (fun w' H => k w' H.tail.tail.tail.tail)
end Go.Proofs.YtiihiaicggmhjaaDoor
