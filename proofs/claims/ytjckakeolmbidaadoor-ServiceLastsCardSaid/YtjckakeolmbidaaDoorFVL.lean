/- The shallow readings of some functions of the program (printed by a program of ours out of the model's own evaluation) and, for each, the proof that it is one. Conditions: none. -/
import Derived.Test.YtjckakeolmbidaaDoorV3
set_option maxRecDepth 100000
set_option linter.unusedVariables false
namespace Go.Proofs.YtjckakeolmbidaaDoor
open Go Go.Sh
def F6 (x0 : Int) (a1 : Option Addr) (n1 : Nat) (c1 : Nat) (K : KV) (w : World) : Prop :=
  divW (1000) (fun w4 =>
  gocall Tryd.prog (27) [(Value.int IntKind.i64 (5)), (Value.int IntKind.i64 (IntKind.i64.wrap ((IntKind.u64.wrap x0).tmod 1000))), (Value.int IntKind.i64 (4096))] (fun v5 w6 =>
  asPtr (v5) (fun p7 w8 =>
  br (p7.isNone) (fun w9 =>
  K (Value.bool (false)) (w9)) (fun w10 =>
  nw (Obj.cells #[(Value.int IntKind.i64 (0)), (Value.int IntKind.i64 (0)), (Value.int IntKind.i64 (0)), (Value.int IntKind.i64 (0)), (Value.int IntKind.i64 (0)), (Value.int IntKind.i64 (0)), (Value.int IntKind.i64 (0)), (Value.int IntKind.i64 (0)), (Value.int IntKind.i64 (0)), (Value.int IntKind.i64 (0))] 45 (0, 0)) (fun k11 w12 =>
  nw (Obj.cells #[(Value.int IntKind.i64 (0)), (Value.int IntKind.i64 (0)), (Value.int IntKind.i64 (0)), (Value.int IntKind.i64 (0)), (Value.int IntKind.i64 (0)), (Value.int IntKind.i64 (0)), (Value.int IntKind.i64 (0)), (Value.int IntKind.i64 (0)), (Value.int IntKind.i64 (0)), (Value.int IntKind.i64 (0))] 45 (0, 0)) (fun k13 w14 =>
  loop (X := (Int) × (Bool) × Unit) (0, (false, ())) (fun x15 rec16 w17 =>
  br (decide (x15.fst < (↑n1 : Int))) (fun w18 =>
  slAt (a1) (n1) (x15.fst) (5) (fun a19 w20 =>
  ld (a19) (fun v21 w22 =>
  asBoo (v21) (fun b23 w24 =>
  ld (⟨a19.block, a19.off + 1, none⟩) (fun v25 w26 =>
  asBoo (v25) (fun b27 w28 =>
  ld (⟨a19.block, a19.off + 2, none⟩) (fun v29 w30 =>
  asI (IntKind.i64) (v29) (fun n31 w32 =>
  ld (⟨a19.block, a19.off + 3, none⟩) (fun v33 w34 =>
  asI (IntKind.i64) (v33) (fun n35 w36 =>
  ld (⟨a19.block, a19.off + 4, none⟩) (fun v37 w38 =>
  asI (IntKind.i64) (v37) (fun n39 w40 =>
  nw (Obj.cells #[(Value.bool (false)), (Value.bool (false)), (Value.int IntKind.i64 (0)), (Value.int IntKind.i64 (0)), (Value.int IntKind.i64 (0))] 57 (0, 0)) (fun k41 w42 =>
  st (⟨k41, 0, none⟩) (Value.bool (b23)) (fun w43 =>
  st (⟨k41, 1, none⟩) (Value.bool (b27)) (fun w44 =>
  st (⟨k41, 2, none⟩) (Value.int IntKind.i64 (n31)) (fun w45 =>
  st (⟨k41, 3, none⟩) (Value.int IntKind.i64 (n35)) (fun w46 =>
  st (⟨k41, 4, none⟩) (Value.int IntKind.i64 (n39)) (fun w47 =>
  br (decide (x15.fst ≥ 80)) (fun w48 =>
  gocall Tryd.prog (34) [] (fun v49 w50 =>
  asBoo (v49) (fun b51 w52 =>
  K (Value.bool (b51)) (w52)) (w50)) (w48)) (fun w53 =>
  join (X := (Bool) × Unit) (fun J54 w55 =>
  ld (⟨k41, 0, none⟩) (fun v56 w57 =>
  asBoo (v56) (fun b58 w59 =>
  br (b58) (fun w60 =>
  ld (⟨k41, 3, none⟩) (fun v61 w62 =>
  asI (IntKind.i64) (v61) (fun n63 w64 =>
  ld (⟨k41, 4, none⟩) (fun v65 w66 =>
  asI (IntKind.i64) (v65) (fun n67 w68 =>
  gocall Tryd.prog (28) [(Value.pointer p7), (Value.int IntKind.i64 (n63)), (Value.int IntKind.i64 (n67))] (fun v69 w70 =>
  asT (0) (v69) (fun f71 w72 =>
  gocall Tryd.prog (29) [(Value.pointer p7)] (fun v73 w74 =>
  asBoo (v73) (fun b75 w76 =>
  br (!b75) (fun w77 =>
  K (Value.bool (false)) (w77)) (fun w78 =>
  gocall Tryd.prog (30) [(Value.pointer p7), (Value.agg #[(Value.int IntKind.i64 (1)), (Value.int IntKind.i64 (0)), (Value.int IntKind.i64 (5)), (Value.int IntKind.i64 (1)), (Value.int IntKind.i64 (0)), (Value.int IntKind.i64 (1)), (Value.int IntKind.i64 (0))])] (fun v79 w80 =>
  asSl (v79) (fun p81 k82 k83 w84 =>
  br ((↑k82 : Int) != 0) (fun w85 =>
  K (Value.bool (false)) (w85)) (fun w86 =>
  gocall Tryd.prog (31) [(Value.pointer p7)] (fun v87 w88 =>
  asT (0) (v87) (fun f89 w90 =>
  J54 (x15.snd.fst, ()) (w90)) (w88)) (w86)) (w84)) (w80)) (w78)) (w76)) (w74)) (w72)) (w70)) (w68)) (w66)) (w64)) (w62)) (w60)) (fun w91 =>
  ld (⟨k41, 2, none⟩) (fun v92 w93 =>
  asI (IntKind.i64) (v92) (fun n94 w95 =>
  divW (9) (fun w96 =>
  ld (⟨k41, 3, none⟩) (fun v97 w98 =>
  asI (IntKind.i64) (v97) (fun n99 w100 =>
  divW (300) (fun w101 =>
  nw (Obj.cells #[(Value.int IntKind.i64 (0)), (Value.int IntKind.i64 (0)), (Value.int IntKind.i64 (0)), (Value.int IntKind.i64 (0)), (Value.int IntKind.i64 (0)), (Value.int IntKind.i64 (0)), (Value.int IntKind.i64 (0))] 30 (0, 0)) (fun k102 w103 =>
  st (⟨k102, 0, none⟩) (Value.int IntKind.i64 (1)) (fun w104 =>
  st (⟨k102, 1, none⟩) (Value.int IntKind.i64 (0)) (fun w105 =>
  st (⟨k102, 2, none⟩) (Value.int IntKind.i64 (5)) (fun w106 =>
  st (⟨k102, 3, none⟩) (Value.int IntKind.i64 (IntKind.i64.wrap (1 + IntKind.i64.wrap ((IntKind.u64.wrap n94).tmod 9)))) (fun w107 =>
  st (⟨k102, 4, none⟩) (Value.int IntKind.i64 (2)) (fun w108 =>
  st (⟨k102, 5, none⟩) (Value.int IntKind.i64 (IntKind.i64.wrap (1 + IntKind.i64.wrap ((IntKind.u64.wrap n99).tmod 300)))) (fun w109 =>
  st (⟨k102, 6, none⟩) (Value.int IntKind.i64 (0)) (fun w110 =>
  join (X := Unit) (fun J111 w112 =>
  ld (⟨k41, 1, none⟩) (fun v113 w114 =>
  asBoo (v113) (fun b115 w116 =>
  br (b115) (fun w117 =>
  st (⟨k102, 0, none⟩) (Value.int IntKind.i64 (4)) (fun w118 =>
  J111 () (w118)) (w117)) (fun w119 =>
  J111 () (w119)) (w116)) (w114)) (w112)) (fun x120 w121 =>
  ld (⟨k102, 0, none⟩) (fun v122 w123 =>
  asI (IntKind.i64) (v122) (fun n124 w125 =>
  ld (⟨k102, 1, none⟩) (fun v126 w127 =>
  asI (IntKind.i64) (v126) (fun n128 w129 =>
  ld (⟨k102, 2, none⟩) (fun v130 w131 =>
  asI (IntKind.i64) (v130) (fun n132 w133 =>
  ld (⟨k102, 3, none⟩) (fun v134 w135 =>
  asI (IntKind.i64) (v134) (fun n136 w137 =>
  ld (⟨k102, 4, none⟩) (fun v138 w139 =>
  asI (IntKind.i64) (v138) (fun n140 w141 =>
  ld (⟨k102, 5, none⟩) (fun v142 w143 =>
  asI (IntKind.i64) (v142) (fun n144 w145 =>
  ld (⟨k102, 6, none⟩) (fun v146 w147 =>
  asI (IntKind.i64) (v146) (fun n148 w149 =>
  gocall Tryd.prog (30) [(Value.pointer p7), (Value.agg #[(Value.int IntKind.i64 (n124)), (Value.int IntKind.i64 (n128)), (Value.int IntKind.i64 (n132)), (Value.int IntKind.i64 (n136)), (Value.int IntKind.i64 (n140)), (Value.int IntKind.i64 (n144)), (Value.int IntKind.i64 (n148))])] (fun v150 w151 =>
  asSl (v150) (fun p152 k153 k154 w155 =>
  br ((↑k153 : Int) != 1) (fun w156 =>
  K (Value.bool (false)) (w156)) (fun w157 =>
  slAt (p152) (k153) (0) (7) (fun a158 w159 =>
  ld (⟨a158.block, a158.off + 2, none⟩) (fun v160 w161 =>
  asI (IntKind.i64) (v160) (fun n162 w163 =>
  br (n162 != 0) (fun w164 =>
  K (Value.bool (false)) (w164)) (fun w165 =>
  slAt (p152) (k153) (0) (7) (fun a166 w167 =>
  ld (⟨a166.block, a166.off + 1, none⟩) (fun v168 w169 =>
  asI (IntKind.i64) (v168) (fun n170 w171 =>
  br (n170 != 5) (fun w172 =>
  K (Value.bool (false)) (w172)) (fun w173 =>
  slAt (p152) (k153) (0) (7) (fun a174 w175 =>
  ld (⟨a174.block, a174.off + 3, none⟩) (fun v176 w177 =>
  asI (IntKind.i64) (v176) (fun n178 w179 =>
  br (n178 != IntKind.i64.wrap (1 + IntKind.i64.wrap ((IntKind.u64.wrap n94).tmod 9))) (fun w180 =>
  K (Value.bool (false)) (w180)) (fun w181 =>
  slAt (p152) (k153) (0) (7) (fun a182 w183 =>
  ld (⟨a182.block, a182.off + 4, none⟩) (fun v184 w185 =>
  asI (IntKind.i64) (v184) (fun n186 w187 =>
  br (n186 != 2) (fun w188 =>
  K (Value.bool (false)) (w188)) (fun w189 =>
  arAt (⟨k11, 0, none⟩) (10) (IntKind.i64.wrap (1 + IntKind.i64.wrap ((IntKind.u64.wrap n94).tmod 9))) (1) (fun a190 w191 =>
  ld (a190) (fun v192 w193 =>
  asI (IntKind.i64) (v192) (fun n194 w195 =>
  join (X := (Bool) × Unit) (fun J196 w197 =>
  ld (⟨k41, 1, none⟩) (fun v198 w199 =>
  asBoo (v198) (fun b200 w201 =>
  br (b200) (fun w202 =>
  br (n194 != 2) (fun w203 =>
  arAt (⟨k11, 0, none⟩) (10) (IntKind.i64.wrap (1 + IntKind.i64.wrap ((IntKind.u64.wrap n94).tmod 9))) (1) (fun a204 w205 =>
  st (a204) (Value.int IntKind.i64 (3)) (fun w206 =>
  slAt (p152) (k153) (0) (7) (fun a207 w208 =>
  ld (a207) (fun v209 w210 =>
  asI (IntKind.i64) (v209) (fun n211 w212 =>
  br (n211 != 5) (fun w213 =>
  K (Value.bool (false)) (w213)) (fun w214 =>
  J196 (x15.snd.fst, ()) (w214)) (w212)) (w210)) (w208)) (w206)) (w205)) (w203)) (fun w215 =>
  slAt (p152) (k153) (0) (7) (fun a216 w217 =>
  ld (a216) (fun v218 w219 =>
  asI (IntKind.i64) (v218) (fun n220 w221 =>
  br (n220 != 5) (fun w222 =>
  K (Value.bool (false)) (w222)) (fun w223 =>
  J196 (x15.snd.fst, ()) (w223)) (w221)) (w219)) (w217)) (w215)) (w202)) (fun w224 =>
  br (n194 == 0) (fun w225 =>
  arAt (⟨k11, 0, none⟩) (10) (IntKind.i64.wrap (1 + IntKind.i64.wrap ((IntKind.u64.wrap n94).tmod 9))) (1) (fun a226 w227 =>
  st (a226) (Value.int IntKind.i64 (2)) (fun w228 =>
  arAt (⟨k13, 0, none⟩) (10) (IntKind.i64.wrap (1 + IntKind.i64.wrap ((IntKind.u64.wrap n94).tmod 9))) (1) (fun a229 w230 =>
  st (a229) (Value.int IntKind.i64 (IntKind.i64.wrap (1 + IntKind.i64.wrap ((IntKind.u64.wrap n99).tmod 300)))) (fun w231 =>
  slAt (p152) (k153) (0) (7) (fun a232 w233 =>
  ld (a232) (fun v234 w235 =>
  asI (IntKind.i64) (v234) (fun n236 w237 =>
  br (n236 == 2) (fun w238 =>
  arAt (⟨k11, 0, none⟩) (10) (IntKind.i64.wrap (1 + IntKind.i64.wrap ((IntKind.u64.wrap n94).tmod 9))) (1) (fun a239 w240 =>
  st (a239) (Value.int IntKind.i64 (1)) (fun w241 =>
  J196 (x15.snd.fst, ()) (w241)) (w240)) (w238)) (fun w242 =>
  J196 (x15.snd.fst, ()) (w242)) (w237)) (w235)) (w233)) (w231)) (w230)) (w228)) (w227)) (w225)) (fun w243 =>
  J196 (x15.snd.fst, ()) (w243)) (w224)) (w201)) (w199)) (w197)) (fun x244 w245 =>
  ld (⟨k41, 1, none⟩) (fun v246 w247 =>
  asBoo (v246) (fun b248 w249 =>
  br (!b248) (fun w250 =>
  slAt (p152) (k153) (0) (7) (fun a251 w252 =>
  ld (a251) (fun v253 w254 =>
  asI (IntKind.i64) (v253) (fun n255 w256 =>
  arAt (⟨k11, 0, none⟩) (10) (IntKind.i64.wrap (1 + IntKind.i64.wrap ((IntKind.u64.wrap n94).tmod 9))) (1) (fun a257 w258 =>
  ld (a257) (fun v259 w260 =>
  asI (IntKind.i64) (v259) (fun n261 w262 =>
  br (!(n255 == 2) == (n261 == 1)) (fun w263 =>
  K (Value.bool (false)) (w263)) (fun w264 =>
  slAt (p152) (k153) (0) (7) (fun a265 w266 =>
  ld (a265) (fun v267 w268 =>
  asI (IntKind.i64) (v267) (fun n269 w270 =>
  br (n269 != 2) (fun w271 =>
  slAt (p152) (k153) (0) (7) (fun a272 w273 =>
  ld (a272) (fun v274 w275 =>
  asI (IntKind.i64) (v274) (fun n276 w277 =>
  br (n276 != 3) (fun w278 =>
  slAt (p152) (k153) (0) (7) (fun a279 w280 =>
  ld (a279) (fun v281 w282 =>
  asI (IntKind.i64) (v281) (fun n283 w284 =>
  br (n283 != 5) (fun w285 =>
  K (Value.bool (false)) (w285)) (fun w286 =>
  J54 (x244.fst, ()) (w286)) (w284)) (w282)) (w280)) (w278)) (fun w287 =>
  J54 (x244.fst, ()) (w287)) (w277)) (w275)) (w273)) (w271)) (fun w288 =>
  J54 (x244.fst, ()) (w288)) (w270)) (w268)) (w266)) (w264)) (w262)) (w260)) (w258)) (w256)) (w254)) (w252)) (w250)) (fun w289 =>
  slAt (p152) (k153) (0) (7) (fun a290 w291 =>
  ld (a290) (fun v292 w293 =>
  asI (IntKind.i64) (v292) (fun n294 w295 =>
  br (n294 != 2) (fun w296 =>
  slAt (p152) (k153) (0) (7) (fun a297 w298 =>
  ld (a297) (fun v299 w300 =>
  asI (IntKind.i64) (v299) (fun n301 w302 =>
  br (n301 != 3) (fun w303 =>
  slAt (p152) (k153) (0) (7) (fun a304 w305 =>
  ld (a304) (fun v306 w307 =>
  asI (IntKind.i64) (v306) (fun n308 w309 =>
  br (n308 != 5) (fun w310 =>
  K (Value.bool (false)) (w310)) (fun w311 =>
  J54 (x244.fst, ()) (w311)) (w309)) (w307)) (w305)) (w303)) (fun w312 =>
  J54 (x244.fst, ()) (w312)) (w302)) (w300)) (w298)) (w296)) (fun w313 =>
  J54 (x244.fst, ()) (w313)) (w295)) (w293)) (w291)) (w289)) (w249)) (w247)) (w245.drew)) (w195)) (w193)) (w191)) (w189)) (w187)) (w185)) (w183)) (w181)) (w179)) (w177)) (w175)) (w173)) (w171)) (w169)) (w167)) (w165)) (w163)) (w161)) (w159)) (w157)) (w155)) (w151)) (w149)) (w147)) (w145)) (w143)) (w141)) (w139)) (w137)) (w135)) (w133)) (w131)) (w129)) (w127)) (w125)) (w123)) (w121)) (w110)) (w109)) (w108)) (w107)) (w106)) (w105)) (w104)) (w103)) (w101)) (w100)) (w98)) (w96)) (w95)) (w93)) (w91)) (w59)) (w57)) (w55)) (fun x314 w315 =>
  loop (X := (Int) × (Int) × (Bool) × Unit) (1, (IntKind.i64.wrap ((IntKind.u64.wrap x0).tmod 1000), (x314.fst, ()))) (fun x316 rec317 w318 =>
  br (decide (x316.fst ≤ 9)) (fun w319 =>
  keeps (fun S320 w321 =>
  arAt (⟨k11, 0, none⟩) (10) (x316.fst) (1) (fun a322 w323 =>
  ldS (S320) (a322) (fun v324 w325 =>
  asI (IntKind.i64) (v324) (fun n326 w327 =>
  gocall Tryd.prog (32) [(Value.pointer p7), (Value.int IntKind.i64 (x316.fst))] (fun v328 w329 =>
  asI (IntKind.i64) (v328) (fun n330 w331 =>
  kp (S320) (fun w332 =>
  br (n330 != n326) (fun w333 =>
  K (Value.bool (false)) (w333)) (fun w334 =>
  arAt (⟨k11, 0, none⟩) (10) (x316.fst) (1) (fun a335 w336 =>
  ld (a335) (fun v337 w338 =>
  asI (IntKind.i64) (v337) (fun n339 w340 =>
  br (n339 == 1) (fun w341 =>
  arAt (⟨k13, 0, none⟩) (10) (x316.fst) (1) (fun a342 w343 =>
  ld (a342) (fun v344 w345 =>
  asI (IntKind.i64) (v344) (fun n346 w347 =>
  rec317 (IntKind.i64.wrap (x316.fst + 1), (IntKind.i64.wrap (x316.snd.fst - n346), (x316.snd.snd.fst, ()))) (w347)) (w345)) (w343)) (w341)) (fun w348 =>
  rec317 (IntKind.i64.wrap (x316.fst + 1), (x316.snd.fst, (x316.snd.snd.fst, ()))) (w348)) (w340)) (w338)) (w336)) (w334)) (w332)) (w331)) (w329)) (w327)) (w325)) (w323)) (w321)) (w319.drew)) (fun w349 =>
  gocall Tryd.prog (33) [(Value.pointer p7)] (fun v350 w351 =>
  asI (IntKind.i64) (v350) (fun n352 w353 =>
  br (n352 != x316.snd.fst) (fun w354 =>
  K (Value.bool (false)) (w354)) (fun w355 =>
  br (decide (x316.snd.fst < 0)) (fun w356 =>
  K (Value.bool (false)) (w356)) (fun w357 =>
  rec16 (IntKind.i64.wrap (x15.fst + 1), (x316.snd.snd.fst, ())) (w357)) (w355)) (w353)) (w351)) (w349)) (w318)) (w315)) (w53)) (w47)) (w46)) (w45)) (w44)) (w43)) (w42)) (w40)) (w38)) (w36)) (w34)) (w32)) (w30)) (w28)) (w26)) (w24)) (w22)) (w20)) (w18)) (fun w358 =>
  gocall Tryd.prog (34) [] (fun v359 w360 =>
  asBoo (v359) (fun b361 w362 =>
  K (Value.bool (b361)) (w362)) (w360)) (w358)) (w17)) (w14)) (w12)) (w10)) (w8)) (w6)) (w4)) (w)
theorem F6_eq (x0 : Int) (a1 : Option Addr) (n1 : Nat) (c1 : Nat) : sBody Tryd.prog [(39, [0, 1, 3, 4, 5, 2, 6]), (4000035, [4, 1]), (4000020, []), (4000033, [4, 1])] Tryd.f6 [(Value.int IntKind.i64 x0), (Value.slice a1 n1 c1)] = F6 x0 a1 n1 c1 := by kernel_rfl
theorem F6_go (x0 : Int) (a1 : Option Addr) (n1 : Nat) (c1 : Nat) {K : KV} {w : World} (h : F6 x0 a1 n1 c1 K w) : gocall Tryd.prog 6 [(Value.int IntKind.i64 x0), (Value.slice a1 n1 c1)] K w :=
  ⟨by kernel_rfl, calls_of_sBody (T := [(39, [0, 1, 3, 4, 5, 2, 6]), (4000035, [4, 1]), (4000020, []), (4000033, [4, 1])]) mixed Tryd.func6 (by kernel_rfl) (by rw [F6_eq]; exact h)⟩
end Go.Proofs.YtjckakeolmbidaaDoor
