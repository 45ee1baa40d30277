/- What law3's EntryBack computes: true, of any entry, any text, signed or not. Conditions: none. -/
import Derived.Test.YtkhmhgleglhcjaaDoorC17
import Derived.Test.YtkhmhgleglhcjaaDoorFEBk
set_option linter.unusedVariables false
set_option maxRecDepth 100000
namespace Go.Proofs.YtkhmhgleglhcjaaDoor
open Go Go.Sh

def F3c (s42 : ByteArray) (K : KV) (w145 : World) : Prop :=
  gocall Tryd.prog (17) [(Value.string (s42))] (fun v146 w147 =>
    asT (2) (v146) (fun f148 w149 =>
      asN (3) (f148 0) (fun f150 w151 =>
        asStr (f150 0) (fun s152 w153 =>
          asI (IntKind.i64) (f150 1) (fun n154 w155 =>
            asSl (f150 2) (fun p156 k157 k158 w159 =>
              asI (IntKind.i64) (f148 1) (fun n160 w161 =>
                nw (Obj.cells #[(Value.string ({ data := #[] })), (Value.int IntKind.i64 (0)), (Value.slice none (0) (0))] 24 (0, 0)) (fun k162 w163 =>
                  st (⟨k162, 0, none⟩) (Value.string (s152)) (fun w164 =>
                    st (⟨k162, 1, none⟩) (Value.int IntKind.i64 (n154)) (fun w165 =>
                      st (⟨k162, 2, none⟩) (Value.slice p156 (k157) (k158)) (fun w166 =>
                        br (n160 != 0) (fun w167 =>
                          ld (⟨k162, 0, none⟩) (fun v168 w169 =>
                            asStr (v168) (fun s170 w171 =>
                              br (strEq s170 { data := #[] }) (fun w172 =>
                                ld (⟨k162, 2, none⟩) (fun v173 w174 =>
                                  asSl (v173) (fun p175 k176 k177 w178 =>
                                    br ((↑k176 : Int) == 0) (fun w179 =>
                                      gocall Tryd.prog (14) [] (fun v180 w181 =>
                                        asBoo (v180) (fun b182 w183 =>
                                          K (Value.bool (b182)) (w183)) (w181)) (w179)) (fun w184 =>
                                      K (Value.bool (false)) (w184)) (w178)) (w174)) (w172)) (fun w185 =>
                                K (Value.bool (false)) (w185)) (w171)) (w169)) (w167)) (fun w186 =>
                          ld (⟨k162, 0, none⟩) (fun v187 w188 =>
                            asStr (v187) (fun s189 w190 =>
                              ld (⟨k162, 1, none⟩) (fun v191 w192 =>
                                asI (IntKind.i64) (v191) (fun n193 w194 =>
                                  ld (⟨k162, 2, none⟩) (fun v195 w196 =>
                                    asSl (v195) (fun p197 k198 k199 w200 =>
                                      gocall Tryd.prog (16) [(Value.agg #[(Value.string (s189)), (Value.int IntKind.i64 (n193)), (Value.slice p197 (k198) (k199))])] (fun v201 w202 =>
                                        asT (2) (v201) (fun f203 w204 =>
                                          asStr (f203 0) (fun s205 w206 =>
                                            asI (IntKind.i64) (f203 1) (fun n207 w208 =>
                                              br (n207 == 0) (fun w209 =>
                                                br (strEq s205 s42) (fun w210 =>
                                                  ld (⟨k162, 0, none⟩) (fun v211 w212 =>
                                                    asStr (v211) (fun s213 w214 =>
                                                      ld (⟨k162, 1, none⟩) (fun v215 w216 =>
                                                        asI (IntKind.i64) (v215) (fun n217 w218 =>
                                                          ld (⟨k162, 2, none⟩) (fun v219 w220 =>
                                                            asSl (v219) (fun p221 k222 k223 w224 =>
                                                              gocall Tryd.prog (18) [(Value.agg #[(Value.string (s213)), (Value.int IntKind.i64 (n217)), (Value.slice p221 (k222) (k223))])] (fun v225 w226 =>
                                                                asBoo (v225) (fun b227 w228 =>
                                                                  br (b227) (fun w229 =>
                                                                    gocall Tryd.prog (14) [] (fun v230 w231 =>
                                                                      asBoo (v230) (fun b232 w233 =>
                                                                        K (Value.bool (b232)) (w233)) (w231)) (w229)) (fun w234 =>
                                                                    K (Value.bool (false)) (w234)) (w228)) (w226)) (w224)) (w220)) (w218)) (w216)) (w214)) (w212)) (w210)) (fun w235 =>
                                                  K (Value.bool (false)) (w235)) (w209)) (fun w236 =>
                                                K (Value.bool (false)) (w236)) (w208)) (w206)) (w204)) (w202)) (w200)) (w196)) (w194)) (w192)) (w190)) (w188)) (w186)) (w166)) (w165)) (w164)) (w163)) (w161)) (w159)) (w155)) (w153)) (w151)) (w149)) (w147)) (w145)
def F3b (k7 : Nat) (s42 : ByteArray) (K : KV) (w43 : World) : Prop :=
  ld (⟨k7, 0, none⟩) (fun v44 w45 =>
    asStr (v44) (fun s46 w47 =>
      ld (⟨k7, 1, none⟩) (fun v48 w49 =>
        asI (IntKind.i64) (v48) (fun n50 w51 =>
          ld (⟨k7, 2, none⟩) (fun v52 w53 =>
            asSl (v52) (fun p54 k55 k56 w57 =>
              gocall Tryd.prog (16) [(Value.agg #[(Value.string (s46)), (Value.int IntKind.i64 (n50)), (Value.slice p54 (k55) (k56))])] (fun v58 w59 =>
                asT (2) (v58) (fun f60 w61 =>
                  asStr (f60 0) (fun s62 w63 =>
                    asI (IntKind.i64) (f60 1) (fun n64 w65 =>
                      gocall Tryd.prog (17) [(Value.string (s62))] (fun v66 w67 =>
                        asT (2) (v66) (fun f68 w69 =>
                          asN (3) (f68 0) (fun f70 w71 =>
                            asStr (f70 0) (fun s72 w73 =>
                              asI (IntKind.i64) (f70 1) (fun n74 w75 =>
                                asSl (f70 2) (fun p76 k77 k78 w79 =>
                                  asI (IntKind.i64) (f68 1) (fun n80 w81 =>
                                    nw (Obj.cells #[(Value.string ({ data := #[] })), (Value.int IntKind.i64 (0)), (Value.slice none (0) (0))] 24 (0, 0)) (fun k82 w83 =>
                                      st (⟨k82, 0, none⟩) (Value.string (s72)) (fun w84 =>
                                        st (⟨k82, 1, none⟩) (Value.int IntKind.i64 (n74)) (fun w85 =>
                                          st (⟨k82, 2, none⟩) (Value.slice p76 (k77) (k78)) (fun w86 =>
                                            ld (⟨k7, 0, none⟩) (fun v87 w88 =>
                                              asStr (v87) (fun s89 w90 =>
                                                ld (⟨k7, 1, none⟩) (fun v91 w92 =>
                                                  asI (IntKind.i64) (v91) (fun n93 w94 =>
                                                    ld (⟨k7, 2, none⟩) (fun v95 w96 =>
                                                      asSl (v95) (fun p97 k98 k99 w100 =>
                                                        gocall Tryd.prog (18) [(Value.agg #[(Value.string (s89)), (Value.int IntKind.i64 (n93)), (Value.slice p97 (k98) (k99))])] (fun v101 w102 =>
                                                          asBoo (v101) (fun b103 w104 =>
                                                            br (!(n64 == 0) == b103) (fun w105 =>
                                                              K (Value.bool (false)) (w105)) (fun w106 =>
                                                              br (n64 == 0) (fun w107 =>
                                                                br (n80 != 0) (fun w108 =>
                                                                  K (Value.bool (false)) (w108)) (fun w109 =>
                                                                  ld (⟨k7, 0, none⟩) (fun v110 w111 =>
                                                                    asStr (v110) (fun s112 w113 =>
                                                                      ld (⟨k7, 1, none⟩) (fun v114 w115 =>
                                                                        asI (IntKind.i64) (v114) (fun n116 w117 =>
                                                                          ld (⟨k7, 2, none⟩) (fun v118 w119 =>
                                                                            asSl (v118) (fun p120 k121 k122 w123 =>
                                                                              ld (⟨k82, 0, none⟩) (fun v124 w125 =>
                                                                                asStr (v124) (fun s126 w127 =>
                                                                                  ld (⟨k82, 1, none⟩) (fun v128 w129 =>
                                                                                    asI (IntKind.i64) (v128) (fun n130 w131 =>
                                                                                      ld (⟨k82, 2, none⟩) (fun v132 w133 =>
                                                                                        asSl (v132) (fun p134 k135 k136 w137 =>
                                                                                          gocall Tryd.prog (19) [(Value.agg #[(Value.string (s112)), (Value.int IntKind.i64 (n116)), (Value.slice p120 (k121) (k122))]), (Value.agg #[(Value.string (s126)), (Value.int IntKind.i64 (n130)), (Value.slice p134 (k135) (k136))])] (fun v138 w139 =>
                                                                                            asBoo (v138) (fun b140 w141 =>
                                                                                              br (!b140) (fun w142 =>
                                                                                                K (Value.bool (false)) (w142)) (fun w143 =>
                                                                                                br (decide ((↑s62.size : Int) > 80)) (fun w144 =>
                                                                                                  K (Value.bool (false)) (w144)) (fun w145 =>
                                                                                                  gocall Tryd.prog (17) [(Value.string (s42))] (fun v146 w147 =>
                                                                                                    asT (2) (v146) (fun f148 w149 =>
                                                                                                      asN (3) (f148 0) (fun f150 w151 =>
                                                                                                        asStr (f150 0) (fun s152 w153 =>
                                                                                                          asI (IntKind.i64) (f150 1) (fun n154 w155 =>
                                                                                                            asSl (f150 2) (fun p156 k157 k158 w159 =>
                                                                                                              asI (IntKind.i64) (f148 1) (fun n160 w161 =>
                                                                                                                nw (Obj.cells #[(Value.string ({ data := #[] })), (Value.int IntKind.i64 (0)), (Value.slice none (0) (0))] 24 (0, 0)) (fun k162 w163 =>
                                                                                                                  st (⟨k162, 0, none⟩) (Value.string (s152)) (fun w164 =>
                                                                                                                    st (⟨k162, 1, none⟩) (Value.int IntKind.i64 (n154)) (fun w165 =>
                                                                                                                      st (⟨k162, 2, none⟩) (Value.slice p156 (k157) (k158)) (fun w166 =>
                                                                                                                        br (n160 != 0) (fun w167 =>
                                                                                                                          ld (⟨k162, 0, none⟩) (fun v168 w169 =>
                                                                                                                            asStr (v168) (fun s170 w171 =>
                                                                                                                              br (strEq s170 { data := #[] }) (fun w172 =>
                                                                                                                                ld (⟨k162, 2, none⟩) (fun v173 w174 =>
                                                                                                                                  asSl (v173) (fun p175 k176 k177 w178 =>
                                                                                                                                    br ((↑k176 : Int) == 0) (fun w179 =>
                                                                                                                                      gocall Tryd.prog (14) [] (fun v180 w181 =>
                                                                                                                                        asBoo (v180) (fun b182 w183 =>
                                                                                                                                          K (Value.bool (b182)) (w183)) (w181)) (w179)) (fun w184 =>
                                                                                                                                      K (Value.bool (false)) (w184)) (w178)) (w174)) (w172)) (fun w185 =>
                                                                                                                                K (Value.bool (false)) (w185)) (w171)) (w169)) (w167)) (fun w186 =>
                                                                                                                          ld (⟨k162, 0, none⟩) (fun v187 w188 =>
                                                                                                                            asStr (v187) (fun s189 w190 =>
                                                                                                                              ld (⟨k162, 1, none⟩) (fun v191 w192 =>
                                                                                                                                asI (IntKind.i64) (v191) (fun n193 w194 =>
                                                                                                                                  ld (⟨k162, 2, none⟩) (fun v195 w196 =>
                                                                                                                                    asSl (v195) (fun p197 k198 k199 w200 =>
                                                                                                                                      gocall Tryd.prog (16) [(Value.agg #[(Value.string (s189)), (Value.int IntKind.i64 (n193)), (Value.slice p197 (k198) (k199))])] (fun v201 w202 =>
                                                                                                                                        asT (2) (v201) (fun f203 w204 =>
                                                                                                                                          asStr (f203 0) (fun s205 w206 =>
                                                                                                                                            asI (IntKind.i64) (f203 1) (fun n207 w208 =>
                                                                                                                                              br (n207 == 0) (fun w209 =>
                                                                                                                                                br (strEq s205 s42) (fun w210 =>
                                                                                                                                                  ld (⟨k162, 0, none⟩) (fun v211 w212 =>
                                                                                                                                                    asStr (v211) (fun s213 w214 =>
                                                                                                                                                      ld (⟨k162, 1, none⟩) (fun v215 w216 =>
                                                                                                                                                        asI (IntKind.i64) (v215) (fun n217 w218 =>
                                                                                                                                                          ld (⟨k162, 2, none⟩) (fun v219 w220 =>
                                                                                                                                                            asSl (v219) (fun p221 k222 k223 w224 =>
                                                                                                                                                              gocall Tryd.prog (18) [(Value.agg #[(Value.string (s213)), (Value.int IntKind.i64 (n217)), (Value.slice p221 (k222) (k223))])] (fun v225 w226 =>
                                                                                                                                                                asBoo (v225) (fun b227 w228 =>
                                                                                                                                                                  br (b227) (fun w229 =>
                                                                                                                                                                    gocall Tryd.prog (14) [] (fun v230 w231 =>
                                                                                                                                                                      asBoo (v230) (fun b232 w233 =>
                                                                                                                                                                        K (Value.bool (b232)) (w233)) (w231)) (w229)) (fun w234 =>
                                                                                                                                                                    K (Value.bool (false)) (w234)) (w228)) (w226)) (w224)) (w220)) (w218)) (w216)) (w214)) (w212)) (w210)) (fun w235 =>
                                                                                                                                                  K (Value.bool (false)) (w235)) (w209)) (fun w236 =>
                                                                                                                                                K (Value.bool (false)) (w236)) (w208)) (w206)) (w204)) (w202)) (w200)) (w196)) (w194)) (w192)) (w190)) (w188)) (w186)) (w166)) (w165)) (w164)) (w163)) (w161)) (w159)) (w155)) (w153)) (w151)) (w149)) (w147)) (w145)) (w143)) (w141)) (w139)) (w137)) (w133)) (w131)) (w129)) (w127)) (w125)) (w123)) (w119)) (w117)) (w115)) (w113)) (w111)) (w109)) (w107)) (fun w237 =>
                                                                gocall Tryd.prog (17) [(Value.string (s42))] (fun v238 w239 =>
                                                                  asT (2) (v238) (fun f240 w241 =>
                                                                    asN (3) (f240 0) (fun f242 w243 =>
                                                                      asStr (f242 0) (fun s244 w245 =>
                                                                        asI (IntKind.i64) (f242 1) (fun n246 w247 =>
                                                                          asSl (f242 2) (fun p248 k249 k250 w251 =>
                                                                            asI (IntKind.i64) (f240 1) (fun n252 w253 =>
                                                                              nw (Obj.cells #[(Value.string ({ data := #[] })), (Value.int IntKind.i64 (0)), (Value.slice none (0) (0))] 24 (0, 0)) (fun k254 w255 =>
                                                                                st (⟨k254, 0, none⟩) (Value.string (s244)) (fun w256 =>
                                                                                  st (⟨k254, 1, none⟩) (Value.int IntKind.i64 (n246)) (fun w257 =>
                                                                                    st (⟨k254, 2, none⟩) (Value.slice p248 (k249) (k250)) (fun w258 =>
                                                                                      br (n252 != 0) (fun w259 =>
                                                                                        ld (⟨k254, 0, none⟩) (fun v260 w261 =>
                                                                                          asStr (v260) (fun s262 w263 =>
                                                                                            br (strEq s262 { data := #[] }) (fun w264 =>
                                                                                              ld (⟨k254, 2, none⟩) (fun v265 w266 =>
                                                                                                asSl (v265) (fun p267 k268 k269 w270 =>
                                                                                                  br ((↑k268 : Int) == 0) (fun w271 =>
                                                                                                    gocall Tryd.prog (14) [] (fun v272 w273 =>
                                                                                                      asBoo (v272) (fun b274 w275 =>
                                                                                                        K (Value.bool (b274)) (w275)) (w273)) (w271)) (fun w276 =>
                                                                                                    K (Value.bool (false)) (w276)) (w270)) (w266)) (w264)) (fun w277 =>
                                                                                              K (Value.bool (false)) (w277)) (w263)) (w261)) (w259)) (fun w278 =>
                                                                                        ld (⟨k254, 0, none⟩) (fun v279 w280 =>
                                                                                          asStr (v279) (fun s281 w282 =>
                                                                                            ld (⟨k254, 1, none⟩) (fun v283 w284 =>
                                                                                              asI (IntKind.i64) (v283) (fun n285 w286 =>
                                                                                                ld (⟨k254, 2, none⟩) (fun v287 w288 =>
                                                                                                  asSl (v287) (fun p289 k290 k291 w292 =>
                                                                                                    gocall Tryd.prog (16) [(Value.agg #[(Value.string (s281)), (Value.int IntKind.i64 (n285)), (Value.slice p289 (k290) (k291))])] (fun v293 w294 =>
                                                                                                      asT (2) (v293) (fun f295 w296 =>
                                                                                                        asStr (f295 0) (fun s297 w298 =>
                                                                                                          asI (IntKind.i64) (f295 1) (fun n299 w300 =>
                                                                                                            br (n299 == 0) (fun w301 =>
                                                                                                              br (strEq s297 s42) (fun w302 =>
                                                                                                                ld (⟨k254, 0, none⟩) (fun v303 w304 =>
                                                                                                                  asStr (v303) (fun s305 w306 =>
                                                                                                                    ld (⟨k254, 1, none⟩) (fun v307 w308 =>
                                                                                                                      asI (IntKind.i64) (v307) (fun n309 w310 =>
                                                                                                                        ld (⟨k254, 2, none⟩) (fun v311 w312 =>
                                                                                                                          asSl (v311) (fun p313 k314 k315 w316 =>
                                                                                                                            gocall Tryd.prog (18) [(Value.agg #[(Value.string (s305)), (Value.int IntKind.i64 (n309)), (Value.slice p313 (k314) (k315))])] (fun v317 w318 =>
                                                                                                                              asBoo (v317) (fun b319 w320 =>
                                                                                                                                br (b319) (fun w321 =>
                                                                                                                                  gocall Tryd.prog (14) [] (fun v322 w323 =>
                                                                                                                                    asBoo (v322) (fun b324 w325 =>
                                                                                                                                      K (Value.bool (b324)) (w325)) (w323)) (w321)) (fun w326 =>
                                                                                                                                  K (Value.bool (false)) (w326)) (w320)) (w318)) (w316)) (w312)) (w310)) (w308)) (w306)) (w304)) (w302)) (fun w327 =>
                                                                                                                K (Value.bool (false)) (w327)) (w301)) (fun w328 =>
                                                                                                              K (Value.bool (false)) (w328)) (w300)) (w298)) (w296)) (w294)) (w292)) (w288)) (w286)) (w284)) (w282)) (w280)) (w278)) (w258)) (w257)) (w256)) (w255)) (w253)) (w251)) (w247)) (w245)) (w243)) (w241)) (w239)) (w237)) (w106)) (w104)) (w102)) (w100)) (w96)) (w94)) (w92)) (w90)) (w88)) (w86)) (w85)) (w84)) (w83)) (w81)) (w79)) (w75)) (w73)) (w71)) (w69)) (w67)) (w65)) (w63)) (w61)) (w59)) (w57)) (w53)) (w51)) (w49)) (w47)) (w45)) (w43)
theorem F3c_c {w0 w : World} {hs : List Hp} {K : KV} {s : List UInt8} (E : Errs w0) (T : Tab w0) (H : Sh.Holds w0 hs w) (hl : s.length ≤ 100000) (k : ∀ w', Sh.Holds w0 hs w' → K (.bool true) w') : F3c (B s) K w := by
  unfold F3c
  refine Parse_c E T H hl (fun r w ok H => ?_)
  refine resE_h (e := (parseE s).2) ?_
  refine nw3_h (k := (parseE s).2.k) H (fun b w H => ?_)
  by_cases hc : (parseE s).1 = 0
  · obtain ⟨hm, hs⟩ := parse_ok hc
    have h8 := (mayN_out hm).2.2.2.1
    rw [hc]
    refine br_f rfl ?_
    apply ld3_h 0 H rfl
    refine Line3_c (e := (parseE s).2) T (by omega) (Sl.row 1 rfl ok) H (fun w H => ?_)
    have la : lineR (parseE s).2 = (s, 0) := by rw [lineR, if_pos hm, hs]
    rw [la]
    refine asT_e [_, _] rfl rfl ?_
    refine asStr_e rfl ?_
    refine asI_e rfl ?_
    refine br_t rfl ?_
    rw [strEq_B]
    refine br_t (by simp) ?_
    apply ld3_h 0 H rfl
    refine MayE_c (by rw [B_size]; omega) (Sl.row 1 rfl ok) H (fun w H => ?_)
    refine asBoo_h ?_
    refine br_t hm ?_
    refine awake3_c E T H (fun w H => ?_)
    refine asBoo_h ?_
    exact k _ H.tail.tail
  · have hz := parse_no hc
    rw [hz] at ok H
    have hr : r.n = 0 := by have := ok.len; simp [En.zero] at this; omega
    have H' := H
    unfold eHp at H'
    refine br_t (by simpa using hc) ?_
    apply ld_h 0 H' rfl rfl; refine asStr_h ?_
    refine br_t (show strEq (B []) (B []) = true by rw [strEq_B]; rfl) ?_
    apply ld_h 0 H' rfl rfl; refine asSl_h ?_
    rw [hr]
    refine br_t rfl ?_
    refine awake3_c E T H (fun w H => ?_)
    refine asBoo_h ?_
    exact k _ H.tail.tail
theorem F3b_c {w0 w : World} {hs : List Hp} {K : KV} {a : En} {s : List UInt8} {k7 n c : Nat} {p : Option Addr} (i : Nat) (E : Errs w0) (T : Tab w0) (H : Sh.Holds w0 hs w) (hi : hs[i]? = some (eHp k7 a.k a.id (.slice p n c))) (hsl : Sl (Sh.Holds w0 hs) p n 1 (a.l.map I))
    (ha : a.k.length ≤ 50) (hb : a.l.length ≤ 20) (hl : s.length ≤ 100000) (k : ∀ w', Sh.Holds w0 hs w' → K (.bool true) w') : F3b k7 (B s) K w := by
  unfold F3b
  apply ld3_h i H hi
  refine Line3_c (e := a) T (by omega) hsl H (fun w H => ?_)
  cases hm : mayN a with
  | true =>
    have la : lineR a = (lineL a, 0) := by rw [lineR, if_pos hm]
    have hll : (lineL a).length ≤ 73 := by have := entT_len hm; rw [lineL, signL_len]; omega
    rw [la]
    refine asT_e [_, _] rfl rfl ?_
    refine asStr_e rfl ?_
    refine asI_e rfl ?_
    refine Parse_c (s := lineL a) E T H (by omega) (fun r w ok H => ?_)
    rw [parse_line hm] at ok ⊢
    have ok : r.Ok 1 (a.l.map I) := ok
    refine resE_h (e := a) ?_
    refine nw3_h (k := a.k) H (fun b w H => ?_)
    have s1 := hsl.mono (S' := Sh.Holds w0 (eHp b a.k a.id (.slice r.p r.n r.c) :: r.hp 3 :: hs)) fun w H => H.tail.tail
    have hi' : (eHp b a.k a.id (.slice r.p r.n r.c) :: r.hp 3 :: hs)[i + 2]? = some (eHp k7 a.k a.id (.slice p n c)) := by simpa using hi
    apply ld3_h (i + 2) H hi'
    refine MayE_c (by rw [B_size]; omega) s1 H (fun w H => ?_)
    rw [show mayE (B a.k) a.id a.l = true from hm]
    refine asBoo_h ?_
    refine br_f rfl ?_
    refine br_t rfl ?_
    refine br_f rfl ?_
    apply ld3_h (i + 2) H hi'
    apply ld3_h 0 H rfl
    refine refSame_c (a := a) (b := a) H s1 (Sl.row 1 rfl ok) (by omega) (fun w H => ?_)
    refine asBoo_h ?_
    rw [sameE_iff.2 rfl]
    refine br_f rfl ?_
    refine br_f (by rw [B_size]; simp; omega) ?_
    exact F3c_c E T H hl (fun w H => k _ H.tail.tail)
  | false =>
    have la : lineR a = ([], 1) := by rw [lineR, if_neg (by simp [hm])]
    rw [la]
    refine asT_e [_, _] rfl rfl ?_
    refine asStr_e rfl ?_
    refine asI_e rfl ?_
    refine Parse_c (s := []) E T H (by simp) (fun r w ok H => ?_)
    refine resE_h (e := (parseE []).2) ?_
    refine nw3_h (k := (parseE []).2.k) H (fun b w H => ?_)
    have s1 := hsl.mono (S' := Sh.Holds w0 (eHp b (parseE []).2.k (parseE []).2.id (.slice r.p r.n r.c) :: r.hp 3 :: hs)) fun w H => H.tail.tail
    have hi' : (eHp b (parseE []).2.k (parseE []).2.id (.slice r.p r.n r.c) :: r.hp 3 :: hs)[i + 2]? = some (eHp k7 a.k a.id (.slice p n c)) := by simpa using hi
    apply ld3_h (i + 2) H hi'
    refine MayE_c (by rw [B_size]; omega) s1 H (fun w H => ?_)
    rw [show mayE (B a.k) a.id a.l = false from hm]
    refine asBoo_h ?_
    refine br_f rfl ?_
    refine br_f rfl ?_
    exact F3c_c E T H hl (fun w H => k _ H.tail.tail)
theorem EBack_c {w0 w : World} {hs : List Hp} {K : KV} {a : En} {s : ByteArray} {d : Bool} {p : Option Addr} {n c : Nat} (E : Errs w0) (T : Tab w0) (H : Sh.Holds w0 hs w) (hsl : Sl (Sh.Holds w0 hs) p n 1 (a.l.map I))
    (k : ∀ w', Sh.Holds w0 hs w' → K (.bool true) w') : gocall Tryd.prog 3 [enV a (.slice p n c), .string s, .bool d] K w := by
  have hn : n = a.l.length := by have := hsl.len; simp at this; omega
  obtain ⟨t, rfl⟩ : ∃ t, s = B t := ⟨s.data.toList, (B_data _).symm⟩
  apply F3_go; unfold F3
  refine nwE_h H (fun k1 w H => ?_)
  have s1 := hsl.mono (S' := Sh.Holds w0 (eHp k1 a.k a.id (.slice p n c) :: hs)) fun w H => H.tail
  apply ld3_h 0 H rfl
  refine light_c (e := a) H (fun w H => ?_)
  refine asBoo_h ?_
  refine br_s (fun _ => ?_) (fun h1 => ?_)
  · refine awake3_c E T H (fun w H => ?_)
    refine asBoo_h ?_
    exact k _ H.tail
  simp only [Bool.not_eq_false', Bool.and_eq_true, decide_eq_true_eq] at h1
  refine br_s (fun _ => ?_) (fun h2 => ?_)
  · refine awake3_c E T H (fun w H => ?_)
    refine asBoo_h ?_
    exact k _ H.tail
  rw [B_size] at h2
  simp only [decide_eq_false_iff_not] at h2
  cases d with
  | true =>
    refine br_t rfl ?_
    refine Sign_c (by rw [B_size]; omega) H (fun w H => ?_)
    refine asStr_h ?_
    rw [signL_B]
    exact F3b_c 0 E T H rfl s1 (by omega) (by omega) (by rw [signL_len]; omega) (fun w H => k _ H.tail)
  | false =>
    refine br_f rfl ?_
    exact F3b_c 0 E T H rfl s1 (by omega) (by omega) (by omega) (fun w H => k _ H.tail)
end Go.Proofs.YtkhmhgleglhcjaaDoor
