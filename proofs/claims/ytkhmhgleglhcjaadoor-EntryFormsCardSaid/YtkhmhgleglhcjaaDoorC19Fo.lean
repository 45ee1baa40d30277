/- What law3's EntryForms computes: true, of any two entries, any text, signed or not. Conditions: none. -/
import Derived.Test.YtkhmhgleglhcjaaDoorC19
import Derived.Test.YtkhmhgleglhcjaaDoorFEFo
set_option linter.unusedVariables false
set_option maxRecDepth 100000
namespace Go.Proofs.YtkhmhgleglhcjaaDoor
open Go Go.Sh

def F6b (k12 k14 : Nat) (s73 : ByteArray) (K : KV) (w74 : World) : Prop :=
  ld (⟨k12, 0, none⟩) (fun v75 w76 =>
  asStr (v75) (fun s77 w78 =>
  ld (⟨k12, 1, none⟩) (fun v79 w80 =>
  asI (IntKind.i64) (v79) (fun n81 w82 =>
  ld (⟨k12, 2, none⟩) (fun v83 w84 =>
  asSl (v83) (fun p85 k86 k87 w88 =>
  gocall Tryd.prog (16) [(Value.agg #[(Value.string (s77)), (Value.int IntKind.i64 (n81)), (Value.slice p85 (k86) (k87))])] (fun v89 w90 =>
  asT (2) (v89) (fun f91 w92 =>
  asStr (f91 0) (fun s93 w94 =>
  asI (IntKind.i64) (f91 1) (fun n95 w96 =>
  ld (⟨k12, 0, none⟩) (fun v97 w98 =>
  asStr (v97) (fun s99 w100 =>
  ld (⟨k12, 1, none⟩) (fun v101 w102 =>
  asI (IntKind.i64) (v101) (fun n103 w104 =>
  ld (⟨k12, 2, none⟩) (fun v105 w106 =>
  asSl (v105) (fun p107 k108 k109 w110 =>
  gocall Tryd.prog (23) [(Value.agg #[(Value.string (s99)), (Value.int IntKind.i64 (n103)), (Value.slice p107 (k108) (k109))])] (fun v111 w112 =>
  asT (2) (v111) (fun f113 w114 =>
  asStr (f113 0) (fun s115 w116 =>
  asI (IntKind.i64) (f113 1) (fun n117 w118 =>
  gocall Tryd.prog (17) [(Value.string (s73))] (fun v119 w120 =>
  asT (2) (v119) (fun f121 w122 =>
  asN (3) (f121 0) (fun f123 w124 =>
  asStr (f123 0) (fun s125 w126 =>
  asI (IntKind.i64) (f123 1) (fun n127 w128 =>
  asSl (f123 2) (fun p129 k130 k131 w132 =>
  asI (IntKind.i64) (f121 1) (fun n133 w134 =>
  nw (Obj.cells #[(Value.string ({ data := #[] })), (Value.int IntKind.i64 (0)), (Value.slice none (0) (0))] 24 (0, 0)) (fun k135 w136 =>
  st (⟨k135, 0, none⟩) (Value.string (s125)) (fun w137 =>
  st (⟨k135, 1, none⟩) (Value.int IntKind.i64 (n127)) (fun w138 =>
  st (⟨k135, 2, none⟩) (Value.slice p129 (k130) (k131)) (fun w139 =>
  gocall Tryd.prog (24) [(Value.string (s73))] (fun v140 w141 =>
  asT (2) (v140) (fun f142 w143 =>
  asN (3) (f142 0) (fun f144 w145 =>
  asStr (f144 0) (fun s146 w147 =>
  asI (IntKind.i64) (f144 1) (fun n148 w149 =>
  asSl (f144 2) (fun p150 k151 k152 w153 =>
  asI (IntKind.i64) (f142 1) (fun n154 w155 =>
  nw (Obj.cells #[(Value.string ({ data := #[] })), (Value.int IntKind.i64 (0)), (Value.slice none (0) (0))] 24 (0, 0)) (fun k156 w157 =>
  st (⟨k156, 0, none⟩) (Value.string (s146)) (fun w158 =>
  st (⟨k156, 1, none⟩) (Value.int IntKind.i64 (n148)) (fun w159 =>
  st (⟨k156, 2, none⟩) (Value.slice p150 (k151) (k152)) (fun w160 =>
  keeps (fun S161 w162 =>
  ldS (S161) (⟨k12, 0, none⟩) (fun v163 w164 =>
  asStr (v163) (fun s165 w166 =>
  ldS (S161) (⟨k12, 1, none⟩) (fun v167 w168 =>
  asI (IntKind.i64) (v167) (fun n169 w170 =>
  ldS (S161) (⟨k12, 2, none⟩) (fun v171 w172 =>
  asSl (v171) (fun p173 k174 k175 w176 =>
  ldS (S161) (⟨k12, 0, none⟩) (fun v177 w178 =>
  asStr (v177) (fun s179 w180 =>
  ldS (S161) (⟨k12, 1, none⟩) (fun v181 w182 =>
  asI (IntKind.i64) (v181) (fun n183 w184 =>
  ldS (S161) (⟨k12, 2, none⟩) (fun v185 w186 =>
  asSl (v185) (fun p187 k188 k189 w190 =>
  gocall Tryd.prog (18) [(Value.agg #[(Value.string (s165)), (Value.int IntKind.i64 (n169)), (Value.slice p173 (k174) (k175))])] (fun v191 w192 =>
  asBoo (v191) (fun b193 w194 =>
  kp (S161) (fun w195 =>
  gocall Tryd.prog (25) [(Value.agg #[(Value.string (s179)), (Value.int IntKind.i64 (n183)), (Value.slice p187 (k188) (k189))])] (fun v196 w197 =>
  asBoo (v196) (fun b198 w199 =>
  kp (S161) (fun w200 =>
  br (b193 == b198) (fun w201 =>
  ldS (S161) (⟨k12, 0, none⟩) (fun v202 w203 =>
  asStr (v202) (fun s204 w205 =>
  ldS (S161) (⟨k12, 1, none⟩) (fun v206 w207 =>
  asI (IntKind.i64) (v206) (fun n208 w209 =>
  ldS (S161) (⟨k12, 2, none⟩) (fun v210 w211 =>
  asSl (v210) (fun p212 k213 k214 w215 =>
  ldS (S161) (⟨k14, 0, none⟩) (fun v216 w217 =>
  asStr (v216) (fun s218 w219 =>
  ldS (S161) (⟨k14, 1, none⟩) (fun v220 w221 =>
  asI (IntKind.i64) (v220) (fun n222 w223 =>
  ldS (S161) (⟨k14, 2, none⟩) (fun v224 w225 =>
  asSl (v224) (fun p226 k227 k228 w229 =>
  ldS (S161) (⟨k12, 0, none⟩) (fun v230 w231 =>
  asStr (v230) (fun s232 w233 =>
  ldS (S161) (⟨k12, 1, none⟩) (fun v234 w235 =>
  asI (IntKind.i64) (v234) (fun n236 w237 =>
  ldS (S161) (⟨k12, 2, none⟩) (fun v238 w239 =>
  asSl (v238) (fun p240 k241 k242 w243 =>
  ldS (S161) (⟨k14, 0, none⟩) (fun v244 w245 =>
  asStr (v244) (fun s246 w247 =>
  ldS (S161) (⟨k14, 1, none⟩) (fun v248 w249 =>
  asI (IntKind.i64) (v248) (fun n250 w251 =>
  ldS (S161) (⟨k14, 2, none⟩) (fun v252 w253 =>
  asSl (v252) (fun p254 k255 k256 w257 =>
  gocall Tryd.prog (26) [(Value.agg #[(Value.string (s204)), (Value.int IntKind.i64 (n208)), (Value.slice p212 (k213) (k214))]), (Value.agg #[(Value.string (s218)), (Value.int IntKind.i64 (n222)), (Value.slice p226 (k227) (k228))])] (fun v258 w259 =>
  asBoo (v258) (fun b260 w261 =>
  kp (S161) (fun w262 =>
  gocall Tryd.prog (19) [(Value.agg #[(Value.string (s232)), (Value.int IntKind.i64 (n236)), (Value.slice p240 (k241) (k242))]), (Value.agg #[(Value.string (s246)), (Value.int IntKind.i64 (n250)), (Value.slice p254 (k255) (k256))])] (fun v263 w264 =>
  asBoo (v263) (fun b265 w266 =>
  kp (S161) (fun w267 =>
  br (b260 == b265) (fun w268 =>
  br (strEq s93 s115) (fun w269 =>
  br (n95 == n117) (fun w270 =>
  ldS (S161) (⟨k135, 0, none⟩) (fun v271 w272 =>
  asStr (v271) (fun s273 w274 =>
  ldS (S161) (⟨k135, 1, none⟩) (fun v275 w276 =>
  asI (IntKind.i64) (v275) (fun n277 w278 =>
  ldS (S161) (⟨k135, 2, none⟩) (fun v279 w280 =>
  asSl (v279) (fun p281 k282 k283 w284 =>
  ldS (S161) (⟨k156, 0, none⟩) (fun v285 w286 =>
  asStr (v285) (fun s287 w288 =>
  ldS (S161) (⟨k156, 1, none⟩) (fun v289 w290 =>
  asI (IntKind.i64) (v289) (fun n291 w292 =>
  ldS (S161) (⟨k156, 2, none⟩) (fun v293 w294 =>
  asSl (v293) (fun p295 k296 k297 w298 =>
  gocall Tryd.prog (19) [(Value.agg #[(Value.string (s273)), (Value.int IntKind.i64 (n277)), (Value.slice p281 (k282) (k283))]), (Value.agg #[(Value.string (s287)), (Value.int IntKind.i64 (n291)), (Value.slice p295 (k296) (k297))])] (fun v299 w300 =>
  asBoo (v299) (fun b301 w302 =>
  kp (S161) (fun w303 =>
  br (b301) (fun w304 =>
  br (n133 == n154) (fun w305 =>
  gocall Tryd.prog (14) [] (fun v306 w307 =>
  asBoo (v306) (fun b308 w309 =>
  kp (S161) (fun w310 =>
  K (Value.bool (b308)) (w310)) (w309)) (w307)) (w305)) (fun w311 =>
  K (Value.bool (false)) (w311)) (w304)) (fun w312 =>
  K (Value.bool (false)) (w312)) (w303)) (w302)) (w300)) (w298)) (w294)) (w292)) (w290)) (w288)) (w286)) (w284)) (w280)) (w278)) (w276)) (w274)) (w272)) (w270)) (fun w313 =>
  K (Value.bool (false)) (w313)) (w269)) (fun w314 =>
  K (Value.bool (false)) (w314)) (w268)) (fun w315 =>
  K (Value.bool (false)) (w315)) (w267)) (w266)) (w264)) (w262)) (w261)) (w259)) (w257)) (w253)) (w251)) (w249)) (w247)) (w245)) (w243)) (w239)) (w237)) (w235)) (w233)) (w231)) (w229)) (w225)) (w223)) (w221)) (w219)) (w217)) (w215)) (w211)) (w209)) (w207)) (w205)) (w203)) (w201)) (fun w316 =>
  K (Value.bool (false)) (w316)) (w200)) (w199)) (w197)) (w195)) (w194)) (w192)) (w190)) (w186)) (w184)) (w182)) (w180)) (w178)) (w176)) (w172)) (w170)) (w168)) (w166)) (w164)) (w162)) (w160.drew)) (w159)) (w158)) (w157)) (w155)) (w153)) (w149)) (w147)) (w145)) (w143)) (w141)) (w139)) (w138)) (w137)) (w136)) (w134)) (w132)) (w128)) (w126)) (w124)) (w122)) (w120)) (w118)) (w116)) (w114)) (w112)) (w110)) (w106)) (w104)) (w102)) (w100)) (w98)) (w96)) (w94)) (w92)) (w90)) (w88)) (w84)) (w82)) (w80)) (w78)) (w76)) (w74)
theorem parse_short (s : List UInt8) : (parseE s).2.l.length ≤ 4 := by
  by_cases h : (parseE s).1 = 0
  · exact (mayN_out (parse_ok h).1).2.2.2.2.2.2.1
  · rw [parse_no h]; simp [En.zero]
theorem F6b_c {w0 w : World} {hs : List Hp} {K : KV} {a b : En} {s : List UInt8} {k12 k14 : Nat} {p q : Option Addr} {n n' c c' : Nat} (E : Errs w0) (T : Tab w0) (H : Sh.Holds w0 (eHp k14 b.k b.id (.slice q n' c') :: eHp k12 a.k a.id (.slice p n c) :: hs) w)
    (hsl : Sl (Sh.Holds w0 hs) p n 1 (a.l.map I)) (hsm : Sl (Sh.Holds w0 hs) q n' 1 (b.l.map I)) (ha : a.k.length ≤ 50) (hal : a.l.length ≤ 20) (hl : s.length ≤ 100000)
    (k : ∀ w', Sh.Holds w0 hs w' → K (.bool true) w') : F6b k12 k14 (B s) K w := by
  unfold F6b
  have sa : Sl (Sh.Holds w0 (eHp k14 b.k b.id (.slice q n' c') :: eHp k12 a.k a.id (.slice p n c) :: hs)) p n 1 (a.l.map I) := hsl.mono fun w H => H.tail.tail
  apply ld3_h 1 H rfl
  refine Line3_c (e := a) T (by omega) sa H (fun w H => ?_)
  refine asT_e [_, _] rfl rfl ?_
  refine asStr_e (b := B (lineR a).1) rfl ?_
  refine asI_e (n := (lineR a).2) rfl ?_
  apply ld3_h 1 H rfl
  refine Line2_c (e := a) T sa H (fun w H => ?_)
  refine asT_e [_, _] rfl rfl ?_
  refine asStr_e (b := B (lineR a).1) rfl ?_
  refine asI_e (n := (lineR a).2) rfl ?_
  refine Parse_c (s := s) E T H hl (fun r w ok H => ?_)
  refine resE_h (e := (parseE s).2) ?_
  refine nw3_h (k := (parseE s).2.k) H (fun k135 w H => ?_)
  refine Parse2_c (s := s) T H hl (fun r2 w ok2 H => ?_)
  refine resE_h (e := (parseE s).2) ?_
  refine nw3_h (k := (parseE s).2.k) H (fun k156 w H => ?_)
  have H6 : ∀ {w}, Sh.Holds w0 (eHp k156 (parseE s).2.k (parseE s).2.id (.slice r2.p r2.n r2.c) :: r2.hp 3 :: eHp k135 (parseE s).2.k (parseE s).2.id (.slice r.p r.n r.c) :: r.hp 3 :: eHp k14 b.k b.id (.slice q n' c') :: eHp k12 a.k a.id (.slice p n c) :: hs) w → Sh.Holds w0 hs w := fun H => H.tail.tail.tail.tail.tail.tail
  have sa := hsl.mono (fun w => H6 (w := w))
  have sb := hsm.mono (fun w => H6 (w := w))
  have hps := parse_short s
  replace H := H.drew
  refine keeps_h H ?_
  apply ldS_h 5 rfl rfl; refine asStr_h ?_
  apply ldS_h 5 rfl rfl; refine asI_h ?_
  apply ldS_h 5 rfl rfl; refine asSl_h ?_
  apply ldS_h 5 rfl rfl; refine asStr_h ?_
  apply ldS_h 5 rfl rfl; refine asI_h ?_
  apply ldS_h 5 rfl rfl; refine asSl_h ?_
  refine MayE_c (by rw [B_size]; omega) sa H (fun w H => ?_)
  refine asBoo_h ?_
  refine kp_h H ?_
  refine MayR_c (e := a) sa H (fun w H => ?_)
  refine asBoo_h ?_
  refine kp_h H ?_
  refine br_t (show (mayN a == mayN a) = true by simp) ?_
  apply ldS_h 5 rfl rfl; refine asStr_h ?_
  apply ldS_h 5 rfl rfl; refine asI_h ?_
  apply ldS_h 5 rfl rfl; refine asSl_h ?_
  apply ldS_h 4 rfl rfl; refine asStr_h ?_
  apply ldS_h 4 rfl rfl; refine asI_h ?_
  apply ldS_h 4 rfl rfl; refine asSl_h ?_
  apply ldS_h 5 rfl rfl; refine asStr_h ?_
  apply ldS_h 5 rfl rfl; refine asI_h ?_
  apply ldS_h 5 rfl rfl; refine asSl_h ?_
  apply ldS_h 4 rfl rfl; refine asStr_h ?_
  apply ldS_h 4 rfl rfl; refine asI_h ?_
  apply ldS_h 4 rfl rfl; refine asSl_h ?_
  refine entSame_c (a := a) (b := b) H sa sb (by omega) (fun w H => ?_)
  refine asBoo_h ?_
  refine kp_h H ?_
  refine refSame_c (a := a) (b := b) H sa sb (by omega) (fun w H => ?_)
  refine asBoo_h ?_
  refine kp_h H ?_
  refine br_t (by simp) ?_
  rw [strEq_B]
  refine br_t (by simp) ?_
  refine br_t (by simp) ?_
  apply ldS_h 2 rfl rfl; refine asStr_h ?_
  apply ldS_h 2 rfl rfl; refine asI_h ?_
  apply ldS_h 2 rfl rfl; refine asSl_h ?_
  apply ldS_h 0 rfl rfl; refine asStr_h ?_
  apply ldS_h 0 rfl rfl; refine asI_h ?_
  apply ldS_h 0 rfl rfl; refine asSl_h ?_
  refine refSame_c (a := (parseE s).2) (b := (parseE s).2) H (Sl.row 3 rfl ok) (Sl.row 1 rfl ok2) (by omega) (fun w H => ?_)
  refine asBoo_h ?_
  refine kp_h H ?_
  rw [sameE_iff.2 rfl]
  refine br_t rfl ?_
  refine br_t (by simp) ?_
  refine awake3_c E T H (fun w H => ?_)
  refine asBoo_h ?_
  refine kp_h H ?_
  exact k _ (H6 H)
theorem Forms_c {w0 w : World} {hs : List Hp} {K : KV} {a b : En} {s : ByteArray} {d : Bool} {p q : Option Addr} {n n' c c' : Nat} (E : Errs w0) (T : Tab w0) (H : Sh.Holds w0 hs w) (hsl : Sl (Sh.Holds w0 hs) p n 1 (a.l.map I)) (hsm : Sl (Sh.Holds w0 hs) q n' 1 (b.l.map I))
    (k : ∀ w', Sh.Holds w0 hs w' → K (.bool true) w') : gocall Tryd.prog 6 [enV a (.slice p n c), enV b (.slice q n' c'), .string s, .bool d] K w := by
  have hn : n = a.l.length := by have := hsl.len; simp at this; omega
  obtain ⟨t, rfl⟩ : ∃ t, s = B t := ⟨s.data.toList, (B_data _).symm⟩
  apply F6_go; unfold F6
  refine nwE_h H (fun k1 w H => ?_)
  refine nwE_h H (fun k2 w H => ?_)
  have aw : ∀ {w}, Sh.Holds w0 (eHp k2 b.k b.id (.slice q n' c') :: eHp k1 a.k a.id (.slice p n c) :: hs) w → gocall Tryd.prog 14 [] (fun v w => asBoo (v) (fun b w => K (Value.bool (b)) (w)) (w)) w := by
    intro w H
    refine awake3_c E T H (fun w H => ?_)
    refine asBoo_h ?_
    exact k _ H.tail.tail
  apply ld3_h 1 H rfl
  refine light_c (e := a) H (fun w H => ?_)
  refine asBoo_h ?_
  refine br_s (fun _ => aw H) (fun h1 => ?_)
  simp only [Bool.not_eq_false', Bool.and_eq_true, decide_eq_true_eq] at h1
  apply ld3_h 0 H rfl
  refine light_c (e := b) H (fun w H => ?_)
  refine asBoo_h ?_
  refine br_s (fun _ => aw H) (fun _ => ?_)
  refine br_s (fun _ => aw H) (fun h2 => ?_)
  rw [B_size] at h2
  simp only [decide_eq_false_iff_not] at h2
  cases d with
  | true =>
    refine br_t rfl ?_
    refine Sign2_c (by rw [B_size]; omega) H (fun w H => ?_)
    refine asStr_h ?_
    rw [signL_B]
    exact F6b_c E T H hsl hsm (by omega) (by omega) (by rw [signL_len]; omega) k
  | false =>
    refine br_f rfl ?_
    exact F6b_c E T H hsl hsm (by omega) (by omega) (by omega) k
end Go.Proofs.YtkhmhgleglhcjaaDoor
