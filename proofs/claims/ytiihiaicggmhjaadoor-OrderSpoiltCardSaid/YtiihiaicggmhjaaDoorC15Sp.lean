/- What law5's OrderSpoilt computes: true, of every order and number. Conditions: none. -/
import Derived.Test.YtiihiaicggmhjaaDoorFOSp
set_option linter.unusedVariables false
set_option maxRecDepth 100000
namespace Go.Proofs.YtiihiaicggmhjaaDoor
open Go Go.Sh

def spTail (k9 k109 : Nat) (K : KV) (w134 : World) : Prop :=
  ld (⟨k109, 0, none⟩) (fun v135 w136 =>
    asI (IntKind.i64) (v135) (fun n137 w138 =>
      ld (⟨k109, 1, none⟩) (fun v139 w140 =>
        asI (IntKind.i64) (v139) (fun n141 w142 =>
          ld (⟨k109, 2, none⟩) (fun v143 w144 =>
            asI (IntKind.i64) (v143) (fun n145 w146 =>
              ld (⟨k109, 3, none⟩) (fun v147 w148 =>
                asI (IntKind.i64) (v147) (fun n149 w150 =>
                  ld (⟨k109, 4, none⟩) (fun v151 w152 =>
                    asI (IntKind.i64) (v151) (fun n153 w154 =>
                      ld (⟨k109, 5, none⟩) (fun v155 w156 =>
                        asSl (v155) (fun p157 k158 k159 w160 =>
                          gocall Tryd.prog (26) [(Value.agg #[(Value.int IntKind.i64 (n137)), (Value.int IntKind.i64 (n141)), (Value.int IntKind.i64 (n145)), (Value.int IntKind.i64 (n149)), (Value.int IntKind.i64 (n153)), (Value.slice p157 (k158) (k159))])] (fun v161 w162 =>
                            asBoo (v161) (fun b163 w164 =>
                              br (!b163) (fun w165 =>
                                ld (⟨k109, 0, none⟩) (fun v166 w167 =>
                                  asI (IntKind.i64) (v166) (fun n168 w169 =>
                                    ld (⟨k109, 1, none⟩) (fun v170 w171 =>
                                      asI (IntKind.i64) (v170) (fun n172 w173 =>
                                        ld (⟨k109, 2, none⟩) (fun v174 w175 =>
                                          asI (IntKind.i64) (v174) (fun n176 w177 =>
                                            ld (⟨k109, 3, none⟩) (fun v178 w179 =>
                                              asI (IntKind.i64) (v178) (fun n180 w181 =>
                                                ld (⟨k109, 4, none⟩) (fun v182 w183 =>
                                                  asI (IntKind.i64) (v182) (fun n184 w185 =>
                                                    ld (⟨k109, 5, none⟩) (fun v186 w187 =>
                                                      asSl (v186) (fun p188 k189 k190 w191 =>
                                                        gocall Tryd.prog (24) [(Value.agg #[(Value.int IntKind.i64 (n168)), (Value.int IntKind.i64 (n172)), (Value.int IntKind.i64 (n176)), (Value.int IntKind.i64 (n180)), (Value.int IntKind.i64 (n184)), (Value.slice p188 (k189) (k190))])] (fun v192 w193 =>
                                                          asStr (v192) (fun s194 w195 =>
                                                            br (strEq s194 { data := #[] }) (fun w196 =>
                                                              ld (⟨k9, 0, none⟩) (fun v197 w198 =>
                                                                asI (IntKind.i64) (v197) (fun n199 w200 =>
                                                                  ld (⟨k9, 1, none⟩) (fun v201 w202 =>
                                                                    asI (IntKind.i64) (v201) (fun n203 w204 =>
                                                                      ld (⟨k9, 2, none⟩) (fun v205 w206 =>
                                                                        asI (IntKind.i64) (v205) (fun n207 w208 =>
                                                                          ld (⟨k9, 3, none⟩) (fun v209 w210 =>
                                                                            asI (IntKind.i64) (v209) (fun n211 w212 =>
                                                                              ld (⟨k9, 4, none⟩) (fun v213 w214 =>
                                                                                asI (IntKind.i64) (v213) (fun n215 w216 =>
                                                                                  ld (⟨k9, 5, none⟩) (fun v217 w218 =>
                                                                                    asSl (v217) (fun p219 k220 k221 w222 =>
                                                                                      ld (⟨k109, 0, none⟩) (fun v223 w224 =>
                                                                                        asI (IntKind.i64) (v223) (fun n225 w226 =>
                                                                                          ld (⟨k109, 1, none⟩) (fun v227 w228 =>
                                                                                            asI (IntKind.i64) (v227) (fun n229 w230 =>
                                                                                              ld (⟨k109, 2, none⟩) (fun v231 w232 =>
                                                                                                asI (IntKind.i64) (v231) (fun n233 w234 =>
                                                                                                  ld (⟨k109, 3, none⟩) (fun v235 w236 =>
                                                                                                    asI (IntKind.i64) (v235) (fun n237 w238 =>
                                                                                                      ld (⟨k109, 4, none⟩) (fun v239 w240 =>
                                                                                                        asI (IntKind.i64) (v239) (fun n241 w242 =>
                                                                                                          ld (⟨k109, 5, none⟩) (fun v243 w244 =>
                                                                                                            asSl (v243) (fun p245 k246 k247 w248 =>
                                                                                                              gocall Tryd.prog (28) [(Value.agg #[(Value.int IntKind.i64 (n199)), (Value.int IntKind.i64 (n203)), (Value.int IntKind.i64 (n207)), (Value.int IntKind.i64 (n211)), (Value.int IntKind.i64 (n215)), (Value.slice p219 (k220) (k221))]), (Value.agg #[(Value.int IntKind.i64 (n225)), (Value.int IntKind.i64 (n229)), (Value.int IntKind.i64 (n233)), (Value.int IntKind.i64 (n237)), (Value.int IntKind.i64 (n241)), (Value.slice p245 (k246) (k247))])] (fun v249 w250 =>
                                                                                                                asBoo (v249) (fun b251 w252 =>
                                                                                                                  br (!b251) (fun w253 =>
                                                                                                                    ld (⟨k9, 0, none⟩) (fun v254 w255 =>
                                                                                                                      asI (IntKind.i64) (v254) (fun n256 w257 =>
                                                                                                                        ld (⟨k9, 1, none⟩) (fun v258 w259 =>
                                                                                                                          asI (IntKind.i64) (v258) (fun n260 w261 =>
                                                                                                                            ld (⟨k9, 2, none⟩) (fun v262 w263 =>
                                                                                                                              asI (IntKind.i64) (v262) (fun n264 w265 =>
                                                                                                                                ld (⟨k9, 3, none⟩) (fun v266 w267 =>
                                                                                                                                  asI (IntKind.i64) (v266) (fun n268 w269 =>
                                                                                                                                    ld (⟨k9, 4, none⟩) (fun v270 w271 =>
                                                                                                                                      asI (IntKind.i64) (v270) (fun n272 w273 =>
                                                                                                                                        ld (⟨k9, 5, none⟩) (fun v274 w275 =>
                                                                                                                                          asSl (v274) (fun p276 k277 k278 w279 =>
                                                                                                                                            ld (⟨k9, 0, none⟩) (fun v280 w281 =>
                                                                                                                                              asI (IntKind.i64) (v280) (fun n282 w283 =>
                                                                                                                                                ld (⟨k9, 1, none⟩) (fun v284 w285 =>
                                                                                                                                                  asI (IntKind.i64) (v284) (fun n286 w287 =>
                                                                                                                                                    ld (⟨k9, 2, none⟩) (fun v288 w289 =>
                                                                                                                                                      asI (IntKind.i64) (v288) (fun n290 w291 =>
                                                                                                                                                        ld (⟨k9, 3, none⟩) (fun v292 w293 =>
                                                                                                                                                          asI (IntKind.i64) (v292) (fun n294 w295 =>
                                                                                                                                                            ld (⟨k9, 4, none⟩) (fun v296 w297 =>
                                                                                                                                                              asI (IntKind.i64) (v296) (fun n298 w299 =>
                                                                                                                                                                ld (⟨k9, 5, none⟩) (fun v300 w301 =>
                                                                                                                                                                  asSl (v300) (fun p302 k303 k304 w305 =>
                                                                                                                                                                    gocall Tryd.prog (28) [(Value.agg #[(Value.int IntKind.i64 (n256)), (Value.int IntKind.i64 (n260)), (Value.int IntKind.i64 (n264)), (Value.int IntKind.i64 (n268)), (Value.int IntKind.i64 (n272)), (Value.slice p276 (k277) (k278))]), (Value.agg #[(Value.int IntKind.i64 (n282)), (Value.int IntKind.i64 (n286)), (Value.int IntKind.i64 (n290)), (Value.int IntKind.i64 (n294)), (Value.int IntKind.i64 (n298)), (Value.slice p302 (k303) (k304))])] (fun v306 w307 =>
                                                                                                                                                                      asBoo (v306) (fun b308 w309 =>
                                                                                                                                                                        br (b308) (fun w310 =>
                                                                                                                                                                          gocall Tryd.prog (23) [] (fun v311 w312 =>
                                                                                                                                                                            asBoo (v311) (fun b313 w314 =>
                                                                                                                                                                              K (Value.bool (b313)) (w314)) (w312)) (w310)) (fun w315 =>
                                                                                                                                                                          K (Value.bool (false)) (w315)) (w309)) (w307)) (w305)) (w301)) (w299)) (w297)) (w295)) (w293)) (w291)) (w289)) (w287)) (w285)) (w283)) (w281)) (w279)) (w275)) (w273)) (w271)) (w269)) (w267)) (w265)) (w263)) (w261)) (w259)) (w257)) (w255)) (w253)) (fun w316 =>
                                                                                                                    K (Value.bool (false)) (w316)) (w252)) (w250)) (w248)) (w244)) (w242)) (w240)) (w238)) (w236)) (w234)) (w232)) (w230)) (w228)) (w226)) (w224)) (w222)) (w218)) (w216)) (w214)) (w212)) (w210)) (w208)) (w206)) (w204)) (w202)) (w200)) (w198)) (w196)) (fun w317 =>
                                                              K (Value.bool (false)) (w317)) (w195)) (w193)) (w191)) (w187)) (w185)) (w183)) (w181)) (w179)) (w177)) (w175)) (w173)) (w171)) (w169)) (w167)) (w165)) (fun w318 =>
                                K (Value.bool (false)) (w318)) (w164)) (w162)) (w160)) (w156)) (w154)) (w152)) (w150)) (w148)) (w146)) (w144)) (w142)) (w140)) (w138)) (w136)) (w134)
/-- what lay in an array that is appended to lies there behind it -/
theorem app_keeps {P : Program} {t ty e : TypeId} {size bytes : Nat} (T : ElTy P t e size bytes) {w w' : World} {g n cap m c : Nat} {cur : Array Value} {xs news : List Value} {a : Addr} {v' : Value}
    (hg : w.heap[g]? = some (.cells cur e (0, 0))) (hx : cur.toList.take (n * size) = xs) (hcs : cur.size = cap * size) (hnc : n ≤ cap) (hl : news.length = m * size) (hnews : ∀ j u, news[j]? = some u → w.cell? (a.add j) = some u) (h1 : ∀ u ∈ news, u.oneCell' = true)
    (hb : (n + m) * bytes ≤ 140737488355328) (h63 : n + m ≤ maxLen) (hr : (Builtin.append_ #[t, t] ty #[.slice (some ⟨g, 0, none⟩) n cap, .slice (some a) m c]).run P w = .ok v' w') :
    ∀ j u, xs[j]? = some u → w'.cell? ⟨g, j, none⟩ = some u := by
  obtain ⟨⟨i, z, ht, hi, hz, hs1, hb1, hzs⟩, hpos⟩ := T
  subst hs1; subst hb1
  have hmul : n * i.size ≤ cur.size := by rw [hcs]; exact Nat.mul_le_mul_right _ hnc
  have hxl : xs.length = n * i.size := by rw [← hx, List.length_take, Array.length_toList]; omega
  have old : ∀ j u, xs[j]? = some u → w.cell? ⟨g, j, none⟩ = some u := by
    intro j u hj
    have hlt := (List.getElem?_eq_some_iff.1 hj).1
    rw [← hx, List.getElem?_take_of_lt (by omega)] at hj
    simp only [World.cell?, hg, Option.isSome_none, Bool.false_eq_true, if_false]
    simpa using hj
  intro j u hj
  have hlt := (List.getElem?_eq_some_iff.1 hj).1
  by_cases hroom : n + m ≤ cap
  · have hfit : n * i.size + news.length ≤ cur.size := by rw [hl, hcs, ← Nat.add_mul]; exact Nat.mul_le_mul_right _ hroom
    rw [run_append_room (P := P) w t ty e i ht hi g n cap cur hg a m c news hl hnews h1 hroom hfit] at hr
    injection hr with e1 e2
    subst e2
    rw [cell_setRow_same w g j cur _ e _ hg, hx]
    simp only [List.getElem?_toArray]
    rw [List.append_assoc, List.getElem?_append_left hlt]
    exact hj
  · simp only [maxLen] at h63
    rw [run_append_grow (P := P) w t ty e i z ht hi hz ⟨g, 0, none⟩ n cap xs hxl (fun j u hu => by rw [Addr.add_lit, Nat.zero_add]; exact old j u hu) a m c news hl hnews (by omega) (by omega) (growslice_fits (by omega) hb)] at hr
    injection hr with e1 e2
    subst e2
    have h2 := old j u hj
    have hgl : g < w.drew.heap.size := lt_of_some hg
    unfold World.cell? at h2 ⊢
    rw [show (w.drew.alloc _).heap[g]? = w.drew.heap[g]? from Array.getElem?_push_lt hgl |>.trans (Array.getElem?_eq_getElem hgl).symm]
    exact h2
theorem mayOd_bad {o p : Od} (ho : mayOd o = true) (hp : mayOd p = false) : sameOd o p = false := by
  cases e : sameOd o p with
  | false => rfl
  | true => rw [sameOd_iff.1 e, hp] at ho; cases ho
theorem spTail_c {w0 w : World} {hs : List Hp} {K : KV} {o p : Od} {q : Option Addr} {n c k9 k109 : Nat} {r : Row} (E : Errs w0) (T : Tab w0) (H : Holds w0 (odHp k109 (⟨p.id, p.item, p.qty, p.client, p.price, []⟩) r.v :: r.hp 52 :: odHp k9 ⟨o.id, o.item, o.qty, o.client, o.price, []⟩ (.slice q n c) :: hs) w)
    (ok : r.Ok 2 (sps p.steps)) (hsl : Sl (Holds w0 hs) q n 2 (sps o.steps)) (ho : mayOd o = true) (hp : mayOd p = false) (hl : p.steps.length < 1000) (hlo : o.steps.length < 1000) (k : ∀ w', Holds w0 hs w' → K (.bool true) w') : spTail k9 k109 K w := by
  have hsl' : Sl (Holds w0 (odHp k109 (⟨p.id, p.item, p.qty, p.client, p.price, []⟩) r.v :: r.hp 52 :: odHp k9 ⟨o.id, o.item, o.qty, o.client, o.price, []⟩ (.slice q n c) :: hs)) q n 2 (sps o.steps) := hsl.mono fun w H => H.tail.tail.tail
  unfold spTail
  apply ld6_h 0 H rfl
  refine mayO_c (l := p.steps) H (Sl.row 1 rfl ok) (by omega) (fun w H => ?_)
  refine asBoo_h ?_
  refine br_t (by show (!mayOd p) = true; rw [hp]; rfl) ?_
  apply ld6_h 0 H rfl
  refine Text_c (o := p) T H (Sl.row 1 rfl ok) (by omega) (fun w H => ?_)
  refine asStr_h ?_
  have e1 : odTx p = [] := by simp [odTx, hp]
  rw [e1]
  refine br_t ((strEq_B [] []).trans (by simp)) ?_
  apply ld6_h 2 H rfl
  apply ld6_h 0 H rfl
  refine Same_c (a := o) (b := p) H hsl' (Sl.row 1 rfl ok) (by omega) (fun w H => ?_)
  refine asBoo_h ?_
  rw [mayOd_bad ho hp]
  refine br_t rfl ?_
  apply ld6_h 2 H rfl
  apply ld6_h 2 H rfl
  refine Same_c (a := o) (b := o) H hsl' hsl' (by omega) (fun w H => ?_)
  refine asBoo_h ?_
  rw [sameOd_iff.2 rfl]
  refine br_t rfl ?_
  refine awake5_c E T H (fun w H => ?_)
  refine asBoo_h ?_
  exact k _ H.tail.tail.tail
theorem may_split {p : Od} (h : mayOd p = true) : stepsB p.steps = true ∧ 1 ≤ p.id ∧ p.item ≤ 7 ∧ 0 ≤ p.client ∧ 0 < p.qty ∧ p.price ≤ 1000000000 := by
  simp only [mayOd, mayO, Bool.and_eq_true, decide_eq_true_eq, inB, someB, mayB] at h
  obtain ⟨h1, h2, h3, h4, h5, h6, h7⟩ := h
  exact ⟨h1, by omega, by omega, by omega, by omega, by omega⟩
theorem not_may {p : Od} (h : ¬ (stepsB p.steps = true ∧ 1 ≤ p.id ∧ p.item ≤ 7 ∧ 0 ≤ p.client ∧ 0 < p.qty ∧ p.price ≤ 1000000000)) : mayOd p = false := by
  cases e : mayOd p with
  | false => rfl
  | true => exact absurd (may_split e) h
theorem steps_last {l : List Sp} {x : Sp} (h : stepsB (l ++ [x]) = true) : 4 ≤ x.svc ∧ idx (isSvc x.svc) (l ++ [x]) = l.length := by
  unfold stepsB at h
  rw [List.all_eq_true] at h
  have := h l.length (by simp)
  simp only [stepB, List.getElem?_append_right (Nat.le_refl _), Nat.sub_self, List.getElem?_cons_zero, Bool.and_eq_true, decide_eq_true_eq, inB] at this
  exact ⟨by omega, this.2.2⟩
theorem sps_one (l : List Sp) : ∀ u ∈ sps l, u.oneCell' = true := by
  intro u hu
  simp only [sps, List.mem_flatMap, Sp.cells] at hu
  obtain ⟨a, -, hu⟩ := hu
  simp only [List.mem_cons, List.not_mem_nil, or_false] at hu
  rcases hu with rfl | rfl <;> rfl
theorem Spoilt_c {w0 w : World} {hs : List Hp} {K : KV} {o : Od} {p : Option Addr} {n c : Nat} {x : Int} (E : Errs w0) (T : Tab w0) (H : Holds w0 hs w) (hsl : Sl (Holds w0 hs) p n 2 (sps o.steps)) (k : ∀ w', Holds w0 hs w' → K (.bool true) w') :
    gocall Tryd.prog 8 [odV o (.slice p n c), I x] K w := by
  have hn : n = o.steps.length := by have := hsl.len; rw [sps, flat_len Sp.len] at this; omega
  apply F8_go; unfold F8
  refine nwO_h H (fun k9 w H => ?_)
  apply ld6_h 0 H rfl
  refine light_c (o := o) H (fun w H => ?_)
  refine asBoo_h ?_
  refine br_s (fun h1 => ?_) (fun h1 => ?_)
  · refine awake5_c E T H (fun w H => ?_)
    refine asBoo_h ?_
    exact k _ H.tail
  have hl : o.steps.length ≤ 20 := by simp at h1; omega
  apply ld6_h 0 H rfl
  refine mayO_c (l := o.steps) H (hsl.mono fun w H => H.tail) (by omega) (fun w H => ?_)
  refine asBoo_h ?_
  refine br_s (fun h2 => ?_) (fun h2 => ?_)
  · refine awake5_c E T H (fun w H => ?_)
    refine asBoo_h ?_
    exact k _ H.tail
  have hm : mayOd o = true := by simpa [mayOd] using h2
  apply ld6_h 0 H rfl
  refine nw6_h H (fun k109 w H => ?_)
  refine nw_h H (fun k117 w H => ?_)
  have H' := H
  unfold odHp at H'
  apply ld_h 2 H' rfl rfl
  refine asSl_h ?_
  have ok0 : (Row.mk (some k117) 0 0 #[]).Ok 2 [] := ⟨rfl, (fun h => nomatch h), fun g hg => ⟨by simp, by simp [maxLen], rfl, rfl⟩⟩
  refine bapp_s (r := ⟨some k117, 0, 0, #[]⟩) el41 H (by simp) ok0 (hsl.mono fun w H => H.tail.tail.tail) (sps_one _) (by simp only; omega) (by simp only; unfold maxLen; omega) (fun r w hr ok H => ?_)
  simp only [List.nil_append] at ok
  have hrn : r.n = o.steps.length := by simp only at hr; omega
  refine asSl_h ?_
  have H' := H
  unfold odHp at H'
  apply st_h 1 H' rfl rfl rfl
  intro w H'
  replace H : Holds w0 (odHp k109 ⟨o.id, o.item, o.qty, o.client, o.price, []⟩ r.v :: r.hp 52 :: odHp k9 ⟨o.id, o.item, o.qty, o.client, o.price, []⟩ (.slice p n c) :: hs) w := Holds.bring 1 H' rfl
  clear H'
  refine ⟨by decide, ?_⟩
  have aw : ∀ {w}, Holds w0 (odHp k109 ⟨o.id, o.item, o.qty, o.client, o.price, []⟩ r.v :: r.hp 52 :: odHp k9 ⟨o.id, o.item, o.qty, o.client, o.price, []⟩ (.slice p n c) :: hs) w → gocall Tryd.prog 23 [] (fun v1276 w1277 => asBoo (v1276) (fun b1278 w1279 => K (Value.bool (b1278)) (w1279)) (w1277)) w := by
    intro w H
    refine awake5_c E T H (fun w H => ?_)
    refine asBoo_h ?_
    exact k _ H.tail.tail.tail
  have go : ∀ (q : Od) {w}, q.steps = o.steps → mayOd q = false → Holds w0 (odHp k109 ⟨q.id, q.item, q.qty, q.client, q.price, []⟩ r.v :: r.hp 52 :: odHp k9 ⟨o.id, o.item, o.qty, o.client, o.price, []⟩ (.slice p n c) :: hs) w → spTail k9 k109 K w := by
    intro q w hq hb H
    exact spTail_c (o := o) (p := q) E T H (by rw [hq]; exact ok) hsl hm hb (by rw [hq]; omega) (by omega) k
  refine br_s (fun _ => ?_) (fun _ => ?_)
  · unfold odHp at H
    apply st_h 0 H rfl rfl rfl; intro w H
    exact go ⟨0, o.item, o.qty, o.client, o.price, o.steps⟩ rfl (not_may (by rintro ⟨-, h, -⟩; simp only at h; omega)) H
  refine br_s (fun _ => ?_) (fun _ => ?_)
  · unfold odHp at H
    apply st_h 0 H rfl rfl rfl; intro w H
    exact go ⟨o.id, 8, o.qty, o.client, o.price, o.steps⟩ rfl (not_may (by rintro ⟨-, -, h, -⟩; simp only at h; omega)) H
  refine br_s (fun _ => ?_) (fun _ => ?_)
  · unfold odHp at H
    apply st_h 0 H rfl rfl rfl; intro w H
    exact go ⟨o.id, o.item, o.qty, -1, o.price, o.steps⟩ rfl (not_may (by rintro ⟨-, -, -, h, -⟩; simp only at h; omega)) H
  refine br_s (fun _ => ?_) (fun _ => ?_)
  · unfold odHp at H
    apply st_h 0 H rfl rfl rfl; intro w H
    exact go ⟨o.id, o.item, 0, o.client, o.price, o.steps⟩ rfl (not_may (by rintro ⟨-, -, -, -, h, -⟩; simp only at h; omega)) H
  refine br_s (fun _ => ?_) (fun _ => ?_)
  · unfold odHp at H
    apply st_h 0 H rfl rfl rfl; intro w H
    exact go ⟨o.id, o.item, o.qty, o.client, 1000000001, o.steps⟩ rfl (not_may (by rintro ⟨-, -, -, -, -, h⟩; simp only at h; omega)) H
  refine br_s (fun _ => ?_) (fun _ => ?_)
  · have H' := H
    unfold odHp at H'
    apply ld_h 0 H' rfl rfl
    refine asSl_h ?_
    clear H'
    refine nw_h H (fun k2 w H => ?_)
    refine bapp1_h (news := Sp.cells ⟨3, 1⟩) el41 0 (H := Holds.bring 2 H rfl) rfl ok rfl (by simp [Sp.cells, Value.oneCell']) (by omega) (by unfold maxLen; omega) (fun r2 w hr2 ok2 H => ?_)
    refine asSl_h ?_
    have H' := H
    unfold odHp at H'
    apply st_h 2 H' rfl rfl rfl
    intro w H'
    refine spTail_c (o := o) (p := ⟨o.id, o.item, o.qty, o.client, o.price, o.steps ++ [⟨3, 1⟩]⟩) (r := r2) E T (Sub.holds (Sub.cons 2 rfl (Sub.cons 0 rfl (Sub.skip (Sub.refl _)))) H') (by simpa [sps] using ok2) hsl hm ?_ (by simp; omega) (by omega) k
    refine not_may ?_
    rintro ⟨h, -⟩
    have := (steps_last h).1
    simp at this
  have H' := H
  unfold odHp at H'
  apply ld_h 0 H' rfl rfl
  refine asSl_h ?_
  clear H'
  refine br_s (fun h9 => aw H) (fun h9 => ?_)
  obtain ⟨s0, rest, hst⟩ : ∃ s0 rest, o.steps = s0 :: rest := by
    cases h : o.steps with
    | nil => rw [hrn, h] at h9; simp at h9
    | cons a b => exact ⟨a, b, rfl⟩
  have hpos : 0 < r.n := by rw [hrn, hst]; simp
  obtain ⟨g, hg⟩ : ∃ g, r.g = some g := by
    cases h : r.g with
    | none => have := (ok.no h).1; omega
    | some g => exact ⟨g, rfl⟩
  have hrp : r.p = some ⟨g, 0, none⟩ := by simp [Row.p, hg]
  have hcell : ∀ (hs : List Hp) (i : Nat) {w}, hs[i]? = some (r.hp 52) → Holds w0 hs w → ∀ j u, (sps o.steps)[j]? = some u → w.cell? ⟨g, j, none⟩ = some u := by
    intro hs i w hi H j u hu
    have := ((Sl.row i hi ok).yes _ hrp).2 j u hu w H
    simpa using this
  replace H := H.drew
  refine ⟨fun w => Holds w0 [odHp k109 ⟨o.id, o.item, o.qty, o.client, o.price, []⟩ r.v] w ∧ ∀ j u, (sps o.steps)[j]? = some u → w.cell? ⟨g, j, none⟩ = some u, ⟨Sub.holds (Sub.cons 0 rfl (Sub.nil _)) H, hcell _ 1 rfl H⟩, ?_⟩
  have rd : ∀ w', (Holds w0 [odHp k109 ⟨o.id, o.item, o.qty, o.client, o.price, []⟩ r.v] w' ∧ ∀ j u, (sps o.steps)[j]? = some u → w'.cell? ⟨g, j, none⟩ = some u) → w'.cell? ⟨k109, 5, none⟩ = some r.v := fun w' hS => by
    have := hS.1.mem 0 (k := k109) rfl
    simp [World.cell?, this]
  refine ⟨r.v, rd, ?_⟩
  refine asSl_h ?_
  refine ⟨r.v, rd, ?_⟩
  refine asSl_h ?_
  refine slAt_h ok (by omega) (by omega) (fun g' hg' => ?_)
  have hgg : g' = g := by rw [hg] at hg'; cases hg'; rfl
  subst hgg
  refine ⟨I s0.svc, fun w' hS => hS.2 0 _ (by rw [hst]; rfl), ?_⟩
  refine asI_h ?_
  refine ⟨I s0.n, fun w' hS => hS.2 1 _ (by rw [hst]; rfl), ?_⟩
  refine asI_h ?_
  refine nw_h H (fun k2 w H => ?_)
  refine ⟨⟨Sub.holds (Sub.cons 1 rfl (Sub.nil _)) H, hcell _ 2 rfl H⟩, ?_⟩
  have hb : bapp .full Tryd.prog #[41, 41] 41 r.v (.slice (some ⟨k2, 0, none⟩) 1 1) (fun v w' => ∃ r2 : Row, v = r2.v ∧ r2.n = r.n + 1 ∧ r2.Ok 2 (sps o.steps ++ Sp.cells s0) ∧ Holds w0 (r2.hp 52 :: [(k2, .cells (Sp.cells s0).toArray 52 (0, 0))] :: odHp k109 ⟨o.id, o.item, o.qty, o.client, o.price, []⟩ r.v :: odHp k9 ⟨o.id, o.item, o.qty, o.client, o.price, []⟩ (.slice p n c) :: hs) w') w := by
    refine bapp1_h (news := Sp.cells s0) el41 0 (H := Holds.bring 2 H rfl) rfl ok rfl (by simp [Sp.cells, Value.oneCell']) (by omega) (by unfold maxLen; omega) (fun r2 w hr2 ok2 H => ?_)
    exact ⟨r2, rfl, hr2, ok2, H⟩
  obtain ⟨v, w', hrun, hfull, r2, rfl, hr2, ok2, H2⟩ := hb
  refine ⟨r2.v, w', hrun, hfull, ?_⟩
  have hgw : w.heap[g']? = some (.cells r.cur 52 (0, 0)) := H.mem 2 (by simp [Row.hp, hg])
  have hk2 := H.mem 0 (k := k2) rfl
  obtain ⟨y1, y2, y3, y4⟩ := ok.yes g' hg
  rw [show r.v = .slice (some ⟨g', 0, none⟩) r.n r.c by simp [Row.v, hrp]] at hrun
  have hkeep := app_keeps el41 hgw y4 y3 y1 (a := ⟨k2, 0, none⟩) (m := 1) (news := Sp.cells s0) rfl (fun j u hu => by
    rw [Addr.add_lit, Nat.zero_add]
    simp only [World.cell?, hk2, Option.isSome_none, Bool.false_eq_true, if_false]
    simpa [Sp.cells] using hu) (by simp [Sp.cells, Value.oneCell']) (by omega) (by unfold maxLen; omega) hrun
  refine asSl_h ?_
  refine ⟨⟨Sub.holds (Sub.cons 2 rfl (Sub.nil _)) H2, hkeep⟩, ?_⟩
  have H' := H2
  unfold odHp at H'
  apply st_h 2 H' rfl rfl rfl
  intro w H'
  refine spTail_c (o := o) (p := ⟨o.id, o.item, o.qty, o.client, o.price, o.steps ++ [s0]⟩) (r := r2) E T (Sub.holds (Sub.cons 2 rfl (Sub.cons 0 rfl (Sub.skip (Sub.refl _)))) H') (by simpa [sps] using ok2) hsl hm ?_ (by simp; omega) (by omega) k
  refine not_may ?_
  rintro ⟨h, -⟩
  have h8 := (steps_last h).2
  have h7 : idx (isSvc s0.svc) (o.steps ++ [s0]) = 0 := by
    rw [hst]
    simp [idx, List.findIdx?_cons, isSvc]
  rw [h7, hst] at h8
  simp at h8
  try omega
end Go.Proofs.YtiihiaicggmhjaaDoor
