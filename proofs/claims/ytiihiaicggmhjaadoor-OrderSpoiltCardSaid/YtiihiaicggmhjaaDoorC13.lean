/- Contract of order's Parse. Conditions: none. -/
import Derived.Test.YtiihiaicggmhjaaDoorC12
set_option linter.unusedVariables false
set_option maxRecDepth 100000
namespace Go.Proofs.YtiihiaicggmhjaaDoor
open Go Go.Sh

theorem el41 : ElTy Tryd.prog 41 52 2 16 := ⟨⟨_, _, rfl, rfl, rfl, rfl, rfl, rfl⟩, by decide⟩
def mayOd (o : Od) : Bool := mayO o.id o.item o.qty o.client o.price o.steps
def Od.zero : Od := ⟨0, 0, 0, 0, 0, []⟩
def goodR (r : List UInt8 × Bool × Od) : Bool := decide (r.1 = []) && (!r.2.1 && mayOd r.2.2)
def parseO (s : List UInt8) : Option Od := if goodR (parseR s) = true then some (parseR s).2.2 else none
theorem rounds_stop {f : Nat} {s : List UInt8} {b : Bool} {l : List Sp} (h : s = [] ∨ b = true ∨ 3 < l.length) : rounds f s b l = (s, b, l) := by
  cases f with
  | zero => rfl
  | succ f =>
    rw [rounds, if_neg]
    rintro ⟨h1, h2, h3⟩
    rcases h with h | h | h
    · exact h1 h
    · rw [h] at h2; cases h2
    · omega
/-- how much room the steps in the order's cell leave -/
def left5 (k : Nat) (w : World) : Nat := match w.heap[k]? with
  | some (.cells cs _ _) => (match (cs[5]? : Option Value) with
    | some (Value.slice _ n _) => 5 - n
    | _ => 0)
  | _ => 0
def zeroTail (k1 : Nat) (K : KV) (w93 : World) : Prop :=
  st (⟨k1, 0, none⟩) (Value.int IntKind.i64 (0)) (fun w94 =>
    st (⟨k1, 1, none⟩) (Value.int IntKind.i64 (0)) (fun w95 =>
      st (⟨k1, 2, none⟩) (Value.int IntKind.i64 (0)) (fun w96 =>
        st (⟨k1, 3, none⟩) (Value.int IntKind.i64 (0)) (fun w97 =>
          st (⟨k1, 4, none⟩) (Value.int IntKind.i64 (0)) (fun w98 =>
            st (⟨k1, 5, none⟩) (Value.slice none (0) (0)) (fun w99 =>
              ld (⟨k1, 0, none⟩) (fun v100 w101 =>
                asI (IntKind.i64) (v100) (fun n102 w103 =>
                  ld (⟨k1, 1, none⟩) (fun v104 w105 =>
                    asI (IntKind.i64) (v104) (fun n106 w107 =>
                      ld (⟨k1, 2, none⟩) (fun v108 w109 =>
                        asI (IntKind.i64) (v108) (fun n110 w111 =>
                          ld (⟨k1, 3, none⟩) (fun v112 w113 =>
                            asI (IntKind.i64) (v112) (fun n114 w115 =>
                              ld (⟨k1, 4, none⟩) (fun v116 w117 =>
                                asI (IntKind.i64) (v116) (fun n118 w119 =>
                                  ld (⟨k1, 5, none⟩) (fun v120 w121 =>
                                    asSl (v120) (fun p122 k123 k124 w125 =>
                                      K (Value.tuple #[(Value.agg #[(Value.int IntKind.i64 (n102)), (Value.int IntKind.i64 (n106)), (Value.int IntKind.i64 (n110)), (Value.int IntKind.i64 (n114)), (Value.int IntKind.i64 (n118)), (Value.slice p122 (k123) (k124))]), (Value.int IntKind.i64 (2))]) (w125)) (w121)) (w119)) (w117)) (w115)) (w113)) (w111)) (w109)) (w107)) (w105)) (w103)) (w101)) (w99)) (w98)) (w97)) (w96)) (w95)) (w94)) (w93)
def goodTail (k1 k25 : Nat) (K : KV) (w230 : World) : Prop :=
  ld (⟨k25, 0, none⟩) (fun v231 w232 =>
    asI (IntKind.i64) (v231) (fun n233 w234 =>
      ld (⟨k25, 1, none⟩) (fun v235 w236 =>
        asI (IntKind.i64) (v235) (fun n237 w238 =>
          ld (⟨k25, 2, none⟩) (fun v239 w240 =>
            asI (IntKind.i64) (v239) (fun n241 w242 =>
              ld (⟨k25, 3, none⟩) (fun v243 w244 =>
                asI (IntKind.i64) (v243) (fun n245 w246 =>
                  ld (⟨k25, 4, none⟩) (fun v247 w248 =>
                    asI (IntKind.i64) (v247) (fun n249 w250 =>
                      ld (⟨k25, 5, none⟩) (fun v251 w252 =>
                        asSl (v251) (fun p253 k254 k255 w256 =>
                          st (⟨k1, 0, none⟩) (Value.int IntKind.i64 (n233)) (fun w257 =>
                            st (⟨k1, 1, none⟩) (Value.int IntKind.i64 (n237)) (fun w258 =>
                              st (⟨k1, 2, none⟩) (Value.int IntKind.i64 (n241)) (fun w259 =>
                                st (⟨k1, 3, none⟩) (Value.int IntKind.i64 (n245)) (fun w260 =>
                                  st (⟨k1, 4, none⟩) (Value.int IntKind.i64 (n249)) (fun w261 =>
                                    st (⟨k1, 5, none⟩) (Value.slice p253 (k254) (k255)) (fun w262 =>
                                      ld (⟨k1, 0, none⟩) (fun v263 w264 =>
                                        asI (IntKind.i64) (v263) (fun n265 w266 =>
                                          ld (⟨k1, 1, none⟩) (fun v267 w268 =>
                                            asI (IntKind.i64) (v267) (fun n269 w270 =>
                                              ld (⟨k1, 2, none⟩) (fun v271 w272 =>
                                                asI (IntKind.i64) (v271) (fun n273 w274 =>
                                                  ld (⟨k1, 3, none⟩) (fun v275 w276 =>
                                                    asI (IntKind.i64) (v275) (fun n277 w278 =>
                                                      ld (⟨k1, 4, none⟩) (fun v279 w280 =>
                                                        asI (IntKind.i64) (v279) (fun n281 w282 =>
                                                          ld (⟨k1, 5, none⟩) (fun v283 w284 =>
                                                            asSl (v283) (fun p285 k286 k287 w288 =>
                                                              K (Value.tuple #[(Value.agg #[(Value.int IntKind.i64 (n265)), (Value.int IntKind.i64 (n269)), (Value.int IntKind.i64 (n273)), (Value.int IntKind.i64 (n277)), (Value.int IntKind.i64 (n281)), (Value.slice p285 (k286) (k287))]), (Value.int IntKind.i64 (0))]) (w288)) (w284)) (w282)) (w280)) (w278)) (w276)) (w274)) (w272)) (w270)) (w268)) (w266)) (w264)) (w262)) (w261)) (w260)) (w259)) (w258)) (w257)) (w256)) (w252)) (w250)) (w248)) (w246)) (w244)) (w242)) (w240)) (w238)) (w236)) (w234)) (w232)) (w230)
def parseTail (k1 k3 k25 : Nat) (K : KV) (w86 : World) : Prop :=
  nn ((some ⟨k3, 0, none⟩)) (fun a87 w88 =>
    ld (⟨a87.block, a87.off + 1, none⟩) (fun v89 w90 =>
      asBoo (v89) (fun b91 w92 =>
        br (b91) (fun w93 =>
          st (⟨k1, 0, none⟩) (Value.int IntKind.i64 (0)) (fun w94 =>
            st (⟨k1, 1, none⟩) (Value.int IntKind.i64 (0)) (fun w95 =>
              st (⟨k1, 2, none⟩) (Value.int IntKind.i64 (0)) (fun w96 =>
                st (⟨k1, 3, none⟩) (Value.int IntKind.i64 (0)) (fun w97 =>
                  st (⟨k1, 4, none⟩) (Value.int IntKind.i64 (0)) (fun w98 =>
                    st (⟨k1, 5, none⟩) (Value.slice none (0) (0)) (fun w99 =>
                      ld (⟨k1, 0, none⟩) (fun v100 w101 =>
                        asI (IntKind.i64) (v100) (fun n102 w103 =>
                          ld (⟨k1, 1, none⟩) (fun v104 w105 =>
                            asI (IntKind.i64) (v104) (fun n106 w107 =>
                              ld (⟨k1, 2, none⟩) (fun v108 w109 =>
                                asI (IntKind.i64) (v108) (fun n110 w111 =>
                                  ld (⟨k1, 3, none⟩) (fun v112 w113 =>
                                    asI (IntKind.i64) (v112) (fun n114 w115 =>
                                      ld (⟨k1, 4, none⟩) (fun v116 w117 =>
                                        asI (IntKind.i64) (v116) (fun n118 w119 =>
                                          ld (⟨k1, 5, none⟩) (fun v120 w121 =>
                                            asSl (v120) (fun p122 k123 k124 w125 =>
                                              K (Value.tuple #[(Value.agg #[(Value.int IntKind.i64 (n102)), (Value.int IntKind.i64 (n106)), (Value.int IntKind.i64 (n110)), (Value.int IntKind.i64 (n114)), (Value.int IntKind.i64 (n118)), (Value.slice p122 (k123) (k124))]), (Value.int IntKind.i64 (2))]) (w125)) (w121)) (w119)) (w117)) (w115)) (w113)) (w111)) (w109)) (w107)) (w105)) (w103)) (w101)) (w99)) (w98)) (w97)) (w96)) (w95)) (w94)) (w93)) (fun w126 =>
          nn ((some ⟨k3, 0, none⟩)) (fun a127 w128 =>
            ld (a127) (fun v129 w130 =>
              asStr (v129) (fun s131 w132 =>
                br (!strEq s131 { data := #[] }) (fun w133 =>
                  st (⟨k1, 0, none⟩) (Value.int IntKind.i64 (0)) (fun w134 =>
                    st (⟨k1, 1, none⟩) (Value.int IntKind.i64 (0)) (fun w135 =>
                      st (⟨k1, 2, none⟩) (Value.int IntKind.i64 (0)) (fun w136 =>
                        st (⟨k1, 3, none⟩) (Value.int IntKind.i64 (0)) (fun w137 =>
                          st (⟨k1, 4, none⟩) (Value.int IntKind.i64 (0)) (fun w138 =>
                            st (⟨k1, 5, none⟩) (Value.slice none (0) (0)) (fun w139 =>
                              ld (⟨k1, 0, none⟩) (fun v140 w141 =>
                                asI (IntKind.i64) (v140) (fun n142 w143 =>
                                  ld (⟨k1, 1, none⟩) (fun v144 w145 =>
                                    asI (IntKind.i64) (v144) (fun n146 w147 =>
                                      ld (⟨k1, 2, none⟩) (fun v148 w149 =>
                                        asI (IntKind.i64) (v148) (fun n150 w151 =>
                                          ld (⟨k1, 3, none⟩) (fun v152 w153 =>
                                            asI (IntKind.i64) (v152) (fun n154 w155 =>
                                              ld (⟨k1, 4, none⟩) (fun v156 w157 =>
                                                asI (IntKind.i64) (v156) (fun n158 w159 =>
                                                  ld (⟨k1, 5, none⟩) (fun v160 w161 =>
                                                    asSl (v160) (fun p162 k163 k164 w165 =>
                                                      K (Value.tuple #[(Value.agg #[(Value.int IntKind.i64 (n142)), (Value.int IntKind.i64 (n146)), (Value.int IntKind.i64 (n150)), (Value.int IntKind.i64 (n154)), (Value.int IntKind.i64 (n158)), (Value.slice p162 (k163) (k164))]), (Value.int IntKind.i64 (2))]) (w165)) (w161)) (w159)) (w157)) (w155)) (w153)) (w151)) (w149)) (w147)) (w145)) (w143)) (w141)) (w139)) (w138)) (w137)) (w136)) (w135)) (w134)) (w133)) (fun w166 =>
                  ld (⟨k25, 0, none⟩) (fun v167 w168 =>
                    asI (IntKind.i64) (v167) (fun n169 w170 =>
                      ld (⟨k25, 1, none⟩) (fun v171 w172 =>
                        asI (IntKind.i64) (v171) (fun n173 w174 =>
                          ld (⟨k25, 2, none⟩) (fun v175 w176 =>
                            asI (IntKind.i64) (v175) (fun n177 w178 =>
                              ld (⟨k25, 3, none⟩) (fun v179 w180 =>
                                asI (IntKind.i64) (v179) (fun n181 w182 =>
                                  ld (⟨k25, 4, none⟩) (fun v183 w184 =>
                                    asI (IntKind.i64) (v183) (fun n185 w186 =>
                                      ld (⟨k25, 5, none⟩) (fun v187 w188 =>
                                        asSl (v187) (fun p189 k190 k191 w192 =>
                                          gocall Tryd.prog (26) [(Value.agg #[(Value.int IntKind.i64 (n169)), (Value.int IntKind.i64 (n173)), (Value.int IntKind.i64 (n177)), (Value.int IntKind.i64 (n181)), (Value.int IntKind.i64 (n185)), (Value.slice p189 (k190) (k191))])] (fun v193 w194 =>
                                            asBoo (v193) (fun b195 w196 =>
                                              br (!b195) (fun w197 =>
                                                st (⟨k1, 0, none⟩) (Value.int IntKind.i64 (0)) (fun w198 =>
                                                  st (⟨k1, 1, none⟩) (Value.int IntKind.i64 (0)) (fun w199 =>
                                                    st (⟨k1, 2, none⟩) (Value.int IntKind.i64 (0)) (fun w200 =>
                                                      st (⟨k1, 3, none⟩) (Value.int IntKind.i64 (0)) (fun w201 =>
                                                        st (⟨k1, 4, none⟩) (Value.int IntKind.i64 (0)) (fun w202 =>
                                                          st (⟨k1, 5, none⟩) (Value.slice none (0) (0)) (fun w203 =>
                                                            ld (⟨k1, 0, none⟩) (fun v204 w205 =>
                                                              asI (IntKind.i64) (v204) (fun n206 w207 =>
                                                                ld (⟨k1, 1, none⟩) (fun v208 w209 =>
                                                                  asI (IntKind.i64) (v208) (fun n210 w211 =>
                                                                    ld (⟨k1, 2, none⟩) (fun v212 w213 =>
                                                                      asI (IntKind.i64) (v212) (fun n214 w215 =>
                                                                        ld (⟨k1, 3, none⟩) (fun v216 w217 =>
                                                                          asI (IntKind.i64) (v216) (fun n218 w219 =>
                                                                            ld (⟨k1, 4, none⟩) (fun v220 w221 =>
                                                                              asI (IntKind.i64) (v220) (fun n222 w223 =>
                                                                                ld (⟨k1, 5, none⟩) (fun v224 w225 =>
                                                                                  asSl (v224) (fun p226 k227 k228 w229 =>
                                                                                    K (Value.tuple #[(Value.agg #[(Value.int IntKind.i64 (n206)), (Value.int IntKind.i64 (n210)), (Value.int IntKind.i64 (n214)), (Value.int IntKind.i64 (n218)), (Value.int IntKind.i64 (n222)), (Value.slice p226 (k227) (k228))]), (Value.int IntKind.i64 (2))]) (w229)) (w225)) (w223)) (w221)) (w219)) (w217)) (w215)) (w213)) (w211)) (w209)) (w207)) (w205)) (w203)) (w202)) (w201)) (w200)) (w199)) (w198)) (w197)) (fun w230 =>
                                                ld (⟨k25, 0, none⟩) (fun v231 w232 =>
                                                  asI (IntKind.i64) (v231) (fun n233 w234 =>
                                                    ld (⟨k25, 1, none⟩) (fun v235 w236 =>
                                                      asI (IntKind.i64) (v235) (fun n237 w238 =>
                                                        ld (⟨k25, 2, none⟩) (fun v239 w240 =>
                                                          asI (IntKind.i64) (v239) (fun n241 w242 =>
                                                            ld (⟨k25, 3, none⟩) (fun v243 w244 =>
                                                              asI (IntKind.i64) (v243) (fun n245 w246 =>
                                                                ld (⟨k25, 4, none⟩) (fun v247 w248 =>
                                                                  asI (IntKind.i64) (v247) (fun n249 w250 =>
                                                                    ld (⟨k25, 5, none⟩) (fun v251 w252 =>
                                                                      asSl (v251) (fun p253 k254 k255 w256 =>
                                                                        st (⟨k1, 0, none⟩) (Value.int IntKind.i64 (n233)) (fun w257 =>
                                                                          st (⟨k1, 1, none⟩) (Value.int IntKind.i64 (n237)) (fun w258 =>
                                                                            st (⟨k1, 2, none⟩) (Value.int IntKind.i64 (n241)) (fun w259 =>
                                                                              st (⟨k1, 3, none⟩) (Value.int IntKind.i64 (n245)) (fun w260 =>
                                                                                st (⟨k1, 4, none⟩) (Value.int IntKind.i64 (n249)) (fun w261 =>
                                                                                  st (⟨k1, 5, none⟩) (Value.slice p253 (k254) (k255)) (fun w262 =>
                                                                                    ld (⟨k1, 0, none⟩) (fun v263 w264 =>
                                                                                      asI (IntKind.i64) (v263) (fun n265 w266 =>
                                                                                        ld (⟨k1, 1, none⟩) (fun v267 w268 =>
                                                                                          asI (IntKind.i64) (v267) (fun n269 w270 =>
                                                                                            ld (⟨k1, 2, none⟩) (fun v271 w272 =>
                                                                                              asI (IntKind.i64) (v271) (fun n273 w274 =>
                                                                                                ld (⟨k1, 3, none⟩) (fun v275 w276 =>
                                                                                                  asI (IntKind.i64) (v275) (fun n277 w278 =>
                                                                                                    ld (⟨k1, 4, none⟩) (fun v279 w280 =>
                                                                                                      asI (IntKind.i64) (v279) (fun n281 w282 =>
                                                                                                        ld (⟨k1, 5, none⟩) (fun v283 w284 =>
                                                                                                          asSl (v283) (fun p285 k286 k287 w288 =>
                                                                                                            K (Value.tuple #[(Value.agg #[(Value.int IntKind.i64 (n265)), (Value.int IntKind.i64 (n269)), (Value.int IntKind.i64 (n273)), (Value.int IntKind.i64 (n277)), (Value.int IntKind.i64 (n281)), (Value.slice p285 (k286) (k287))]), (Value.int IntKind.i64 (0))]) (w288)) (w284)) (w282)) (w280)) (w278)) (w276)) (w274)) (w272)) (w270)) (w268)) (w266)) (w264)) (w262)) (w261)) (w260)) (w259)) (w258)) (w257)) (w256)) (w252)) (w250)) (w248)) (w246)) (w244)) (w242)) (w240)) (w238)) (w236)) (w234)) (w232)) (w230)) (w196)) (w194)) (w192)) (w188)) (w186)) (w184)) (w182)) (w180)) (w178)) (w176)) (w174)) (w172)) (w170)) (w168)) (w166)) (w132)) (w130)) (w128)) (w126)) (w92)) (w90)) (w88)) (w86)
theorem zeroTail_c {w0 w : World} {hs : List Hp} {K : KV} {k1 : Nat} (H : Holds w0 (zeroHp k1 :: hs) w) (kb : ∀ w', Holds w0 hs w' → K (.tuple #[odV Od.zero Row.nil.v, I 2]) w') : zeroTail k1 K w := by
  unfold zeroTail
  refine st6_h (o := Od.zero) H (fun w H => ?_)
  apply ld6_h 0 H rfl
  exact kb _ H.tail
theorem goodTail_c {w0 w : World} {hs : List Hp} {K : KV} {k1 k3 k25 : Nat} {s : List UInt8} {b : Bool} {o : Od} {r : Row} (H : Holds w0 (odHp k25 o r.v :: scHp k3 s b :: r.hp 52 :: zeroHp k1 :: hs) w)
    (kg : ∀ w', Holds w0 (r.hp 52 :: hs) w' → K (.tuple #[odV o r.v, I 0]) w') : goodTail k1 k25 K w := by
  unfold goodTail
  apply ld6_h 0 H rfl
  replace H : Holds w0 (zeroHp k1 :: r.hp 52 :: hs) _ := Sub.holds (Sub.cons 3 rfl (Sub.cons 2 rfl (Sub.skip (Sub.skip (Sub.refl _))))) H
  refine st6_h (o := Od.zero) H (fun w H => ?_)
  apply ld6_h 0 H rfl
  exact kg _ H.tail
theorem parseTail_c {w0 w : World} {hs : List Hp} {K : KV} {k1 k3 k25 : Nat} {s : List UInt8} {b : Bool} {o : Od} {r : Row} (H : Holds w0 (odHp k25 o r.v :: scHp k3 s b :: r.hp 52 :: zeroHp k1 :: hs) w) (ok : r.Ok 2 (sps o.steps)) (hl : o.steps.length < 1000000)
    (kb : goodR (s, b, o) = false → ∀ w', Holds w0 hs w' → K (.tuple #[odV Od.zero Row.nil.v, I 2]) w') (kg : goodR (s, b, o) = true → ∀ w', Holds w0 (r.hp 52 :: hs) w' → K (.tuple #[odV o r.v, I 0]) w') : parseTail k1 k3 k25 K w := by
  have hn : r.n = o.steps.length := by have := ok.len; rw [sps, flat_len Sp.len] at this; omega
  unfold parseTail
  have hz : ∀ w, Holds w0 (odHp k25 o r.v :: scHp k3 s b :: r.hp 52 :: zeroHp k1 :: hs) w → Holds w0 (zeroHp k1 :: hs) w := fun w H => H.tail.tail.tail
  refine nn_h ?_
  apply ld_h 1 H rfl rfl
  refine asBoo_h ?_
  refine br_s (fun h1 => ?_) (fun h1 => ?_)
  · exact zeroTail_c (hz _ H) (kb (by simp [goodR, h1]))
  refine nn_h ?_
  apply ld_h 1 H rfl rfl
  refine asStr_h ?_
  refine br_s (fun h2 => ?_) (fun h2 => ?_)
  · refine zeroTail_c (hz _ H) (kb ?_)
    have : ¬ s = [] := by
      intro e; subst e
      rw [strEq_B [] []] at h2; simp at h2
    simp [goodR, this]
  have hs0 : s = [] := by
    have h3 : strEq (B s) (B []) = true := by simpa using h2
    rw [strEq_B] at h3
    exact of_decide_eq_true h3
  apply ld6_h 0 H rfl
  refine mayO_c (l := o.steps) H (Sl.row 2 rfl ok) hl (fun w H => ?_)
  refine asBoo_h ?_
  refine br_s (fun h3 => ?_) (fun h3 => ?_)
  · refine zeroTail_c (hz _ H) (kb ?_)
    have : mayOd o = false := by simpa [mayOd] using h3
    simp [goodR, this]
  refine goodTail_c H (kg ?_)
  have : mayOd o = true := by simpa [mayOd] using h3
  simp [goodR, this, hs0, h1]
theorem Parse_c {w0 w : World} {hs : List Hp} {K : KV} {s : List UInt8} (E : Errs w0) (T : Tab w0) (H : Holds w0 hs w) (hl : s.length ≤ 100000)
    (k : ∀ (r : Row) w', r.Ok 2 (sps ((parseO s).getD Od.zero).steps) → Holds w0 (r.hp 52 :: hs) w' → K (.tuple #[odV ((parseO s).getD Od.zero) r.v, I (if (parseO s).isSome then 0 else 2)]) w') : gocall Tryd.prog 25 [.string (B s)] K w := by
  apply F25_go; unfold F25
  refine nw_h H (fun k1 w H => ?_)
  refine nw_h H (fun k3 w H => ?_)
  refine number_c (q := k3) (s := s) (bad := false) (g := lHash) E T H hl (fun w H => ?_)
  refine asI_h ?_
  have l1 := numS_len (g := lHash) (s := s)
  refine number_c (g := lColon) E T H (by omega) (fun w H => ?_)
  refine asI_h ?_
  have l2 := numS_len (g := lColon) (s := numS lHash s)
  refine number_c (g := lX) E T H (by omega) (fun w H => ?_)
  refine asI_h ?_
  have l3 := numS_len (g := lX) (s := numS lColon (numS lHash s))
  refine number_c (g := lFor) E T H (by omega) (fun w H => ?_)
  refine asI_h ?_
  have l4 := numS_len (g := lFor) (s := numS lX (numS lColon (numS lHash s)))
  refine number_c (g := lBy) E T H (by omega) (fun w H => ?_)
  refine asI_h ?_
  have l5 := numS_len (g := lBy) (s := numS lFor (numS lX (numS lColon (numS lHash s))))
  refine nw6_h H (fun k25 w H => ?_)
  have hp : (parseR s) = (parseR s) := rfl
  obtain ⟨R, hR⟩ : ∃ R, rounds 4 (numS lBy (numS lFor (numS lX (numS lColon (numS lHash s))))) (((((false || numB lHash s) || numB lColon (numS lHash s)) || numB lX (numS lColon (numS lHash s))) || numB lFor (numS lX (numS lColon (numS lHash s)))) || numB lBy (numS lFor (numS lX (numS lColon (numS lHash s))))) [] = R := ⟨_, rfl⟩
  have hpR : parseR s = (R.1, R.2.1, ⟨numN lHash s, numN lX (numS lColon (numS lHash s)), numN lColon (numS lHash s), numN lBy (numS lFor (numS lX (numS lColon (numS lHash s)))), numN lFor (numS lX (numS lColon (numS lHash s))), R.2.2⟩) := by
    rw [← hR, Bool.false_or]; rfl
  generalize numN lHash s = n1 at *
  generalize numN lX (numS lColon (numS lHash s)) = n2 at *
  generalize numN lColon (numS lHash s) = n3 at *
  generalize numN lBy (numS lFor (numS lX (numS lColon (numS lHash s)))) = n4 at *
  generalize numN lFor (numS lX (numS lColon (numS lHash s))) = n5 at *
  generalize (((((false || numB lHash s) || numB lColon (numS lHash s)) || numB lX (numS lColon (numS lHash s))) || numB lFor (numS lX (numS lColon (numS lHash s)))) || numB lBy (numS lFor (numS lX (numS lColon (numS lHash s))))) = b5 at *
  have l6 : (numS lBy (numS lFor (numS lX (numS lColon (numS lHash s))))).length ≤ 100000 := by omega
  generalize numS lBy (numS lFor (numS lX (numS lColon (numS lHash s)))) = s5 at *
  clear l1 l2 l3 l4 l5
  have H0 : Holds w0 (odHp k25 ⟨n1, n2, n3, n4, n5, []⟩ Row.nil.v :: scHp k3 s5 b5 :: Row.nil.hp 52 :: zeroHp k1 :: hs) w := Sub.holds (Sub.cons 1 rfl (Sub.cons 1 rfl (Sub.cons 0 rfl (Sub.refl _)))) (Holds.nil H)
  clear H
  refine ⟨fun _ w => ∃ (r : Row) (sl : List UInt8) (b : Bool) (l : List Sp) (f : Nat), Holds w0 (odHp k25 ⟨n1, n2, n3, n4, n5, l⟩ r.v :: scHp k3 sl b :: r.hp 52 :: zeroHp k1 :: hs) w ∧ r.Ok 2 (sps l) ∧ rounds f sl b l = R ∧ f + l.length = 4 ∧ sl.length ≤ 100000, fun _ w => left5 k25 w, ⟨Row.nil, s5, b5, [], 4, H0, Row.nil_ok 2, hR, rfl, l6⟩, ?_⟩
  rintro ⟨⟩ w ⟨r, sl, b, l, f, H, ok, hr, hf, hsl⟩
  have hn : r.n = l.length := by have := ok.len; rw [sps, flat_len Sp.len] at this; omega
  have hm : left5 k25 w = 5 - r.n := by
    have := H.mem 0 (k := k25) rfl
    simp [left5, this]
  have out : (sl = [] ∨ b = true ∨ 3 < l.length) → parseTail k1 k3 k25 K w := by
    intro hc
    rw [rounds_stop hc] at hr
    subst hr
    simp only at hpR
    refine parseTail_c (o := ⟨n1, n2, n3, n4, n5, l⟩) H ok (by simp only; omega) (fun hg w' H' => ?_) (fun hg w' H' => ?_)
    · have e : parseO s = none := by rw [parseO, hpR, if_neg (by rw [hg]; decide)]
      have := k Row.nil w' (by rw [e]; exact Row.nil_ok 2) (Holds.nil H')
      rw [e] at this
      exact this
    · have e : parseO s = some ⟨n1, n2, n3, n4, n5, l⟩ := by rw [parseO, hpR, if_pos hg]
      have := k r w' (by rw [e]; exact ok) H'
      rw [e] at this
      exact this
  refine nn_h ?_
  apply ld_h 1 H rfl rfl
  refine asStr_h ?_
  refine br_s (fun h1 => ?_) (fun h1 => ?_)
  · refine nn_h ?_
    apply ld_h 1 H rfl rfl
    refine asBoo_h ?_
    refine br_s (fun h2 => ?_) (fun h2 => ?_)
    · apply ld_h 0 H rfl rfl
      refine asSl_h ?_
      refine br_s (fun h3 => ?_) (fun h3 => ?_)
      · have h1' : sl ≠ [] := by
          intro e; subst e
          have h4 : strEq (B []) (B []) = false := by simpa using h1
          rw [strEq_B [] []] at h4; simp at h4
        have h3' : l.length ≤ 3 := by simp at h3; omega
        obtain ⟨f, rfl⟩ : ∃ f', f = f' + 1 := ⟨f - 1, by omega⟩
        rw [rounds, if_pos ⟨h1', by simpa using h2, h3'⟩] at hr
        have hb : b = false := by simpa using h2
        subst hb
        have g1 := numS_len (g := lSemi) (s := sl)
        have g2 := numS_len (g := lStar) (s := numS lSemi sl)
        replace H := H.drew
        refine keeps_p [0] H (by (repeat first | exact Sub.refl _ | (refine Sub.cons 0 rfl ?_) | (refine Sub.cons 1 rfl ?_) | (refine Sub.cons 2 rfl ?_) | (refine Sub.cons 3 rfl ?_) | (refine Sub.cons 4 rfl ?_) | (refine Sub.cons 5 rfl ?_) | (refine Sub.cons 6 rfl ?_) | (refine Sub.cons 7 rfl ?_) | refine Sub.skip ?_ | exact Sub.nil _)) ?_
        refine ldS_h 0 rfl rfl ?_
        refine asSl_h ?_
        have H1 := Holds.bring 1 H rfl
        refine number_c (g := lSemi) E T H1 hsl (fun w H => ?_)
        refine asI_h ?_
        refine kp_s H (by (repeat first | exact Sub.refl _ | (refine Sub.cons 0 rfl ?_) | (refine Sub.cons 1 rfl ?_) | (refine Sub.cons 2 rfl ?_) | (refine Sub.cons 3 rfl ?_) | (refine Sub.cons 4 rfl ?_) | (refine Sub.cons 5 rfl ?_) | (refine Sub.cons 6 rfl ?_) | (refine Sub.cons 7 rfl ?_) | refine Sub.skip ?_ | exact Sub.nil _)) ?_
        refine number_c (g := lStar) E T H (by omega) (fun w H => ?_)
        refine asI_h ?_
        refine kp_s H (by (repeat first | exact Sub.refl _ | (refine Sub.cons 0 rfl ?_) | (refine Sub.cons 1 rfl ?_) | (refine Sub.cons 2 rfl ?_) | (refine Sub.cons 3 rfl ?_) | (refine Sub.cons 4 rfl ?_) | (refine Sub.cons 5 rfl ?_) | (refine Sub.cons 6 rfl ?_) | (refine Sub.cons 7 rfl ?_) | refine Sub.skip ?_ | exact Sub.nil _)) ?_
        refine nw_h H (fun k75 w H => ?_)
        refine kp_s H (by (repeat first | exact Sub.refl _ | (refine Sub.cons 0 rfl ?_) | (refine Sub.cons 1 rfl ?_) | (refine Sub.cons 2 rfl ?_) | (refine Sub.cons 3 rfl ?_) | (refine Sub.cons 4 rfl ?_) | (refine Sub.cons 5 rfl ?_) | (refine Sub.cons 6 rfl ?_) | (refine Sub.cons 7 rfl ?_) | refine Sub.skip ?_ | exact Sub.nil _)) ?_
        refine bapp1_h (news := Sp.cells ⟨numN lSemi sl, numN lStar (numS lSemi sl)⟩) el41 0 (H := Holds.bring 3 H rfl) rfl ok rfl (by simp [Sp.cells, Value.oneCell']) (by omega) (by unfold maxLen; omega) (fun r' w1 hr1 hr2 H1 => ?_)
        refine asSl_h ?_
        refine kp_s H1 (by (repeat first | exact Sub.refl _ | (refine Sub.cons 0 rfl ?_) | (refine Sub.cons 1 rfl ?_) | (refine Sub.cons 2 rfl ?_) | (refine Sub.cons 3 rfl ?_) | (refine Sub.cons 4 rfl ?_) | (refine Sub.cons 5 rfl ?_) | (refine Sub.cons 6 rfl ?_) | (refine Sub.cons 7 rfl ?_) | refine Sub.skip ?_ | exact Sub.nil _)) ?_
        apply st_h 3 H1 rfl rfl rfl
        intro w2 H2
        refine ⟨⟨r', numS lStar (numS lSemi sl), ((false || numB lSemi sl) || numB lStar (numS lSemi sl)), l ++ [⟨numN lSemi sl, numN lStar (numS lSemi sl)⟩], f, ?_, ?_, ?_, by simp; omega, by omega⟩, ?_⟩
        rotate_left
        · simpa [sps] using hr2
        · rw [Bool.false_or]; exact hr
        · have := H2.mem 3 (k := k25) rfl
          have e : left5 k25 w2 = 5 - r'.n := by simp [left5, this]
          show left5 k25 w2 < left5 k25 _
          rw [e, hm]
          omega
        · have H3 : Holds w0 (r'.hp 52 :: [(k75, _)] :: scHp k3 _ _ :: odHp k25 ⟨n1, n2, n3, n4, n5, l ++ [⟨numN lSemi sl, numN lStar (numS lSemi sl)⟩]⟩ r'.v :: zeroHp k1 :: hs) w2 := H2
          exact Sub.holds (Sub.cons 3 rfl (Sub.cons 2 rfl (Sub.cons 0 rfl (Sub.skip (Sub.refl _))))) H3
      · exact out (.inr (.inr (by simp at h3; omega)))
    · exact out (.inr (.inl (by simpa using h2)))
  · refine out (.inl ?_)
    have h3 : strEq (B sl) (B []) = true := by simpa using h1
    rw [strEq_B] at h3
    exact of_decide_eq_true h3
end Go.Proofs.YtiihiaicggmhjaaDoor
