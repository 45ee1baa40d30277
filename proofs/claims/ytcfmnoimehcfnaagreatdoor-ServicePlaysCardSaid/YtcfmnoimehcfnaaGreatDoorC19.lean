/- Contract of the reference's Parse: what entry.Parse answers. Conditions: none. -/
import Derived.Test.YtcfmnoimehcfnaaGreatDoorC18
set_option linter.unusedVariables false
set_option maxRecDepth 100000
namespace Go.Proofs.YtcfmnoimehcfnaaGreatDoor
open Go Go.Sh

def nums (ws : List (List UInt8)) : List Int := ws.map fun v => (numV v).1
def numsOk (ws : List (List UInt8)) : Bool := ws.all fun v => (numV v).2
theorem okW_words {t k : List UInt8} {ws : List (List UInt8)} {e : En} (h : okW t = some e) (hw : wordsL t = k :: ws) : numsOk ws = true ∧ k = e.k ∧ nums ws = e.id :: e.l := by
  obtain ⟨hm, ht⟩ := okW_some h
  obtain ⟨h1, -, -, -, h2, h3, h4, h5⟩ := mayN_out hm
  rw [ht, entT, words_join _ _ h1 (fun v hv => by
    obtain ⟨n, -, rfl⟩ := List.mem_map.1 hv
    exact itoa_no32 n)] at hw
  obtain ⟨rfl, rfl⟩ := List.cons.inj hw
  have hs : ∀ n ∈ e.id :: e.l, smallN n := by
    intro n hn
    rcases List.mem_cons.1 hn with rfl | hn
    · unfold smallN; omega
    · exact h5 n hn
  refine ⟨?_, rfl, ?_⟩
  · unfold numsOk
    rw [List.all_eq_true]
    intro v hv
    obtain ⟨n, hn, rfl⟩ := List.mem_map.1 hv
    rw [numV_itoa (hs n hn)]
  · unfold nums
    rw [List.map_map]
    exact (List.map_congr_left (g := _root_.id) fun n hn => congrArg Prod.fst (numV_itoa (hs n hn))).trans (List.map_id _)
theorem words_text {t k : List UInt8} {ws : List (List UInt8)} (hw : wordsL t = k :: ws) (h : numsOk ws = true) : t = entT k (nums ws) := by
  have hj := join_words t
  rw [hw] at hj
  rw [← hj, entT]
  congr 2
  unfold nums
  rw [List.map_map]
  refine ((List.map_congr_left (g := _root_.id) fun v hv => ?_).trans (List.map_id _)).symm
  exact numV_yes (List.all_eq_true.1 h v hv)

def ret3 (k3 k1 : Nat) (code : Int) (K : KV) (w8 : World) : Prop :=
  ld (⟨k3, 0, none⟩) (fun v9 w10 =>
    asStr (v9) (fun s11 w12 =>
      ld (⟨k3, 1, none⟩) (fun v13 w14 =>
        asI (IntKind.i64) (v13) (fun n15 w16 =>
          ld (⟨k3, 2, none⟩) (fun v17 w18 =>
            asSl (v17) (fun p19 k20 k21 w22 =>
              st (⟨k1, 0, none⟩) (Value.string (s11)) (fun w23 =>
                st (⟨k1, 1, none⟩) (Value.int IntKind.i64 (n15)) (fun w24 =>
                  st (⟨k1, 2, none⟩) (Value.slice p19 (k20) (k21)) (fun w25 =>
                    ld (⟨k1, 0, none⟩) (fun v26 w27 =>
                      asStr (v26) (fun s28 w29 =>
                        ld (⟨k1, 1, none⟩) (fun v30 w31 =>
                          asI (IntKind.i64) (v30) (fun n32 w33 =>
                            ld (⟨k1, 2, none⟩) (fun v34 w35 =>
                              asSl (v34) (fun p36 k37 k38 w39 =>
                                K (Value.tuple #[(Value.agg #[(Value.string (s28)), (Value.int IntKind.i64 (n32)), (Value.slice p36 (k37) (k38))]), (Value.int IntKind.i64 (code))]) (w39)) (w35)) (w33)) (w31)) (w29)) (w27)) (w25)) (w24)) (w23)) (w22)) (w18)) (w16)) (w14)) (w12)) (w10)) (w8)
def par2 (k1 k3 : Nat) (p84 : Option Addr) (k85 k86 : Nat) (K : KV) (w153 : World) : Prop :=
  slAt (p84) (k85) (0) (1) (fun a154 w155 =>
    ld (a154) (fun v156 w157 =>
      asStr (v156) (fun s158 w159 =>
        nw (Obj.cells #[(Value.string ({ data := #[] })), (Value.int IntKind.i64 (0)), (Value.slice none (0) (0))] 139 (0, 0)) (fun k160 w161 =>
          st (⟨k160, 0, none⟩) (Value.string (s158)) (fun w162 =>
            st (⟨k160, 1, none⟩) (Value.int IntKind.i64 (0)) (fun w163 =>
              st (⟨k160, 2, none⟩) (Value.slice none (0) (0)) (fun w164 =>
                slSl (p84) (k86) (1) ((↑k85 : Int)) (1) (fun p165 k166 k167 w168 =>
                  loop (X := (Int) × (Int) × Unit) (0, (0, ())) (fun x169 rec170 w171 =>
                    br (decide (x169.fst < (↑k166 : Int))) (fun w172 =>
                      slAt (p165) (k166) (x169.fst) (1) (fun a173 w174 =>
                        ld (a173) (fun v175 w176 =>
                          asStr (v175) (fun s177 w178 =>
                            gocall Tryz.prog (284) [(Value.string (s177))] (fun v179 w180 =>
                              asT (2) (v179) (fun f181 w182 =>
                                asI (IntKind.i64) (f181 0) (fun n183 w184 =>
                                  asBoo (f181 1) (fun b185 w186 =>
                                    br (!b185) (fun w187 =>
                                      ld (⟨k3, 0, none⟩) (fun v188 w189 =>
                                        asStr (v188) (fun s190 w191 =>
                                          ld (⟨k3, 1, none⟩) (fun v192 w193 =>
                                            asI (IntKind.i64) (v192) (fun n194 w195 =>
                                              ld (⟨k3, 2, none⟩) (fun v196 w197 =>
                                                asSl (v196) (fun p198 k199 k200 w201 =>
                                                  st (⟨k1, 0, none⟩) (Value.string (s190)) (fun w202 =>
                                                    st (⟨k1, 1, none⟩) (Value.int IntKind.i64 (n194)) (fun w203 =>
                                                      st (⟨k1, 2, none⟩) (Value.slice p198 (k199) (k200)) (fun w204 =>
                                                        ld (⟨k1, 0, none⟩) (fun v205 w206 =>
                                                          asStr (v205) (fun s207 w208 =>
                                                            ld (⟨k1, 1, none⟩) (fun v209 w210 =>
                                                              asI (IntKind.i64) (v209) (fun n211 w212 =>
                                                                ld (⟨k1, 2, none⟩) (fun v213 w214 =>
                                                                  asSl (v213) (fun p215 k216 k217 w218 =>
                                                                    K (Value.tuple #[(Value.agg #[(Value.string (s207)), (Value.int IntKind.i64 (n211)), (Value.slice p215 (k216) (k217))]), (Value.int IntKind.i64 (2))]) (w218)) (w214)) (w212)) (w210)) (w208)) (w206)) (w204)) (w203)) (w202)) (w201)) (w197)) (w195)) (w193)) (w191)) (w189)) (w187)) (fun w219 =>
                                      br (x169.fst == 0) (fun w220 =>
                                        st (⟨k160, 1, none⟩) (Value.int IntKind.i64 (n183)) (fun w221 =>
                                          rec170 (IntKind.i64.wrap (x169.fst + 1), (x169.snd.fst, ())) (w221)) (w220)) (fun w222 =>
                                        ld (⟨k160, 2, none⟩) (fun v223 w224 =>
                                          asSl (v223) (fun p225 k226 k227 w228 =>
                                            nw (Obj.cells #[(Value.int IntKind.i64 (n183))] 3 (0, 0)) (fun k229 w230 =>
                                              bapp (Md.full) Tryz.prog (#[56, 56]) (56) (Value.slice p225 (k226) (k227)) (Value.slice (some ⟨k229, 0, none⟩) (1) (1)) (fun v231 w232 =>
                                                asSl (v231) (fun p233 k234 k235 w236 =>
                                                  st (⟨k160, 2, none⟩) (Value.slice p233 (k234) (k235)) (fun w237 =>
                                                    rec170 (IntKind.i64.wrap (x169.fst + 1), (x169.snd.fst, ())) (w237)) (w236)) (w232)) (w230)) (w228)) (w224)) (w222)) (w219)) (w186)) (w184)) (w182)) (w180)) (w178)) (w176)) (w174)) (w172)) (fun w238 =>
                      ld (⟨k160, 0, none⟩) (fun v239 w240 =>
                        asStr (v239) (fun s241 w242 =>
                          ld (⟨k160, 1, none⟩) (fun v243 w244 =>
                            asI (IntKind.i64) (v243) (fun n245 w246 =>
                              ld (⟨k160, 2, none⟩) (fun v247 w248 =>
                                asSl (v247) (fun p249 k250 k251 w252 =>
                                  gocall Tryz.prog (285) [(Value.agg #[(Value.string (s241)), (Value.int IntKind.i64 (n245)), (Value.slice p249 (k250) (k251))])] (fun v253 w254 =>
                                    asBoo (v253) (fun b255 w256 =>
                                      br (!b255) (fun w257 =>
                                        ld (⟨k3, 0, none⟩) (fun v258 w259 =>
                                          asStr (v258) (fun s260 w261 =>
                                            ld (⟨k3, 1, none⟩) (fun v262 w263 =>
                                              asI (IntKind.i64) (v262) (fun n264 w265 =>
                                                ld (⟨k3, 2, none⟩) (fun v266 w267 =>
                                                  asSl (v266) (fun p268 k269 k270 w271 =>
                                                    st (⟨k1, 0, none⟩) (Value.string (s260)) (fun w272 =>
                                                      st (⟨k1, 1, none⟩) (Value.int IntKind.i64 (n264)) (fun w273 =>
                                                        st (⟨k1, 2, none⟩) (Value.slice p268 (k269) (k270)) (fun w274 =>
                                                          ld (⟨k1, 0, none⟩) (fun v275 w276 =>
                                                            asStr (v275) (fun s277 w278 =>
                                                              ld (⟨k1, 1, none⟩) (fun v279 w280 =>
                                                                asI (IntKind.i64) (v279) (fun n281 w282 =>
                                                                  ld (⟨k1, 2, none⟩) (fun v283 w284 =>
                                                                    asSl (v283) (fun p285 k286 k287 w288 =>
                                                                      K (Value.tuple #[(Value.agg #[(Value.string (s277)), (Value.int IntKind.i64 (n281)), (Value.slice p285 (k286) (k287))]), (Value.int IntKind.i64 (2))]) (w288)) (w284)) (w282)) (w280)) (w278)) (w276)) (w274)) (w273)) (w272)) (w271)) (w267)) (w265)) (w263)) (w261)) (w259)) (w257)) (fun w289 =>
                                        ld (⟨k160, 0, none⟩) (fun v290 w291 =>
                                          asStr (v290) (fun s292 w293 =>
                                            ld (⟨k160, 1, none⟩) (fun v294 w295 =>
                                              asI (IntKind.i64) (v294) (fun n296 w297 =>
                                                ld (⟨k160, 2, none⟩) (fun v298 w299 =>
                                                  asSl (v298) (fun p300 k301 k302 w303 =>
                                                    st (⟨k1, 0, none⟩) (Value.string (s292)) (fun w304 =>
                                                      st (⟨k1, 1, none⟩) (Value.int IntKind.i64 (n296)) (fun w305 =>
                                                        st (⟨k1, 2, none⟩) (Value.slice p300 (k301) (k302)) (fun w306 =>
                                                          ld (⟨k1, 0, none⟩) (fun v307 w308 =>
                                                            asStr (v307) (fun s309 w310 =>
                                                              ld (⟨k1, 1, none⟩) (fun v311 w312 =>
                                                                asI (IntKind.i64) (v311) (fun n313 w314 =>
                                                                  ld (⟨k1, 2, none⟩) (fun v315 w316 =>
                                                                    asSl (v315) (fun p317 k318 k319 w320 =>
                                                                      K (Value.tuple #[(Value.agg #[(Value.string (s309)), (Value.int IntKind.i64 (n313)), (Value.slice p317 (k318) (k319))]), (Value.int IntKind.i64 (0))]) (w320)) (w316)) (w314)) (w312)) (w310)) (w308)) (w306)) (w305)) (w304)) (w303)) (w299)) (w297)) (w295)) (w293)) (w291)) (w289)) (w256)) (w254)) (w252)) (w248)) (w246)) (w244)) (w242)) (w240)) (w238)) (w171)) (w168)) (w164)) (w163)) (w162)) (w161)) (w159)) (w157)) (w155)) (w153)
theorem ret3_c {w0 w : World} {K : KV} {k1 k3 : Nat} {e a : En} {p q : Option Addr} {n c n' c' : Nat} {code : Int} {cs : List Hp} (H : Sh.Holds w0 (eHp k3 e.k e.id (.slice p n c) :: eHp k1 a.k a.id (.slice q n' c') :: cs) w)
    (k : ∀ w', Sh.Holds w0 cs w' → K (.tuple #[enV e (.slice p n c), I code]) w') : ret3 k3 k1 code K w := by
  unfold ret3
  apply ld3_h 0 H rfl
  replace H : Sh.Holds w0 (eHp k3 e.k e.id (.slice p n c) :: [(k1, .cells #[.string (B a.k), I a.id, .slice q n' c'] 139 (0, 0))] :: cs) w := H
  apply st_h 1 H rfl rfl rfl; intro w H
  apply st_h 1 H rfl rfl rfl; intro w H
  apply st_h 1 H rfl rfl rfl; intro w H
  replace H : Sh.Holds w0 (eHp k3 e.k e.id (.slice p n c) :: eHp k1 e.k e.id (.slice p n c) :: cs) w := H
  apply ld3_h 1 H rfl
  exact k _ H.tail.tail
theorem Sl.row1 {w0 : World} {R : List Hp} (i : Nat) {r : Row} {g : Nat} {x : Value} {xs : List Value} {e : TypeId} (hi : R[i]? = some (r.hp e)) (ok : r.Ok 1 (x :: xs)) (hg : r.g = some g) : Sl (Sh.Holds w0 R) (some ⟨g, 1, none⟩) xs.length 1 xs := by
  have h := Sl.row (w0 := w0) i hi ok
  refine ⟨by simp, fun e => (by cases e), fun a ha => ?_⟩
  cases ha
  refine ⟨.inr rfl, fun j v hv w hw => ?_⟩
  have := (h.yes ⟨g, 0, none⟩ (by simp [Row.p, hg])).2 (j + 1) v (by simpa using hv) w hw
  simpa [Nat.add_comm] using this
theorem par2_c {w0 w : World} {hs : List Hp} {K : KV} {s t kk : List UInt8} {ws : List (List UInt8)} {k1 k3 : Nat} {r : Row} (T : Tab w0) (hp : parseE s = match okW t with | some e => (0, e) | none => (2, En.zero))
    (hw : wordsL t = kk :: ws) (ht : t.length ≤ 80) (h1 : 1 ≤ ws.length) (h5 : ws.length ≤ 5) (ok : r.Ok 1 ((kk :: ws).map Sw)) (H : Sh.Holds w0 (r.hp 9 :: eHp k3 [] 0 (.slice none 0 0) :: eHp k1 [] 0 (.slice none 0 0) :: hs) w)
    (k : ∀ (r : Row) w', r.Ok 1 ((parseE s).2.l.map I) → Sh.Holds w0 (r.hp 3 :: hs) w' → K (.tuple #[enV (parseE s).2 r.v, I (parseE s).1]) w') : par2 k1 k3 r.p r.n r.c K w := by
  have hrn : r.n = ws.length + 1 := by have := ok.len; simp at this; omega
  have bad : okW t = none → ∀ w', Sh.Holds w0 (eHp k3 [] 0 (.slice none 0 0) :: eHp k1 [] 0 (.slice none 0 0) :: hs) w' → ret3 k3 k1 2 K w' := fun e w' H => by
    refine ret3_c (e := En.zero) (a := En.zero) H (fun w H => ?_)
    have := k Row.nil w (by rw [hp, e]; exact Row.nil_ok 1) (Holds.nil H)
    rw [hp, e] at this
    exact this
  have hlen : ∀ v ∈ kk :: ws, v.length ≤ 80 := fun v hv => by
    have hj := join_words t
    rw [hw] at hj
    have : v.length ≤ (joinL (kk :: ws)).length := by
      simp only [joinL, List.length_append]
      rcases List.mem_cons.1 hv with rfl | hv
      · omega
      · have := flat_len32 hv
        omega
    rw [hj] at this; omega
  unfold par2
  refine slAt_h ok (by omega) (by omega) (fun g hg => ?_)
  refine ldR_h 0 H rfl ok hg (v := Sw kk) rfl ?_
  refine asStr_h ?_
  refine nw3_h (k := kk) (id := 0) (p := none) (n := 0) (c := 0) H (fun k160 w H => ?_)
  have hc := (ok.yes g hg).1
  refine ⟨by omega, by omega, by omega, ?_⟩
  have ea : (if r.c = Int.toNat 1 then r.p else r.p.map (·.add (Int.toNat 1 * 1))) = some ⟨g, 1, none⟩ := by
    rw [if_neg (by show ¬ r.c = 1; omega)]
    simp [Row.p, hg, Addr.add_lit]
  rw [ea]
  have en : ((r.n : Int)).toNat - Int.toNat 1 = ws.length := by show _ - 1 = _; omega
  rw [en]
  have sw : ∀ (k160 : Nat) (id : Int) (r2 : Row), Sl (Sh.Holds w0 (eHp k160 kk id r2.v :: r2.hp 3 :: r.hp 9 :: eHp k3 [] 0 (.slice none 0 0) :: eHp k1 [] 0 (.slice none 0 0) :: hs)) (some ⟨g, 1, none⟩) (ws.map Sw).length 1 (ws.map Sw) :=
    fun k160 id r2 => Sl.row1 2 rfl ok hg
  simp only [List.length_map] at sw
  refine ⟨fun y w => ∃ (id : Int) (r2 : Row), Sh.Holds w0 (eHp k160 kk id r2.v :: r2.hp 3 :: r.hp 9 :: eHp k3 [] 0 (.slice none 0 0) :: eHp k1 [] 0 (.slice none 0 0) :: hs) w ∧ 0 ≤ y.1 ∧ y.1 ≤ ws.length ∧ numsOk (ws.take y.1.toNat) = true ∧ id = (nums (ws.take y.1.toNat)).headD 0 ∧ r2.Ok 1 (((nums (ws.take y.1.toNat)).drop 1).map I),
    fun y _ => (ws.length - y.1).toNat, ⟨0, Row.nil, ?_, by simp, by simp, by simp [numsOk], by simp [nums], by simpa [nums] using Row.nil_ok 1⟩, ?_⟩
  · exact Sub.holds (Sub.cons 0 rfl (Sub.refl _)) (Holds.nil H) |> fun h => (Holds.nil H).bring 1 rfl
  clear H
  rintro ⟨y, u, u'⟩ w ⟨id, r2, H, g0, g1, hok, hid, ok2⟩
  simp only at g0 g1 hok hid ok2
  refine br_s (fun h => ?_) (fun h => ?_)
  · simp only [decide_eq_true_eq] at h
    have hy : y.toNat < ws.length := by omega
    have hg' := List.getElem?_eq_getElem hy
    have hmem := List.getElem_mem hy
    have hl80 := hlen _ (List.mem_cons_of_mem _ hmem)
    refine slAt_s (sw k160 id r2) g0 h (fun b1 o1 hp => ?_)
    refine ldS_s (sw k160 id r2) hp H (v := Sw ws[y.toNat]) (by simp [hg']) ?_
    refine asStr_h ?_
    refine number_c T (by omega) H (fun w H => ?_)
    refine asT_e [_, _] rfl rfl ?_
    refine asI_e rfl ?_
    refine asBoo_e (b := (numV ws[y.toNat]).2) rfl ?_
    refine br_s (fun h2 => ?_) (fun h2 => ?_)
    · refine bad ?_ _ H.tail.tail.tail
      cases he : okW t with
      | none => rfl
      | some e =>
        have := (okW_words he hw).1
        have := List.all_eq_true.1 this _ hmem
        simp [this] at h2
    have h2 : (numV ws[y.toNat]).2 = true := by simpa using h2
    have ew : IntKind.wrap .i64 (y + 1) = y + 1 := wrap64 (by omega) (by omega)
    have et : ws.take (y + 1).toNat = ws.take y.toNat ++ [ws[y.toNat]] := by
      rw [show (y + 1).toNat = y.toNat + 1 by omega, List.take_add_one, hg']
      simp only [Option.toList_some]
    have eo : numsOk (ws.take (y + 1).toNat) = true := by
      rw [et]
      unfold numsOk at hok ⊢
      rw [List.all_append, hok]
      simpa using h2
    have ens : nums (ws.take (y + 1).toNat) = nums (ws.take y.toNat) ++ [(numV ws[y.toNat]).1] := by rw [et]; unfold nums; rw [List.map_append]; rfl
    have hnl : (nums (ws.take y.toNat)).length = y.toNat := by simp [nums]; omega
    have H' := H
    unfold eHp at H'
    refine br_s (fun h3 => ?_) (fun h3 => ?_)
    · have h3 : y = 0 := by simpa using h3
      have hn0 : nums (ws.take y.toNat) = [] := List.eq_nil_of_length_eq_zero (by omega)
      rw [hn0] at ens hid ok2
      apply st_h 0 H' rfl rfl rfl; intro w H
      simp only [ew]
      exact ⟨⟨(numV ws[y.toNat]).1, r2, H, by omega, by omega, eo, by rw [ens]; rfl, by rw [ens]; exact ok2⟩, by omega⟩
    · have h3 : y ≠ 0 := by simpa using h3
      have hr2 : r2.n = y.toNat - 1 := by have := ok2.len; rw [List.length_map, List.length_drop, hnl] at this; omega
      apply ld_h 0 H' rfl rfl; refine asSl_h ?_
      refine nw_h H (fun kb w H => ?_)
      refine bapp1_h (news := [I (numV ws[y.toNat]).1]) el22 0 (H := Holds.bring 2 H rfl) rfl ok2 rfl (by simp [Value.oneCell']) (by omega) (by unfold maxLen; omega) (fun r' w hr1 hr2' H => ?_)
      refine asSl_h ?_
      replace H := Sub.holds (Sub.cons 2 rfl (Sub.cons 0 rfl (Sub.skip (Sub.refl _)))) H
      unfold eHp at H
      apply st_h 0 H rfl rfl rfl; intro w H
      simp only [ew]
      refine ⟨⟨id, r', H, by omega, by omega, eo, ?_, ?_⟩, by omega⟩
      · rw [ens, hid]
        cases hq : nums (ws.take y.toNat) with
        | nil => rw [hq] at hnl; simp at hnl; omega
        | cons a b => rfl
      · rw [ens, List.drop_append_of_le_length (by omega)]
        simpa using hr2'
  · simp only [decide_eq_false_iff_not] at h
    rw [List.take_of_length_le (by omega)] at hok hid ok2
    have htx := words_text hw hok
    have hnl : (nums ws).length = ws.length := by simp [nums]
    cases hq : nums ws with
    | nil => rw [hq] at hnl; simp at hnl; omega
    | cons id' l =>
      rw [hq] at hid ok2 htx
      simp only [List.headD_cons, List.drop_succ_cons, List.drop_zero] at hid ok2
      subst hid
      apply ld3_h 0 H rfl
      refine MayR_c (e := ⟨kk, id, l⟩) (Sl.row 1 rfl ok2) H (fun w H => ?_)
      refine asBoo_h ?_
      refine br_s (fun h2 => ?_) (fun h2 => ?_)
      · refine bad ?_ _ H.tail.tail.tail
        cases he : okW t with
        | none => rfl
        | some e =>
          obtain ⟨-, e1, e2⟩ := okW_words he hw
          rw [hq] at e2
          obtain ⟨e3, e4⟩ := List.cons.inj e2
          have hm := (okW_some he).1
          rw [show (⟨kk, id, l⟩ : En) = e by cases e; simp_all] at h2
          rw [hm] at h2; cases h2
      · have hm : mayN ⟨kk, id, l⟩ = true := by simpa using h2
        have he : okW t = some ⟨kk, id, l⟩ := by rw [htx]; exact okW_back hm
        rw [he] at hp
        rw [hp] at k
        show ret3 k160 k1 0 K w
        refine ret3_c (e := ⟨kk, id, l⟩) (a := En.zero) (Holds.bring 1 (Holds.bring 4 H rfl) rfl) (fun w H => ?_)
        exact k r2 w ok2 (Holds.tail2 (Holds.tail2 H))
theorem Parse2_c {w0 w : World} {hs : List Hp} {K : KV} {s : List UInt8} (T : Tab w0) (H : Sh.Holds w0 hs w) (hl : s.length ≤ 100000)
    (k : ∀ (r : Row) w', r.Ok 1 ((parseE s).2.l.map I) → Sh.Holds w0 (r.hp 3 :: hs) w' → K (.tuple #[enV (parseE s).2 r.v, I (parseE s).1]) w') : gocall Tryz.prog 220 [.string (B s)] K w := by
  apply F220_go; unfold F220
  refine nw_h H (fun k1 w H => ?_)
  replace H : Sh.Holds w0 (eHp k1 [] 0 (.slice none 0 0) :: hs) w := H
  refine nw3_h (k := []) (id := 0) (p := none) (n := 0) (c := 0) H (fun k3 w H => ?_)
  have bad : ∀ n, parseE s = (n, En.zero) → ∀ w', Sh.Holds w0 (eHp k3 [] 0 (.slice none 0 0) :: eHp k1 [] 0 (.slice none 0 0) :: hs) w' → ret3 k3 k1 n K w' := fun n e w' H => by
    refine ret3_c (e := En.zero) (a := En.zero) H (fun w H => ?_)
    have := k Row.nil w (by rw [e]; exact Row.nil_ok 1) (Holds.nil H)
    rw [e] at this
    exact this
  rw [B_size]
  refine br_s (fun h => ?_) (fun h => ?_)
  · simp only [decide_eq_true_eq] at h
    exact bad 2 (by rw [parseE, if_pos (by omega)]) _ H
  simp only [decide_eq_false_iff_not] at h
  have hp0 : parseE s = match readS s with
    | none => (3, En.zero)
    | some t => match okW t with
      | some e => (0, e)
      | none => (2, En.zero) := by rw [parseE, if_neg (by omega)]; rfl
  refine Read2_c (by omega) H (fun w H => ?_)
  refine asT_e [_, _] rfl rfl ?_
  refine asStr_e (b := B ((readS s).getD [])) rfl ?_
  refine asBoo_e (b := (readS s).isSome) rfl ?_
  cases hr : readS s with
  | none =>
    rw [hr] at hp0
    exact br_t rfl (bad 3 hp0 _ H)
  | some t =>
    rw [hr] at hp0
    simp only at hp0
    have htl : t.length ≤ 80 := by have := readS_some hr; have := congrArg List.length this; rw [signL_len] at this; omega
    refine br_f rfl ?_
    refine Cuts_c (s := t) (by omega) H (fun r w ok H => ?_)
    refine asSl_h ?_
    have hrn : r.n = (wordsL t).length := by have := ok.len; simp at this; omega
    have short : (wordsL t).length < 2 ∨ 6 < (wordsL t).length → okW t = none := fun hb => by
      cases he : okW t with
      | none => rfl
      | some e =>
        cases hw : wordsL t with
        | nil => exact absurd hw (words_ne t)
        | cons a b =>
          have h3 := (okW_words he hw).2.2
          have h4 := (mayN_out (okW_some he).1).2.2.2.2.2.2.1
          have h5 := congrArg List.length h3
          rw [hw] at hb
          simp [nums] at h5 hb
          omega
    refine br_s (fun h2 => ?_) (fun h2 => ?_)
    · simp only [decide_eq_true_eq] at h2
      exact bad 2 (by rw [hp0, short (.inl (by omega))]) _ H.tail
    simp only [decide_eq_false_iff_not] at h2
    refine br_s (fun h3 => ?_) (fun h3 => ?_)
    · simp only [decide_eq_true_eq] at h3
      exact bad 2 (by rw [hp0, short (.inr (by omega))]) _ H.tail
    simp only [decide_eq_false_iff_not] at h3
    cases hw : wordsL t with
    | nil => exact absurd hw (words_ne t)
    | cons kk ws =>
      rw [hw] at hrn ok
      simp only [List.length_cons] at hrn
      show par2 k1 k3 r.p r.n r.c K w
      exact par2_c T hp0 hw htl (by omega) (by omega) ok H k
end Go.Proofs.YtcfmnoimehcfnaaGreatDoor
