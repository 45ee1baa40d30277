/- An executor for the shallow reading: maps. Conditions: none. -/
import Derived.Test.YtlfgmbbiealpoaaGreatDoorE8
set_option linter.unusedVariables false
namespace Go.Sh
open Go Go.RowKit Go.MapKept Go.ChangeMaps
section
variable {P : Program} {w0 w : World} {v : Vl} {s : XSt}
theorem shT_cons {t : XTri} {r : List XTri} {gl : List TriG} : shT v (t :: r) = some gl ↔ ∃ y l, sh v t.2.1 = some y ∧ shT v r = some l ∧ gl = (t.1, y, t.2.2) :: l := by
  simp only [shT]
  constructor
  · intro h
    split at h
    · rename_i y l hy hl; cases h; exact ⟨y, l, hy, hl, rfl⟩
    · cases h
  · rintro ⟨y, l, hy, hl, rfl⟩; rw [hy, hl]
theorem getX_cons (t : XTri) (r : List XTri) (k : Int) : getX (t :: r) k = if k = t.1 then some t.2.1 else getX r k := by
  show (Bool.rec (motive := fun _ => Option EV) (getX r k) (some t.2.1) (decide (k = t.1))) = _
  by_cases h : k = t.1 <;> simp [h]
theorem getX_none {k : Int} : ∀ {l : List XTri} {gl : List TriG}, shT v l = some gl → getX l k = none → getG gl k = none
  | [], gl, h, _ => by cases h; rfl
  | t :: r, gl, h, hk => by
    obtain ⟨y, l, hy, hl, rfl⟩ := shT_cons.1 h
    rw [getX_cons] at hk
    split at hk
    · cases hk
    · rename_i hne; simp only [getG]; rw [if_neg hne]; exact getX_none hl hk
theorem getX_some {k : Int} {x : EV} : ∀ {l : List XTri} {gl : List TriG}, shT v l = some gl → getX l k = some x → ∃ y, getG gl k = some y ∧ sh v x = some y
  | [], gl, h, hk => by cases hk
  | t :: r, gl, h, hk => by
    obtain ⟨y, l, hy, hl, rfl⟩ := shT_cons.1 h
    rw [getX_cons] at hk
    simp only [getG]
    split at hk
    · rename_i he; cases hk; rw [if_pos he]; exact ⟨y, rfl, hy⟩
    · rename_i hne; rw [if_neg hne]; exact getX_some hl hk
theorem shT_upd {k : Int} {x : EV} {u : Value} (hx : sh v x = some u) : ∀ {l : List XTri} {gl : List TriG}, shT v l = some gl → shT v (updX k x l) = some (updG k u gl)
  | [], gl, h => by cases h; rfl
  | t :: r, gl, h => by
    obtain ⟨y, l, hy, hl, rfl⟩ := shT_cons.1 h
    simp only [updX, updG]
    by_cases hk : k = t.1
    · simp only [hk, decide_true, if_true]
      exact shT_cons.2 ⟨u, l, hx, hl, rfl⟩
    · simp only [hk, decide_false, if_false]
      exact shT_cons.2 ⟨y, updG k u l, hy, shT_upd hx hl, rfl⟩
theorem shT_del {k : Int} : ∀ {l : List XTri} {gl : List TriG}, shT v l = some gl → shT v (delX k l) = some (delG k gl)
  | [], gl, h => by cases h; rfl
  | t :: r, gl, h => by
    obtain ⟨y, l, hy, hl, rfl⟩ := shT_cons.1 h
    simp only [delX, delG]
    by_cases hk : k = t.1
    · simp only [hk, decide_true, if_true]
      exact hl
    · simp only [hk, decide_false, if_false]
      exact shT_cons.2 ⟨y, delG k l, hy, shT_del hl, rfl⟩
theorem shT_app {k : Int} {x : EV} {u : Value} {c : Nat} (hx : sh v x = some u) : ∀ {l : List XTri} {gl : List TriG}, shT v l = some gl → shT v (appX l [(k, x, c)]) = some (gl ++ [(k, u, c)])
  | [], gl, h => by cases h; rw [appX_eq]; exact shT_cons.2 ⟨u, [], hx, rfl, rfl⟩
  | t :: r, gl, h => by
    obtain ⟨y, l, hy, hl, rfl⟩ := shT_cons.1 h
    have := shT_app (k := k) (c := c) hx hl
    rw [appX_eq] at this ⊢
    exact shT_cons.2 ⟨y, _, hy, this, rfl⟩
theorem bornX_ok {k : Int} : ∀ {l : List XTri} {gl : List TriG} {u : TriG}, shT v l = some gl → (gl.map (·.1)).Nodup → u ∈ gl → u.1 = k → bornX l k = u.2.2
  | [], gl, u, h, _, hu, _ => by cases h; cases hu
  | t :: r, gl, u, h, hn, hu, hk => by
    obtain ⟨y, l, hy, hl, rfl⟩ := shT_cons.1 h
    simp only [List.map_cons, List.nodup_cons] at hn
    simp only [bornX]
    rcases List.mem_cons.1 hu with e | hu'
    · subst e; simp only at hk; simp [hk]
    · have : k ≠ t.1 := fun e => hn.1 (by rw [← e, ← hk]; exact List.mem_map_of_mem hu')
      simp only [this, decide_false]
      exact bornX_ok hl hn.2 hu' hk
theorem stampX_ok {b : Nat} {x : EV} {y : Value} (hx : sh v x = some y) : ∀ {l l' : List XTri} {gl : List TriG}, stampX b x l = some l' → shT v l = some gl → (gl.map (·.1)).Nodup → ∃ u ∈ gl, u.2.2 = b ∧ shT v l' = some (updG u.1 y gl)
  | [], l', gl, h, _, _ => by cases h
  | t :: r, l', gl, h, hs, hn => by
    obtain ⟨z, l, hz, hl, rfl⟩ := shT_cons.1 hs
    simp only [List.map_cons, List.nodup_cons] at hn
    simp only [stampX] at h
    split at h
    · rename_i hb
      cases h
      refine ⟨_, List.mem_cons_self .., Nat.eq_of_beq_eq_true hb, ?_⟩
      simp only [updG, if_true]
      exact shT_cons.2 ⟨y, l, hx, hl, rfl⟩
    · split at h
      · rename_i r' hr
        cases h
        obtain ⟨u, hu, h1, h2⟩ := stampX_ok hx hr hl hn.2
        refine ⟨u, List.mem_cons_of_mem _ hu, h1, ?_⟩
        have : u.1 ≠ t.1 := fun e => hn.1 (by rw [← e]; exact List.mem_map_of_mem hu)
        simp only [updG, this, if_false]
        exact shT_cons.2 ⟨z, _, hz, h2, rfl⟩
      · cases h
theorem atStamp_ok {b : Nat} {t : XTri} : ∀ {l : List XTri} {gl : List TriG}, atStamp b l = some t → shT v l = some gl → ∃ y, sh v t.2.1 = some y ∧ (t.1, y, t.2.2) ∈ gl ∧ t.2.2 = b
  | [], gl, h, _ => by cases h
  | q :: r, gl, h, hs => by
    obtain ⟨z, l, hz, hl, rfl⟩ := shT_cons.1 hs
    simp only [atStamp] at h
    split at h
    · rename_i hb; cases h; exact ⟨z, hz, List.mem_cons_self .., Nat.eq_of_beq_eq_true hb⟩
    · obtain ⟨y, h1, h2, h3⟩ := atStamp_ok h hl
      exact ⟨y, h1, List.mem_cons_of_mem _ h2, h3⟩
theorem allOld_ok {since : Nat} : ∀ {l : List XTri} {gl : List TriG}, allOld since l = true → shT v l = some gl → ∀ t ∈ gl, t.2.2 < since
  | [], gl, _, hs, t, ht => by cases hs; cases ht
  | q :: r, gl, h, hs, t, ht => by
    obtain ⟨z, l, hz, hl, rfl⟩ := shT_cons.1 hs
    simp only [allOld] at h
    split at h
    · rename_i hb
      rcases List.mem_cons.1 ht with e | ht
      · subst e; simpa [Nat.blt_eq] using hb
      · exact allOld_ok h hl t ht
    · cases h
theorem memX_ok {i : Nat} : ∀ {l : List Nat}, memX l i = l.contains i
  | [] => rfl
  | x :: r => by
    simp only [memX, List.contains_cons]
    by_cases h : i = x
    · subst h; simp
    · have : Nat.beq i x = false := by
        cases hb : Nat.beq i x with
        | false => rfl
        | true => exact absurd (Nat.eq_of_beq_eq_true hb) h
      have h2 : (i == x) = false := by simp [h]
      rw [this, h2, memX_ok]; simp
theorem leftX_mem {seen : List Nat} : ∀ {l : List XTri} {gl : List TriG} {u : TriG}, shT v l = some gl → u ∈ gl → seen.contains u.2.2 = false → ∃ t ∈ leftX seen l, t.1 = u.1 ∧ t.2.2 = u.2.2 ∧ sh v t.2.1 = some u.2.1
  | [], gl, u, hs, hu, _ => by cases hs; cases hu
  | q :: r, gl, u, hs, hu, hc => by
    obtain ⟨z, l, hz, hl, rfl⟩ := shT_cons.1 hs
    simp only [leftX]
    rcases List.mem_cons.1 hu with e | hu'
    · subst e
      rw [memX_ok, hc]
      exact ⟨q, List.mem_cons_self .., rfl, rfl, hz⟩
    · obtain ⟨t, h1, h2⟩ := leftX_mem hl hu' hc
      split
      · exact ⟨t, h1, h2⟩
      · exact ⟨t, List.mem_cons_of_mem _ h1, h2⟩

theorem leftX_sub {seen : List Nat} : ∀ {l : List XTri} {gl : List TriG} {t : XTri}, shT v l = some gl → t ∈ leftX seen l → ∃ u ∈ gl, seen.contains t.2.2 = false ∧ u.2.2 = t.2.2
  | [], gl, t, hs, hu => by cases hu
  | q :: r, gl, t, hs, hu => by
    obtain ⟨z, l, hz, hl, rfl⟩ := shT_cons.1 hs
    simp only [leftX] at hu
    split at hu
    · obtain ⟨u, h1, h2⟩ := leftX_sub hl hu
      exact ⟨u, List.mem_cons_of_mem _ h1, h2⟩
    · rename_i hm
      rw [memX_ok] at hm
      rcases List.mem_cons.1 hu with e | hu
      · subst e; exact ⟨_, List.mem_cons_self .., hm, rfl⟩
      · obtain ⟨u, h1, h2⟩ := leftX_sub hl hu
        exact ⟨u, List.mem_cons_of_mem _ h1, h2⟩
theorem mapInt_out {t et : TypeId} (h : mapInt P t = some et) : ∃ kt, P.underlying t = some (.map kt et) ∧ P.underlying kt = some (.int .i64) := by
  unfold mapInt at h
  split at h
  · rename_i kt e hd
    split at h
    · rename_i hk
      cases h
      refine ⟨kt, hd, ?_⟩
      unfold intTy at hk
      split at hk
      · rename_i k hu; cases hk; exact hu
      · cases hk
    · cases h
  · cases h
theorem run_zeroX {t : TypeId} {i : TypeInfo} {z : Value} (hi : P.info? t = some i) (hz : i.zero = some z) (w : World) : (zeroValue t).run P w = .ok z w := by
  unfold zeroValue
  show ((typeInfo t).bind _).run P w = _
  rw [run_bind]
  have e : (typeInfo t).run P w = .ok i w := by
    show (match P.info? t with | some i => Sem.pure i | none => _ : Sem TypeInfo).run P w = _
    rw [hi]; rfl
  rw [e]
  show (match i.zero with | some v => pure v | none => _ : Sem Value).run P w = _
  rw [hz]; rfl
theorem zeroV_ok {t : TypeId} {z : EV} (h : zeroV P t = some z) : ∃ y, sh v z = some y ∧ ∀ w, (zeroValue t).run P w = .ok y w := by
  unfold zeroV at h
  split at h
  · rename_i i hi
    split at h
    · rename_i y hy
      exact ⟨y, ofV_sh h, fun w => run_zeroX hi hy w⟩
    · cases h
  · cases h
theorem mapTy_of {t et : TypeId} {z : Value} (h : mapInt P t = some et) (hz : ∀ w, (zeroValue et).run P w = .ok z w) : MapTyG P t z := by
  obtain ⟨kt, h1, h2⟩ := mapInt_out h
  exact ⟨kt, et, h1, h2, hz⟩
theorem map_out {k : Nat} {y : Value} (h : sh v (.map k) = some y) : ∃ b, v.β k = some b ∧ y = .map (some b.1) := by
  simp only [sh] at h
  split at h <;> cases h
  rename_i b hb
  exact ⟨b, hb, rfl⟩
theorem run_lookup_nil {t et : TypeId} {z : Value} (T : MapTyG P t z) (k : Int) (ok : Bool) : (Instr.lookup t (.map none) (.int .i64 k) ok).run P w = .ok (if ok then .tuple #[z, .bool false] else z) w := by
  obtain ⟨kt, et, h1, h2, h3⟩ := T.all
  unfold Instr.lookup
  have e := run_findKey (P := P) (w := w) h2 (findNow_G k [] 0)
  simp [run_underlying h1, run_checkG h2, h3]
  have e2 : (Instr.findKey kt (.int .i64 k) []).run P w = .ok none w := e
  simp [e2, h3]
theorem xlookup_ok {t : TypeId} {m k e : EV} {ok : Bool} {a b : Value} (h : xlookup P t m k ok s = some e) (H : Rep w0 v s w) (hm : sh v m = some a) (hk : sh v k = some b) : ∃ y, sh v e = some y ∧ ∀ K : KV, K y w → mget .full P t a b ok K w := by
  unfold xlookup at h
  split at h
  · rename_i et k hi
    cases hk
    split at h
    · rename_i z l hz hl
      cases h
      unfold mapL at hl
      obtain ⟨y, hy, hrun⟩ := zeroV_ok (v := v) hz
      have T := mapTy_of hi hrun
      split at hl
      · cases hl; cases hm
        refine ⟨if ok then .tuple #[y, .bool false] else y, ?_, fun K hK => ⟨_, w, run_lookup_nil (et := et) T k ok, fun _ => rfl, hK⟩⟩
        cases ok
        · exact hy
        · have : shL v [z, .bool false] = some [y, .bool false] := shL_cons.2 ⟨y, _, hy, rfl, rfl⟩
          simp [sh, getX, this]
      · rename_i r
        split at hl <;> cases hl
        rename_i c hr
        obtain ⟨bb, hb, rfl⟩ := map_out hm
        obtain ⟨b', O, hb', h0, hO, gl, h1, rfl, hg⟩ := H.held _ _ hr
        rw [hb] at hb'; cases hb'
        refine ⟨_, ?_, fun K hK => ⟨_, w, run_lookup_G T hO k ok, fun _ => rfl, hK⟩⟩
        cases hx : getX l k with
        | none =>
          rw [getX_none h1 hx]
          cases ok
          · exact hy
          · have : shL v [z, .bool false] = some [y, .bool false] := shL_cons.2 ⟨y, _, hy, rfl, rfl⟩
            simp [sh, this]
        | some x =>
          obtain ⟨u, hu, hs⟩ := getX_some h1 hx
          rw [hu]
          cases ok
          · exact hs
          · have : shL v [x, .bool true] = some [u, .bool true] := shL_cons.2 ⟨u, _, hs, rfl, rfl⟩
            simp [sh, this]
      · cases hl
    · cases h
  · cases h
theorem xlookO_ok {cx : XCx} (q : QOk cx v.ν) {t : TypeId} {m k e : EV} {ok : Bool} {a b : Value} (h : xlookO cx t m k ok s = some e) (H : Rep w0 v s w) (hm : sh v m = some a) (hk : sh v k = some b) : ∃ y, sh v e = some y ∧ ∀ K : KV, K y w → mget .full cx.P t a b ok K w := by
  unfold xlookO at h
  split at h
  · rename_i i
    split at h
    · rename_i et hi
      split at h
      · rename_i z l hz hl
        split at h <;> cases h
        rename_i hne
        have hg : getX l (v.ν (.int .i64) i) = none := by
          clear hl hz
          induction l with
          | nil => rfl
          | cons t r ih =>
            have h' : (match qlook cx.Q i .eql t.1 with | some false => allNeQ cx.Q i r | _ => false) = true := hne
            split at h'
            · rename_i hq
              have hb := q _ _ _ _ hq
              have hb' : (v.ν (.int .i64) i == t.1) = false := by simpa [xint] using hb
              have hd : decide (v.ν (.int .i64) i = t.1) = false := by simpa using hb'
              show (Bool.rec (motive := fun _ => Option EV) (getX r (v.ν (.int .i64) i)) (some t.2.1) (decide (v.ν (.int .i64) i = t.1))) = none
              rw [hd]
              exact ih h'
            · cases h'
        refine xlookup_ok (m := m) (k := .int .i64 (v.ν (.int .i64) i)) ?_ H hm hk
        unfold xlookup
        simp only [hi, hz, hl, hg]
        cases ok <;> rfl
      · cases h
    · cases h
  · exact xlookup_ok h H hm hk
/-- a map in the store turned -/
theorem Rep.putM (H : Rep w0 v s w) {k : Nat} {l l' : List XTri} {c c' : Nat} {gl' : List TriG} {b : Nat × Nat} (h : s.get k = some (.map l c)) (hb : v.β k = some b) (h1 : shT v l' = some gl') (h2 : GOk gl' c') : Rep w0 v (s.put k (.map l' c')) { w with heap := w.heap.setIfInBounds b.1 (mapG gl' c') } := by
  have hlt := H.blt h hb
  refine H.put h hb _ rfl rfl rfl (by simp) (O' := mapG gl' c') (by simp [hlt]) (fun j _ hne => by simp [Ne.symm hne]) ⟨gl', h1, rfl, h2⟩
theorem run_update_none {t kt et : TypeId} (h1 : P.underlying t = some (.map kt et)) (h2 : P.underlying kt = some (.int .i64)) {m : Nat} {l : List TriG} {c : Nat} (hm : w.heap[m]? = some (mapG l c)) (k : Int) (u : Value) (hn : getG l k = none) :
    (Instr.mapUpdate t (.map (some m)) (.int .i64 k) u).run P w = .ok () { w with heap := w.heap.setIfInBounds m (mapG (l ++ [(k, u, c)]) (c + 1)) } := by
  have hg : (getObj m).run P w = .ok (.map (l.map entG).toArray c) w := MapKept.run_getObj_map hm
  have hset := fun o => MapKept.run_setObj_map (P := P) (es := (l.map entG).toArray) (clock := c) o hm
  unfold Instr.mapUpdate
  cases hf : fndG l k 0 with
  | none => simp [run_underlying h1, hg, run_checkG h2, MapKept.run_findKey h2 (findNow_G k l 0), hf, hset, mapG, entG]
  | some x => obtain ⟨j, q, -, -, -, g4, -⟩ := fndG_some hf; rw [hn] at g4; cases g4
theorem run_update_some {t kt et : TypeId} (h1 : P.underlying t = some (.map kt et)) (h2 : P.underlying kt = some (.int .i64)) {m : Nat} {l : List TriG} {c : Nat} (hm : w.heap[m]? = some (mapG l c)) (k : Int) (u : Value) {y : Value} (hn : getG l k = some y) :
    (Instr.mapUpdate t (.map (some m)) (.int .i64 k) u).run P w = .ok () { w with heap := w.heap.setIfInBounds m (mapG (updG k u l) c) } := by
  have hg : (getObj m).run P w = .ok (.map (l.map entG).toArray c) w := MapKept.run_getObj_map hm
  have hset := fun o => MapKept.run_setObj_map (P := P) (es := (l.map entG).toArray) (clock := c) o hm
  unfold Instr.mapUpdate
  cases hf : fndG l k 0 with
  | none => rw [(fndG_none hf).1] at hn; cases hn
  | some x =>
    obtain ⟨j, q, g1, g2, rfl, g4, g5, -⟩ := fndG_some hf
    have hm2 := mod_entG l j q g1 (fun e => { e with key := .int .i64 k, val := u }) (k, u, q.2.2) rfl
    rw [g5 u _ rfl] at hm2
    have hkey : (((l.map entG)[j]?.map (·.key)).getD (.int .i64 k)) = .int .i64 k := by simp [g1, entG, g2]
    simp [run_underlying h1, hg, run_checkG h2, MapKept.run_findKey h2 (findNow_G k l 0), hf]
    simp [g1, entG, g2, keyStaysG, hset, mapG]
    rw [hm2]
theorem keys_of_none {k : Int} {l : List TriG} (h : getG l k = none) : ∀ t ∈ l, t.1 ≠ k := by
  induction l with
  | nil => simp
  | cons t r ih =>
    simp only [getG] at h
    split at h
    · cases h
    · rename_i hk
      intro u hu
      rcases List.mem_cons.1 hu with rfl | hu
      · exact fun e => hk e.symm
      · exact ih h u hu
theorem xupdate_ok {t : TypeId} {m k x : EV} {s' : XSt} {a b y : Value} (h : xupdate P t m k x s = some s') (H : Rep w0 v s w) (hm : sh v m = some a) (hk : sh v k = some b) (hx : sh v x = some y) :
    ∃ w', Rep w0 v s' w' ∧ ∀ K : World → Prop, K w' → mset .full P t a b y K w := by
  unfold xupdate at h
  split at h
  · rename_i et r k hi
    cases hk
    obtain ⟨kt, t1, t2⟩ := mapInt_out hi
    split at h
    · rename_i l c hr
      obtain ⟨bb, hb, rfl⟩ := map_out hm
      obtain ⟨b', O, hb', h0, hO, gl, h1, rfl, hg⟩ := H.held _ _ hr
      rw [hb] at hb'; cases hb'
      split at h <;> cases h
      · rename_i q hq
        obtain ⟨u, hu, hs⟩ := getX_some h1 hq
        exact ⟨_, H.putM hr hb (shT_upd hx h1) (hg.upd k y), fun K hK => ⟨_, run_update_some t1 t2 hO k y hu, fun h => absurd rfl h, hK⟩⟩
      · rename_i hq
        have hn := getX_none h1 hq
        exact ⟨_, H.putM hr hb (shT_app hx h1) (hg.app (keys_of_none hn)), fun K hK => ⟨_, run_update_none t1 t2 hO k y hn, fun h => absurd rfl h, hK⟩⟩
    · cases h
  · cases h
theorem run_entry_none {t : TypeId} {z : Value} (T : MapTyG P t z) {m : Nat} {l : List TriG} {c : Nat} (hm : w.heap[m]? = some (mapG l c)) (k : Int) (hn : getG l k = none) :
    (Instr.mapEntry t (.map (some m)) (.int .i64 k)).run P w = .ok (.tuple #[z, goInt c]) { w with heap := w.heap.setIfInBounds m (mapG (l ++ [(k, z, c)]) (c + 1)) } := by
  obtain ⟨kt, et, h1, h2, h3⟩ := T.all
  have hg : (getObj m).run P w = .ok (.map (l.map entG).toArray c) w := MapKept.run_getObj_map hm
  have hset := fun o => MapKept.run_setObj_map (P := P) (es := (l.map entG).toArray) (clock := c) o hm
  unfold Instr.mapEntry
  cases hf : fndG l k 0 with
  | none => simp [run_underlying h1, hg, run_checkG h2, MapKept.run_findKey h2 (findNow_G k l 0), hf, hset, mapG, entG, h3]
  | some x => obtain ⟨j, q, -, -, -, g4, -⟩ := fndG_some hf; rw [hn] at g4; cases g4
theorem run_entry_some {t : TypeId} {z : Value} (T : MapTyG P t z) {m : Nat} {l : List TriG} {c : Nat} (hm : w.heap[m]? = some (mapG l c)) (k : Int) {y : Value} (hn : getG l k = some y) :
    ∃ u ∈ l, u.1 = k ∧ (Instr.mapEntry t (.map (some m)) (.int .i64 k)).run P w = .ok (.tuple #[y, goInt u.2.2]) { w with heap := w.heap.setIfInBounds m (mapG l c) } := by
  obtain ⟨kt, et, h1, h2, h3⟩ := T.all
  have hg : (getObj m).run P w = .ok (.map (l.map entG).toArray c) w := MapKept.run_getObj_map hm
  have hset := fun o => MapKept.run_setObj_map (P := P) (es := (l.map entG).toArray) (clock := c) o hm
  unfold Instr.mapEntry
  cases hf : fndG l k 0 with
  | none => rw [(fndG_none hf).1] at hn; cases hn
  | some x =>
    obtain ⟨j, u, g1, g2, rfl, g4, g5, -⟩ := fndG_some hf
    rw [hn] at g4; cases g4
    refine ⟨u, List.mem_of_getElem? g1, g2, ?_⟩
    have hm2 := mod_entG l j u g1 (fun e => { e with key := .int .i64 k }) u (by simp [entG, g2])
    rw [set_same j g1] at hm2
    simp [run_underlying h1, hg, run_checkG h2, MapKept.run_findKey h2 (findNow_G k l 0), hf]
    simp [g1, entG, g2, keyStaysG, hset, mapG]
    rw [hm2]
theorem set_selfH {w : World} {m : Nat} {O : Obj} (h : w.heap[m]? = some O) : ({ w with heap := w.heap.setIfInBounds m O } : World) = w := by
  have : w.heap.setIfInBounds m O = w.heap := by
    apply Array.ext_getElem?
    intro i
    by_cases e : i = m
    · subst e; simp [lt_of_some h, h]; exact (Array.getElem?_eq_some_iff.1 h).2.symm
    · simp [Ne.symm e]
  rw [this]
theorem xentry_ok {t : TypeId} {m k : EV} {r : EV × XSt} {a b : Value} (h : xentry P t m k s = some r) (H : Rep w0 v s w) (hm : sh v m = some a) (hk : sh v k = some b) :
    ∃ w' y n, Rep w0 v r.2 w' ∧ sh v r.1 = some (.tuple #[y, .int .i64 n]) ∧ ∀ K : KV, K (.tuple #[y, .int .i64 n]) w' → ment .full P t a b K w := by
  unfold xentry at h
  split at h
  · rename_i et r0 k hi
    cases hk
    split at h
    · rename_i l c z hr hz
      obtain ⟨zz, hy, hrun⟩ := zeroV_ok (v := v) hz
      have T := mapTy_of hi hrun
      obtain ⟨bb, hb, rfl⟩ := map_out hm
      obtain ⟨b', O, hb', h0, hO, gl, h1, rfl, hg⟩ := H.held _ _ hr
      rw [hb] at hb'; cases hb'
      have two : ∀ {x : EV} {y : Value} {n : Int}, sh v x = some y → sh v (.tup [x, .int .i64 n]) = some (.tuple #[y, .int .i64 n]) := fun {x y n} hx => by
        have : shL v [x, .int .i64 n] = some [y, .int .i64 n] := shL_cons.2 ⟨y, _, hx, rfl, rfl⟩
        simp [sh, this]
      split at h <;> cases h
      · rename_i q hq
        obtain ⟨u, hu, hs⟩ := getX_some h1 hq
        obtain ⟨g, hg1, hg2, hg3⟩ := run_entry_some T hO k hu
        rw [bornX_ok h1 hg.keys hg1 hg2]
        rw [set_selfH hO] at hg3
        exact ⟨_, _, _, H, two hs, fun K hK => ⟨_, _, hg3, fun h => absurd rfl h, hK⟩⟩
      · rename_i hq
        have hn := getX_none h1 hq
        exact ⟨_, _, _, H.putM hr hb (shT_app hy h1) (hg.app (keys_of_none hn)), two hy, fun K hK => ⟨_, _, run_entry_none T hO k hn, fun h => absurd rfl h, hK⟩⟩
    · cases h
  · cases h
theorem run_estore_X {ty : TypeId} {m : Nat} {l : List TriG} {c : Nat} (ok : GOk l c) (hm : w.heap[m]? = some (mapG l c)) {u : TriG} (hu : u ∈ l) (v : Value) :
    (Instr.entryStore ty (.map (some m)) (goInt u.2.2) v).run P w = .ok () { w with heap := w.heap.setIfInBounds m (mapG (updG u.1 v l) c) } := by
  have hg : (getObj m).run P w = .ok (.map (l.map entG).toArray c) w := MapKept.run_getObj_map hm
  have hset := fun o => MapKept.run_setObj_map (P := P) (es := (l.map entG).toArray) (clock := c) o hm
  have hfi : ∃ i, (l.map entG).toArray.findIdx? (fun e => (e.born : Int) == (u.2.2 : Int)) = some i ∧ l[i]? = some u := by
    cases hfx : (l.map entG).toArray.findIdx? (fun e => (e.born : Int) == (u.2.2 : Int)) with
    | none =>
      rw [Array.findIdx?_eq_none_iff] at hfx
      have := hfx (entG u) (by simp; exact ⟨_, _, _, hu, rfl⟩)
      simp [entG] at this
    | some i =>
      refine ⟨i, rfl, ?_⟩
      obtain ⟨hi, h1, -⟩ := Array.findIdx?_eq_some_iff_getElem.1 hfx
      simp at hi
      rw [List.getElem?_eq_getElem hi]
      congr 1
      refine stamp_eqG ok.stamps (List.getElem_mem hi) hu ?_
      have : ((l[i].2.2 : Nat) : Int) = (u.2.2 : Nat) := by simpa [entG] using h1
      omega
  obtain ⟨i, hfx, hi⟩ := hfi
  have hs := set_updG (v := v) ok.keys hi
  have hm2 := mod_entG l i u hi (fun e => { e with val := v }) (u.1, v, u.2.2) rfl
  rw [hs.1] at hm2
  unfold Instr.entryStore
  simp at hfx
  simp [hg, goInt, asInt, asIntOf, hfx, hset, mapG, hm2]
theorem xestore_ok {t : TypeId} {m k x : EV} {s' : XSt} {a b y : Value} (h : xestore m k x s = some s') (H : Rep w0 v s w) (hm : sh v m = some a) (hk : sh v k = some b) (hx : sh v x = some y) :
    ∃ w', Rep w0 v s' w' ∧ ∀ K : World → Prop, K w' → mest .full P t a b y K w := by
  unfold xestore at h
  split at h
  · rename_i r n
    cases hk
    split at h
    · rename_i l c hr
      split at h <;> cases h
      rename_i l' hl
      obtain ⟨bb, hb, rfl⟩ := map_out hm
      obtain ⟨b', O, hb', h0, hO, gl, h1, rfl, hg⟩ := H.held _ _ hr
      rw [hb] at hb'; cases hb'
      obtain ⟨u, hu, e, h2⟩ := stampX_ok hx hl h1 hg.keys
      subst e
      exact ⟨_, H.putM hr hb h2 (hg.upd u.1 y), fun K hK => ⟨_, run_estore_X (P := P) (ty := t) hg hO hu y, fun h => absurd rfl h, hK⟩⟩
    · cases h
  · cases h
theorem run_delete_X {t kt et kt0 ty : TypeId} (h1 : P.underlying t = some (.map kt et)) (h2 : P.underlying kt = some (.int .i64)) {ts : Array TypeId} (hts : ts[0]? = some t) {m : Nat} {l : List TriG} {c : Nat} (hm : w.heap[m]? = some (mapG l c)) (k : Int) :
    (Builtin.delete_ ts ty #[.map (some m), .int .i64 k]).run P w = .ok (.tuple #[]) { w with heap := w.heap.setIfInBounds m (mapG (delG k l) c) } := by
  have hg : (getObj m).run P w = .ok (.map (l.map entG).toArray c) w := MapKept.run_getObj_map hm
  have hset := fun o => MapKept.run_setObj_map (P := P) (es := (l.map entG).toArray) (clock := c) o hm
  have hts' : ts[0]! = t := by simp [getElem!_def, hts]
  unfold Builtin.delete_
  cases hf : fndG l k 0 with
  | none =>
    obtain ⟨g1, g2⟩ := fndG_none hf
    have hd : ∀ {l : List TriG}, (∀ t ∈ l, t.1 ≠ k) → delG k l = l := by
      intro l
      induction l with
      | nil => intro _; rfl
      | cons t r ih =>
        intro h
        simp only [delG]
        rw [if_neg (fun e => h t (List.mem_cons_self ..) e.symm), ih (fun u hu => h u (List.mem_cons_of_mem _ hu))]
    rw [hd g2]
    simp [hts, run_underlying h1, hg, run_checkG h2, MapKept.run_findKey h2 (findNow_G k l 0), hf, hset, mapG]
  | some x =>
    obtain ⟨j, u, g1, g2, rfl, g4, -, g6⟩ := fndG_some hf
    simp [hts, run_underlying h1, hg, run_checkG h2, MapKept.run_findKey h2 (findNow_G k l 0), hf, hset, mapG, ← g6, erase_entG]
theorem xdelete_ok {ts : Array TypeId} {ty : TypeId} {m k : EV} {s' : XSt} {a b : Value} (h : xdelete P ts m k s = some s') (H : Rep w0 v s w) (hm : sh v m = some a) (hk : sh v k = some b) :
    ∃ w', Rep w0 v s' w' ∧ ∀ K : KV, K (.tuple #[]) w' → bdel .full P ts ty a b K w := by
  unfold xdelete at h
  split at h
  · rename_i t r k ht
    cases hk
    split at h
    · rename_i et l c hi hr
      cases h
      obtain ⟨kt, t1, t2⟩ := mapInt_out hi
      obtain ⟨bb, hb, rfl⟩ := map_out hm
      obtain ⟨b', O, hb', h0, hO, gl, h1, rfl, hg⟩ := H.held _ _ hr
      rw [hb] at hb'; cases hb'
      exact ⟨_, H.putM hr hb (shT_del h1) (hg.del k), fun K hK => ⟨_, _, run_delete_X (kt0 := kt) t1 t2 ht hO k, fun h => absurd rfl h, hK⟩⟩
    · cases h
  · cases h
theorem xrange_ok {t : TypeId} {m : EV} {r : EV × XSt} {a : Value} (h : xrange P t m s = some r) (H : Rep w0 v s w) (hm : sh v m = some a) :
    ∃ v' w' y, v.le v' ∧ Rep w0 v' r.2 w' ∧ sh v' r.1 = some y ∧ ∀ K : KV, K y w' → mrng .full P t a K w := by
  unfold xrange at h
  split at h
  · rename_i et r0 hi
    split at h
    · rename_i l c hr
      split at h <;> cases h
      rename_i k s' hn
      obtain ⟨kt, t1, t2⟩ := mapInt_out hi
      obtain ⟨bb, hb, rfl⟩ := map_out hm
      obtain ⟨b', O, hb', h0, hO, gl, h1, rfl, hg⟩ := H.held _ _ hr
      rw [hb] at hb'; cases hb'
      have hnone : v.β k = none := by
        obtain ⟨rfl, h1, -⟩ := new_out hn
        exact (H.fresh _ (Nat.le_refl _) h1).1
      obtain ⟨hle, H'⟩ := H.nw hn 0 (O := .mapIter (some bb.1) c #[] c) (fun _ _ => default) ⟨bb, (Vl.put_le hnone).β _ _ hb, rfl⟩
      exact ⟨_, _, _, hle, H', by simp only [sh, Vl.put_self], fun K hK => ⟨_, _, run_range_map w t kt et bb.1 _ c t1 hO, fun h => absurd rfl h, hK⟩⟩
    · cases h
  · cases h
theorem xnext_ok {ty : TypeId} {it : EV} {b : Bool} {r : EV × XSt} {a : Value} (h : xnext it b s = some r) (H : Rep w0 v s w) (hi : sh v it = some a) :
    ∃ w' c rest, Rep w0 v r.2 w' ∧ sh v r.1 = some (.tuple (Value.bool c :: rest).toArray) ∧ ∀ K : KV, K (.tuple (Value.bool c :: rest).toArray) w' → mnxt .full P a b ty K w := by
  unfold xnext at h
  split at h
  · rename_i r0
    obtain ⟨bb, hb, rfl⟩ := ptr_out hi
    split at h
    · rename_i m since seen c0 hr
      split at h
      · rename_i l c hm
        obtain ⟨b', O, hb', h0, hO, bm, hbm, rfl⟩ := H.held _ _ hr
        rw [hb] at hb'; cases hb'
        obtain ⟨b2, O2, hb2, h02, hO2, gl, h1, rfl, hg⟩ := H.held _ _ hm
        rw [hbm] at hb2; cases hb2
        have sc : ∀ n, seen.reverse.toArray.contains n = seen.contains n := fun n => by simp
        split at h
        · rename_i ho hs hl
          cases h
          refine ⟨w, false, [], H, rfl, fun K hK => ?_⟩
          rcases run_next_at (P := P) w ty bb.1 bm.1 since c0 seen.reverse.toArray (gl.map entG).toArray c hO hO2 (fun x hx => by
            obtain ⟨t, ht, rfl⟩ := List.mem_map.1 hx
            exact allOld_ok ho h1 t ht) (Nat.le_of_ble_eq_true hs) with ⟨_, hrun⟩ | ⟨e, he, w1, hw1, hrun⟩
          · exact ⟨_, _, hrun, fun h => absurd rfl h, hK⟩
          · exfalso
            obtain ⟨g1, g2⟩ := mem_left he
            obtain ⟨t, ht, rfl⟩ := List.mem_map.1 g1
            rw [sc] at g2
            obtain ⟨q, hq, -⟩ := leftX_mem h1 ht g2
            rw [hl] at hq; cases hq
        · rename_i t ho hs hl
          cases h
          rcases run_next_at (P := P) w ty bb.1 bm.1 since c0 seen.reverse.toArray (gl.map entG).toArray c hO hO2 (fun x hx => by
            obtain ⟨t, ht, rfl⟩ := List.mem_map.1 hx
            exact allOld_ok ho h1 t ht) (Nat.le_of_ble_eq_true hs) with ⟨h0, hrun⟩ | ⟨e, he, w1, hw1, hrun⟩
          · exfalso
            have hall := all_seen _ _ h0
            have hlx : t ∈ leftX seen l := by rw [hl]; exact List.mem_cons_self ..
            obtain ⟨u, hu, hc, he⟩ := leftX_sub h1 hlx
            have := hall (entG u) (List.mem_map_of_mem hu)
            rw [sc] at this
            simp only [entG] at this
            rw [he, hc] at this; cases this
          · obtain ⟨g1, g2⟩ := mem_left he
            obtain ⟨u, hu, rfl⟩ := List.mem_map.1 g1
            rw [sc] at g2
            obtain ⟨q, hq, q1, q2, q3⟩ := leftX_mem h1 hu g2
            rw [hl] at hq
            rcases List.mem_cons.1 hq with e | hq'
            · subst e
              have H1 : Rep w0 v s w1 := by
                rcases hw1 with rfl | rfl
                · exact H
                · exact H.drew
              have hlt := H1.blt hr hb
              refine ⟨_, true, [.int .i64 u.1, u.2.1], ?_, ?_, fun K hK => ⟨_, _, hrun, fun h => absurd rfl h, hK⟩⟩
              · refine H1.put hr hb _ rfl rfl rfl (by simp [setBlock]) (O' := .mapIter (some bm.1) since (seen.reverse.toArray.push u.2.2) c) (by simp [setBlock, hlt, entG]) (fun j hj hne => by simp [setBlock, Ne.symm hne]) ⟨bm, hbm, by rw [q2]; simp⟩
              · rw [q1]
                have : shL v [.bool true, .int .i64 u.1, q.2.1] = some [.bool true, .int .i64 u.1, u.2.1] := shL_cons.2 ⟨_, _, rfl, shL_cons.2 ⟨_, _, rfl, shL_cons.2 ⟨_, _, q3, rfl, rfl⟩, rfl⟩, rfl⟩
                simp [sh, this]
            · cases hq'
        · cases h
      · cases h
    · cases h
  · cases h
theorem xent_ok {it e : EV} {a : Value} (h : xent it s = some e) (H : Rep w0 v s w) (hi : sh v it = some a) :
    ∃ y z, sh v e = some (.tuple #[y, z]) ∧ ∀ K : KV, K (.tuple #[y, z]) w → mtry .full P a K w := by
  unfold xent at h
  split at h
  · rename_i r0
    obtain ⟨bb, hb, rfl⟩ := ptr_out hi
    split at h
    · rename_i m since b seen c0 hr
      split at h
      · rename_i l c hm
        obtain ⟨b', O, hb', h0, hO, bm, hbm, rfl⟩ := H.held _ _ hr
        rw [hb] at hb'; cases hb'
        obtain ⟨b2, O2, hb2, h02, hO2, gl, h1, rfl, hg⟩ := H.held _ _ hm
        rw [hbm] at hb2; cases hb2
        split at h <;> cases h
        rename_i t hc ht
        obtain ⟨y, hy, hmem, he⟩ := atStamp_ok ht h1
        have hcc := Nat.eq_of_beq_eq_true hc
        subst hcc; subst he
        refine ⟨.int .i64 t.1, y, ?_, fun K hK => ⟨_, _, run_entry_at w bb.1 bm.1 since seen.reverse.toArray (gl.map entG).toArray c (entG (t.1, y, t.2.2)) (by rw [hO]; simp [entG]) hO2 (List.mem_map_of_mem hmem) ?_, fun h => absurd rfl h, hK⟩⟩
        · have : shL v [.int .i64 t.1, t.2.1] = some [.int .i64 t.1, y] := shL_cons.2 ⟨_, _, rfl, shL_cons.2 ⟨_, _, hy, rfl, rfl⟩, rfl⟩
          simp [sh, this]
        · have : ((gl.map entG).toArray.toList.map (·.born)) = gl.map (·.2.2) := by simp [entG]
          rw [this]; exact hg.stamps
      · cases h
    · cases h
  · cases h
end
end Go.Sh
