/- Contracts of journal. Conditions: none. -/
import Derived.Test.YtcfmnoimehcfnaaGreatDoorC2
set_option linter.unusedVariables false
set_option maxRecDepth 100000
namespace Go.Proofs.YtcfmnoimehcfnaaGreatDoor
open Go Go.Sh

abbrev St (s : ByteArray) : Value := .string s
structure Jr where
  j : Nat
  room : Int
  r : Row
  lines : List ByteArray
  sure : Int
  down : Bool
def Jr.hp (J : Jr) : Hp := [(J.j, .cells #[I J.room, J.r.v, I J.sure, .bool J.down] 235 (0, 0))] ++ J.r.hp 9
structure Jr.Ok (J : Jr) : Prop where
  row : J.r.Ok 1 (J.lines.map St)
  room : J.room ≤ 4096
theorem Jr.n {J : Jr} (h : J.Ok) : J.r.n = J.lines.length := by
  have := h.row.len
  rw [List.length_map] at this
  omega
abbrev Jr.v (J : Jr) : Value := .pointer (some ⟨J.j, 0, none⟩)
theorem el80 : ElTy Tryz.prog 62 9 1 16 := ⟨⟨_, _, rfl, rfl, rfl, rfl, rfl, rfl⟩, by decide⟩
def roomB (x : Int) : Int := if (if 4096 < x then 4096 else x) > 1 then if 4096 < x then 4096 else x else 1
theorem newJ_c {w0 w : World} {hs : List Hp} {K : KV} {x : Int} (H : Holds w0 hs w) (k : ∀ (J : Jr) w', J.Ok → J.lines = [] → J.sure = 0 → J.down = false → J.room = roomB x → Holds w0 (J.hp :: hs) w' → K J.v w') : gocall Tryz.prog 98 [I x] K w := by
  apply F98_go; unfold F98
  (repeat first|(with_reducible first|refine ldA (by assumption) ?_|refine Stp.imp ?_|refine stA (by assumption) rfl fun _ _=>?_|refine nw_h (by assumption) fun _ _ _=>?_|refine ldSA ?_|refine asT_e [] rfl rfl ?_|refine ldD (by assumption) ?_|refine nwD (by assumption) fun _ _ _=>?_|refine kpA (by first|assumption|(apply Holds.drew; assumption)) ?_)|((with_reducible first|apply asI_e|apply asStr_e|apply asSl_e|apply asBoo_e|apply asPtr_e); rfl))
  refine k ⟨_, roomB x, Row.nil, [], 0, false⟩ _ ⟨Row.nil_ok 1, ?_⟩ rfl rfl rfl rfl ?_
  · simp only [roomB]; split <;> (try split) <;> omega
  · exact Holds.join (c := [_]) (Holds.bring 1 (Holds.nil (by assumption)) rfl)
theorem downJ_c {w0 w : World} {hs : List Hp} {K : KV} {J : Jr} (i : Nat) (H : Holds w0 hs w) (hi : hs[i]? = some J.hp) (k : ∀ w', Holds w0 hs w' → K (.bool J.down) w') : gocall Tryz.prog 133 [J.v] K w := by
  apply F133_go; unfold F133
  refine br_t rfl ?_
  replace H := H.open2 i hi
  (repeat first|(with_reducible first|refine ldA (by assumption) ?_|refine Stp.imp ?_|refine stA (by assumption) rfl fun _ _=>?_|refine nw_h (by assumption) fun _ _ _=>?_|refine ldSA ?_|refine asT_e [] rfl rfl ?_|refine ldD (by assumption) ?_|refine nwD (by assumption) fun _ _ _=>?_|refine kpA (by first|assumption|(apply Holds.drew; assumption)) ?_)|((with_reducible first|apply asI_e|apply asStr_e|apply asSl_e|apply asBoo_e|apply asPtr_e); rfl))
  exact k _ (H.shut2 i hi)
theorem sync_c {w0 w : World} {hs : List Hp} {K : KV} {J : Jr} (i : Nat) (H : Holds w0 hs w) (hi : hs[i]? = some J.hp) (ok : J.Ok) (hd : J.down = false)
    (k : ∀ (J' : Jr) w', J' = { J with sure := J.lines.length } → J'.Ok → Holds w0 (hs.set i J'.hp) w' → K (I 0) w') : gocall Tryz.prog 202 [J.v] K w := by
  have hn := Jr.n ok
  apply F202_go; unfold F202
  refine br_f rfl ?_
  replace H := H.open2 i hi
  (repeat first|(with_reducible first|refine ldA (by assumption) ?_|refine Stp.imp ?_|refine stA (by assumption) rfl fun _ _=>?_|refine nw_h (by assumption) fun _ _ _=>?_|refine ldSA ?_|refine asT_e [] rfl rfl ?_|refine ldD (by assumption) ?_|refine nwD (by assumption) fun _ _ _=>?_|refine kpA (by first|assumption|(apply Holds.drew; assumption)) ?_)|((with_reducible first|apply asI_e|apply asStr_e|apply asSl_e|apply asBoo_e|apply asPtr_e); rfl))
  refine br_f hd ?_
  (repeat first|(with_reducible first|refine ldA (by assumption) ?_|refine Stp.imp ?_|refine stA (by assumption) rfl fun _ _=>?_|refine nw_h (by assumption) fun _ _ _=>?_|refine ldSA ?_|refine asT_e [] rfl rfl ?_|refine ldD (by assumption) ?_|refine nwD (by assumption) fun _ _ _=>?_|refine kpA (by first|assumption|(apply Holds.drew; assumption)) ?_)|((with_reducible first|apply asI_e|apply asStr_e|apply asSl_e|apply asBoo_e|apply asPtr_e); rfl))
  refine k { J with sure := J.lines.length } _ rfl ⟨ok.row, ok.room⟩ (Holds.close2 i ?_ hi)
  rw [← hn]
  assumption
def addB (J : Jr) (s : ByteArray) (id : Int) (l : List Int) : Int := if J.down = true then 10 else if mayE s id l = true then (if (J.lines.length : Int) ≥ J.room then 5 else 0) else 1
theorem add_c {w0 w : World} {hs : List Hp} {K : KV} {J : Jr} {s : ByteArray} {id : Int} {l : List Int} {p : Option Addr} {n c : Nat} (T : Tab w0) (i : Nat) (H : Holds w0 hs w) (hi : hs[i]? = some J.hp) (ok : J.Ok) (hl : s.size < 1000000000) (hsl : Sl (Holds w0 hs) p n 1 (l.map I))
    (k : ∀ (J' : Jr) w', J' = { J with r := J'.r, lines := if addB J s id l = 0 then J.lines ++ [lineE s id l] else J.lines } → (addB J s id l ≠ 0 → J' = J) → J'.Ok → Holds w0 (hs.set i J'.hp) w' → K (I (addB J s id l)) w') : gocall Tryz.prog 211 [J.v, .agg #[.string s, I id, .slice p n c]] K w := by
  have hn := Jr.n ok
  have stay : ∀ w', (n : Int) → addB J s id l = n → n ≠ 0 → Holds w0 hs w' → K (I n) w' := fun w' n hn h0 H' => by
    have := k J w' (by rw [if_neg (by omega)]) (fun _ => rfl) ok (by rwa [set_same i hi])
    rwa [hn] at this
  apply F211_go; unfold F211
  replace H := H.open2 i hi
  (repeat first|(with_reducible first|refine ldA (by assumption) ?_|refine Stp.imp ?_|refine stA (by assumption) rfl fun _ _=>?_|refine nw_h (by assumption) fun _ _ _=>?_|refine ldSA ?_|refine asT_e [] rfl rfl ?_|refine ldD (by assumption) ?_|refine nwD (by assumption) fun _ _ _=>?_|refine kpA (by first|assumption|(apply Holds.drew; assumption)) ?_)|((with_reducible first|apply asI_e|apply asStr_e|apply asSl_e|apply asBoo_e|apply asPtr_e); rfl))
  refine br_f rfl ?_
  (repeat first|(with_reducible first|refine ldA (by assumption) ?_|refine Stp.imp ?_|refine stA (by assumption) rfl fun _ _=>?_|refine nw_h (by assumption) fun _ _ _=>?_|refine ldSA ?_|refine asT_e [] rfl rfl ?_|refine ldD (by assumption) ?_|refine nwD (by assumption) fun _ _ _=>?_|refine kpA (by first|assumption|(apply Holds.drew; assumption)) ?_)|((with_reducible first|apply asI_e|apply asStr_e|apply asSl_e|apply asBoo_e|apply asPtr_e); rfl))
  refine br_s (fun hd => stay _ 10 (by unfold addB; rw [if_pos hd]) (by decide) (Holds.shut2 i (Holds.tail (by assumption)) hi)) (fun hd => ?_)
  (repeat first|(with_reducible first|refine ldA (by assumption) ?_|refine Stp.imp ?_|refine stA (by assumption) rfl fun _ _=>?_|refine nw_h (by assumption) fun _ _ _=>?_|refine ldSA ?_|refine asT_e [] rfl rfl ?_|refine ldD (by assumption) ?_|refine nwD (by assumption) fun _ _ _=>?_|refine kpA (by first|assumption|(apply Holds.drew; assumption)) ?_)|((with_reducible first|apply asI_e|apply asStr_e|apply asSl_e|apply asBoo_e|apply asPtr_e); rfl))
  refine Line_c T hl (hsl.mono fun w H => Holds.shut2 i (Holds.tail H) hi) (by (first | assumption | (apply Holds.drew; assumption))) (fun w H => ?_)
  by_cases hm : mayE s id l = true
  · rw [if_pos hm]
    refine asT_e [.string (lineE s id l), I 0] rfl rfl ?_
    (repeat first|(with_reducible first|refine ldA (by assumption) ?_|refine Stp.imp ?_|refine stA (by assumption) rfl fun _ _=>?_|refine nw_h (by assumption) fun _ _ _=>?_|refine ldSA ?_|refine asT_e [] rfl rfl ?_|refine ldD (by assumption) ?_|refine nwD (by assumption) fun _ _ _=>?_|refine kpA (by first|assumption|(apply Holds.drew; assumption)) ?_)|((with_reducible first|apply asI_e|apply asStr_e|apply asSl_e|apply asBoo_e|apply asPtr_e); rfl))
    refine br_f (by rfl) ?_
    (repeat first|(with_reducible first|refine ldA (by assumption) ?_|refine Stp.imp ?_|refine stA (by assumption) rfl fun _ _=>?_|refine nw_h (by assumption) fun _ _ _=>?_|refine ldSA ?_|refine asT_e [] rfl rfl ?_|refine ldD (by assumption) ?_|refine nwD (by assumption) fun _ _ _=>?_|refine kpA (by first|assumption|(apply Holds.drew; assumption)) ?_)|((with_reducible first|apply asI_e|apply asStr_e|apply asSl_e|apply asBoo_e|apply asPtr_e); rfl))
    refine br_s (fun hf => stay _ 5 ?_ (by decide) (Holds.shut2 i (Holds.drew (Holds.tail (by assumption))) hi)) (fun hf => ?_)
    · simp at hf
      unfold addB; rw [if_neg (by simp [hd]), if_pos hm, if_pos (by omega)]
    simp at hf
    (repeat first|(with_reducible first|refine ldA (by assumption) ?_|refine Stp.imp ?_|refine stA (by assumption) rfl fun _ _=>?_|refine nw_h (by assumption) fun _ _ _=>?_|refine ldSA ?_|refine asT_e [] rfl rfl ?_|refine ldD (by assumption) ?_|refine nwD (by assumption) fun _ _ _=>?_|refine kpA (by first|assumption|(apply Holds.drew; assumption)) ?_)|((with_reducible first|apply asI_e|apply asStr_e|apply asSl_e|apply asBoo_e|apply asPtr_e); rfl))
    have e0 : addB J s id l = 0 := by unfold addB; rw [if_neg (by simp [hd]), if_pos hm, if_neg (by omega)]
    have hroom := ok.room
    refine bapp1_h (news := [St (lineE s id l)]) el80 0 (H := Holds.bring 3 (by assumption) rfl) rfl ok.row rfl (by simp [Value.oneCell']) (by omega) (by unfold maxLen; omega) (fun r' w1 hr1 hr2 H1 => ?_)
    (repeat first | ((with_reducible apply asI_e); rfl) | ((with_reducible apply asBoo_e); rfl) | ((with_reducible apply asStr_e); rfl) | ((with_reducible apply asSl_e); rfl) | ((with_reducible apply asPtr_e); rfl) | ((with_reducible apply asMap_e); rfl) | ((with_reducible apply nn_e); rfl) | ((with_reducible apply ld_h 0); (first | assumption | (apply Holds.drew; assumption)); rfl; rfl) | ((with_reducible apply ld_h 1); (first | assumption | (apply Holds.drew; assumption)); rfl; rfl) | ((with_reducible apply ld_h 2); (first | assumption | (apply Holds.drew; assumption)); rfl; rfl) | ((with_reducible apply ld_h 3); (first | assumption | (apply Holds.drew; assumption)); rfl; rfl) | ((with_reducible apply ld_h 4); (first | assumption | (apply Holds.drew; assumption)); rfl; rfl) | ((with_reducible apply ld_h 5); (first | assumption | (apply Holds.drew; assumption)); rfl; rfl) | ((with_reducible apply ld_h 6); (first | assumption | (apply Holds.drew; assumption)); rfl; rfl) | ((with_reducible apply ldS_h 0); rfl; rfl) | ((with_reducible apply ldS_h 1); rfl; rfl) | ((with_reducible apply ldS_h 2); rfl; rfl) | ((with_reducible apply ldS_h 3); rfl; rfl) | ((with_reducible apply ldS_h 4); rfl; rfl) | ((with_reducible apply ldS_h 5); rfl; rfl) | ((with_reducible apply ldS_h 6); rfl; rfl) | ((with_reducible apply nw_h); (first | assumption | (apply Holds.drew; assumption)); intro _ _ _) | ((with_reducible apply st_h 0); (first | assumption | (apply Holds.drew; assumption)); rfl; rfl; rfl; intro _ _) | ((with_reducible apply st_h 1); (first | assumption | (apply Holds.drew; assumption)); rfl; rfl; rfl; intro _ _) | ((with_reducible apply st_h 2); (first | assumption | (apply Holds.drew; assumption)); rfl; rfl; rfl; intro _ _) | ((with_reducible apply st_h 3); (first | assumption | (apply Holds.drew; assumption)); rfl; rfl; rfl; intro _ _) | ((with_reducible apply st_h 4); (first | assumption | (apply Holds.drew; assumption)); rfl; rfl; rfl; intro _ _) | ((with_reducible apply st_h 5); (first | assumption | (apply Holds.drew; assumption)); rfl; rfl; rfl; intro _ _) | ((with_reducible apply st_h 6); (first | assumption | (apply Holds.drew; assumption)); rfl; rfl; rfl; intro _ _) | ((with_reducible apply kp_s); (first | assumption | (apply Holds.drew; assumption)); (focus ((repeat first | exact Sub.refl _ | (refine Sub.cons 0 rfl ?_) | (refine Sub.cons 1 rfl ?_) | (refine Sub.cons 2 rfl ?_) | (refine Sub.cons 3 rfl ?_) | (refine Sub.cons 4 rfl ?_) | (refine Sub.cons 5 rfl ?_) | (refine Sub.cons 6 rfl ?_) | (refine Sub.cons 7 rfl ?_) | refine Sub.skip ?_ | exact Sub.nil _); done))))
    rw [← e0]
    refine k ⟨J.j, J.room, r', J.lines ++ [lineE s id l], J.sure, J.down⟩ _ (by simp [e0]) (fun h => absurd e0 h) ⟨?_, ok.room⟩ (Holds.close2 i ?_ hi)
    · show r'.Ok 1 ((J.lines ++ [lineE s id l]).map St)
      rw [List.map_append]
      exact hr2
    · (first | assumption | (apply Holds.drew; assumption) | (refine Sub.holds ?_ (by assumption); (repeat first | exact Sub.refl _ | (refine Sub.cons 0 rfl ?_) | (refine Sub.cons 1 rfl ?_) | (refine Sub.cons 2 rfl ?_) | (refine Sub.cons 3 rfl ?_) | (refine Sub.cons 4 rfl ?_) | (refine Sub.cons 5 rfl ?_) | (refine Sub.cons 6 rfl ?_) | (refine Sub.cons 7 rfl ?_) | refine Sub.skip ?_ | exact Sub.nil _)) | (refine Sub.holds ?_ (Holds.drew (by assumption)); (repeat first | exact Sub.refl _ | (refine Sub.cons 0 rfl ?_) | (refine Sub.cons 1 rfl ?_) | (refine Sub.cons 2 rfl ?_) | (refine Sub.cons 3 rfl ?_) | (refine Sub.cons 4 rfl ?_) | (refine Sub.cons 5 rfl ?_) | (refine Sub.cons 6 rfl ?_) | (refine Sub.cons 7 rfl ?_) | refine Sub.skip ?_ | exact Sub.nil _)))
  · rw [if_neg hm]
    refine asT_e [.string ⟨#[]⟩, I 1] rfl rfl ?_
    (repeat first|(with_reducible first|refine ldA (by assumption) ?_|refine Stp.imp ?_|refine stA (by assumption) rfl fun _ _=>?_|refine nw_h (by assumption) fun _ _ _=>?_|refine ldSA ?_|refine asT_e [] rfl rfl ?_|refine ldD (by assumption) ?_|refine nwD (by assumption) fun _ _ _=>?_|refine kpA (by first|assumption|(apply Holds.drew; assumption)) ?_)|((with_reducible first|apply asI_e|apply asStr_e|apply asSl_e|apply asBoo_e|apply asPtr_e); rfl))
    refine br_t (by rfl) ?_
    exact stay _ 1 (by unfold addB; rw [if_neg (by simp [hd]), if_neg hm]) (by decide) (Holds.shut2 i (Holds.tail (by assumption)) hi)
end Go.Proofs.YtcfmnoimehcfnaaGreatDoor
