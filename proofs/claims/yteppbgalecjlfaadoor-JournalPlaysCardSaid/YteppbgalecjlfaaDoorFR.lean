/- The shallow readings of some functions of the program (printed by a program of ours out of the model's own evaluation) and, for each, the proof that it is one. Conditions: none. -/
import Derived.Test.YteppbgalecjlfaaDoorC17
set_option maxRecDepth 100000
set_option linter.unusedVariables false
namespace Go.Proofs.YteppbgalecjlfaaDoor
open Go Go.Sh
def F53 (s0 : ByteArray) (K : KV) (w : World) : Prop :=
  loop (X := (Int) × (Int) × (Int) × Unit) (0, (1, (0, ()))) (fun x1 rec2 w3 =>
  br (decide (x1.fst < (↑s0.size : Int))) (fun w4 =>
  strAt (s0) (x1.fst) (fun x5 w6 =>
  divW (673) (fun w7 =>
  divW (673) (fun w8 =>
  rec2 (IntKind.i64.wrap (x1.fst + 1), ((IntKind.i64.wrap (x1.snd.fst * 3)).tmod 673, ((IntKind.i64.wrap (x1.snd.snd.fst + IntKind.i64.wrap (IntKind.i64.wrap (↑x5.toNat : Int) * x1.snd.fst))).tmod 673, ()))) (w8)) (w7)) (w6)) (w4)) (fun w9 =>
  divW (26) (fun w10 =>
  divW (26) (fun w11 =>
  nw (Obj.cells #[(Value.int IntKind.u8 (IntKind.u8.wrap (IntKind.i64.wrap (97 + IntKind.i64.wrap (Int.tdiv x1.snd.snd.fst 26))))), (Value.int IntKind.u8 (IntKind.u8.wrap (IntKind.i64.wrap (97 + Int.tmod x1.snd.snd.fst 26))))] 5 (0, 0)) (fun k12 w13 =>
  cnv (Md.full) Tryd.prog (86) (9) (Value.slice (some ⟨k12, 0, none⟩) (2) (2)) (fun v14 w15 =>
  asStr (v14) (fun s16 w17 =>
  K (Value.string (s16)) (w17)) (w15)) (w13)) (w11)) (w10)) (w9)) (w3)) (w)
theorem F53_eq (s0 : ByteArray) : sBody Tryd.prog [] Tryd.f53 [(Value.string s0)] = F53 s0 := by kernel_rfl
theorem F53_go (s0 : ByteArray) {K : KV} {w : World} (h : F53 s0 K w) : gocall Tryd.prog 53 [(Value.string s0)] K w :=
  ⟨by kernel_rfl, calls_of_sBody (T := []) mixed Tryd.func53 (by kernel_rfl) (by rw [F53_eq]; exact h)⟩
def F42 (s0 : ByteArray) (K : KV) (w : World) : Prop :=
  strCat (s0) ({ data := #[124] }) (fun s1 w2 =>
  gocall Tryd.prog (53) [(Value.string (s0))] (fun v3 w4 =>
  asStr (v3) (fun s5 w6 =>
  strCat (s1) (s5) (fun s7 w8 =>
  K (Value.string (s7)) (w8)) (w6)) (w4)) (w2)) (w)
theorem F42_eq (s0 : ByteArray) : sBody Tryd.prog [] Tryd.f42 [(Value.string s0)] = F42 s0 := by kernel_rfl
theorem F42_go (s0 : ByteArray) {K : KV} {w : World} (h : F42 s0 K w) : gocall Tryd.prog 42 [(Value.string s0)] K w :=
  ⟨by kernel_rfl, calls_of_sBody (T := []) mixed Tryd.func42 (by kernel_rfl) (by rw [F42_eq]; exact h)⟩
def F43 (s0 : ByteArray) (K : KV) (w : World) : Prop :=
  br (decide (IntKind.i64.wrap ((↑s0.size : Int) - 3) < 0)) (fun w1 =>
  K (Value.tuple #[(Value.string ({ data := #[] })), (Value.bool (false))]) (w1)) (fun w2 =>
  strSl (s0) (0) (IntKind.i64.wrap ((↑s0.size : Int) - 3)) (fun s3 w4 =>
  gocall Tryd.prog (42) [(Value.string (s3))] (fun v5 w6 =>
  asStr (v5) (fun s7 w8 =>
  br (!strEq s7 s0) (fun w9 =>
  K (Value.tuple #[(Value.string ({ data := #[] })), (Value.bool (false))]) (w9)) (fun w10 =>
  strSl (s0) (0) (IntKind.i64.wrap ((↑s0.size : Int) - 3)) (fun s11 w12 =>
  K (Value.tuple #[(Value.string (s11)), (Value.bool (true))]) (w12)) (w10)) (w8)) (w6)) (w4)) (w2)) (w)
theorem F43_eq (s0 : ByteArray) : sBody Tryd.prog [] Tryd.f43 [(Value.string s0)] = F43 s0 := by kernel_rfl
theorem F43_go (s0 : ByteArray) {K : KV} {w : World} (h : F43 s0 K w) : gocall Tryd.prog 43 [(Value.string s0)] K w :=
  ⟨by kernel_rfl, calls_of_sBody (T := []) mixed Tryd.func43 (by kernel_rfl) (by rw [F43_eq]; exact h)⟩
def F44 (s0 : ByteArray) (x1 : Int) (K : KV) (w : World) : Prop :=
  loop (X := (Int) × (Int) × ((Option Addr) × (Nat) × Nat) × Unit) (0, (0, ((none, 0, 0), ()))) (fun x2 rec3 w4 =>
  br (decide (x2.fst ≤ (↑s0.size : Int))) (fun w5 =>
  br (x2.fst == (↑s0.size : Int)) (fun w6 =>
  strSl (s0) (x2.snd.fst) (x2.fst) (fun s7 w8 =>
  nw (Obj.cells #[(Value.string (s7))] 9 (0, 0)) (fun k9 w10 =>
  bapp (Md.full) Tryd.prog (#[30, 30]) (30) (Value.slice x2.snd.snd.fst.1 (x2.snd.snd.fst.snd.fst) (x2.snd.snd.fst.snd.snd)) (Value.slice (some ⟨k9, 0, none⟩) (1) (1)) (fun v11 w12 =>
  asSl (v11) (fun p13 k14 k15 w16 =>
  rec3 (IntKind.i64.wrap (x2.fst + 1), (IntKind.i64.wrap (x2.fst + 1), ((p13, k14, k15), ()))) (w16)) (w12)) (w10)) (w8)) (w6)) (fun w17 =>
  strAt (s0) (x2.fst) (fun x18 w19 =>
  br ((↑x18.toNat : Int) == x1) (fun w20 =>
  strSl (s0) (x2.snd.fst) (x2.fst) (fun s21 w22 =>
  nw (Obj.cells #[(Value.string (s21))] 9 (0, 0)) (fun k23 w24 =>
  bapp (Md.full) Tryd.prog (#[30, 30]) (30) (Value.slice x2.snd.snd.fst.1 (x2.snd.snd.fst.snd.fst) (x2.snd.snd.fst.snd.snd)) (Value.slice (some ⟨k23, 0, none⟩) (1) (1)) (fun v25 w26 =>
  asSl (v25) (fun p27 k28 k29 w30 =>
  rec3 (IntKind.i64.wrap (x2.fst + 1), (IntKind.i64.wrap (x2.fst + 1), ((p27, k28, k29), ()))) (w30)) (w26)) (w24)) (w22)) (w20)) (fun w31 =>
  rec3 (IntKind.i64.wrap (x2.fst + 1), (x2.snd.fst, ((x2.snd.snd.fst.1, x2.snd.snd.fst.snd.fst, x2.snd.snd.fst.snd.snd), ()))) (w31)) (w19)) (w17)) (w5)) (fun w32 =>
  K (Value.slice x2.snd.snd.fst.1 (x2.snd.snd.fst.snd.fst) (x2.snd.snd.fst.snd.snd)) (w32)) (w4)) (w)
theorem F44_eq (s0 : ByteArray) (x1 : Int) : sBody Tryd.prog [] Tryd.f44 [(Value.string s0), (Value.int IntKind.u8 x1)] = F44 s0 x1 := by kernel_rfl
theorem F44_go (s0 : ByteArray) (x1 : Int) {K : KV} {w : World} (h : F44 s0 x1 K w) : gocall Tryd.prog 44 [(Value.string s0), (Value.int IntKind.u8 x1)] K w :=
  ⟨by kernel_rfl, calls_of_sBody (T := []) mixed Tryd.func44 (by kernel_rfl) (by rw [F44_eq]; exact h)⟩
def F45 (s0 : ByteArray) (K : KV) (w : World) : Prop :=
  br (decide ((↑s0.size : Int) > 0)) (fun w1 =>
  strAt (s0) (0) (fun x2 w3 =>
  br ((↑x2.toNat : Int) == 45) (fun w4 =>
  strSl (s0) (1) ((↑s0.size : Int)) (fun s5 w6 =>
  loop (X := (Int) × (Int) × (Bool) × (Int) × Unit) (0, (0, (false, (0, ())))) (fun x7 rec8 w9 =>
  br (decide (x7.fst < (↑s5.size : Int))) (fun w10 =>
  strAt (s5) (x7.fst) (fun x11 w12 =>
  br (decide ((↑x11.toNat : Int) < 48)) (fun w13 =>
  K (Value.tuple #[(Value.int IntKind.i64 (0)), (Value.bool (false))]) (w13)) (fun w14 =>
  strAt (s5) (x7.fst) (fun x15 w16 =>
  br (decide ((↑x15.toNat : Int) > 57)) (fun w17 =>
  K (Value.tuple #[(Value.int IntKind.i64 (0)), (Value.bool (false))]) (w17)) (fun w18 =>
  br (decide (x7.snd.fst > 1099511627776)) (fun w19 =>
  K (Value.tuple #[(Value.int IntKind.i64 (0)), (Value.bool (false))]) (w19)) (fun w20 =>
  strAt (s5) (x7.fst) (fun x21 w22 =>
  rec8 (IntKind.i64.wrap (x7.fst + 1), (IntKind.i64.wrap (IntKind.i64.wrap (10 * x7.snd.fst) + IntKind.i64.wrap (IntKind.u8.wrap ((↑x21.toNat : Int) - 48))), (x7.snd.snd.fst, (x7.snd.snd.snd.fst, ())))) (w22)) (w20)) (w18)) (w16)) (w14)) (w12)) (w10)) (fun w23 =>
  br (!strEq s5 { data := #[] }) (fun w24 =>
  gocall Tryd.prog (36) [(Value.int IntKind.i64 (IntKind.i64.wrap (x7.snd.fst * -1)))] (fun v25 w26 =>
  asStr (v25) (fun s27 w28 =>
  K (Value.tuple #[(Value.int IntKind.i64 (IntKind.i64.wrap (x7.snd.fst * -1))), (Value.bool (strEq s27 s0))]) (w28)) (w26)) (w24)) (fun w29 =>
  K (Value.tuple #[(Value.int IntKind.i64 (IntKind.i64.wrap (x7.snd.fst * -1))), (Value.bool (false))]) (w29)) (w23)) (w9)) (w6)) (w4)) (fun w30 =>
  loop (X := (Int) × (Int) × (Bool) × (Int) × Unit) (0, (0, (false, (0, ())))) (fun x31 rec32 w33 =>
  br (decide (x31.fst < (↑s0.size : Int))) (fun w34 =>
  strAt (s0) (x31.fst) (fun x35 w36 =>
  br (decide ((↑x35.toNat : Int) < 48)) (fun w37 =>
  K (Value.tuple #[(Value.int IntKind.i64 (0)), (Value.bool (false))]) (w37)) (fun w38 =>
  strAt (s0) (x31.fst) (fun x39 w40 =>
  br (decide ((↑x39.toNat : Int) > 57)) (fun w41 =>
  K (Value.tuple #[(Value.int IntKind.i64 (0)), (Value.bool (false))]) (w41)) (fun w42 =>
  br (decide (x31.snd.fst > 1099511627776)) (fun w43 =>
  K (Value.tuple #[(Value.int IntKind.i64 (0)), (Value.bool (false))]) (w43)) (fun w44 =>
  strAt (s0) (x31.fst) (fun x45 w46 =>
  rec32 (IntKind.i64.wrap (x31.fst + 1), (IntKind.i64.wrap (IntKind.i64.wrap (10 * x31.snd.fst) + IntKind.i64.wrap (IntKind.u8.wrap ((↑x45.toNat : Int) - 48))), (x31.snd.snd.fst, (x31.snd.snd.snd.fst, ())))) (w46)) (w44)) (w42)) (w40)) (w38)) (w36)) (w34)) (fun w47 =>
  br (!strEq s0 { data := #[] }) (fun w48 =>
  gocall Tryd.prog (36) [(Value.int IntKind.i64 (IntKind.i64.wrap (x31.snd.fst * 1)))] (fun v49 w50 =>
  asStr (v49) (fun s51 w52 =>
  K (Value.tuple #[(Value.int IntKind.i64 (IntKind.i64.wrap (x31.snd.fst * 1))), (Value.bool (strEq s51 s0))]) (w52)) (w50)) (w48)) (fun w53 =>
  K (Value.tuple #[(Value.int IntKind.i64 (IntKind.i64.wrap (x31.snd.fst * 1))), (Value.bool (false))]) (w53)) (w47)) (w33)) (w30)) (w3)) (w1)) (fun w54 =>
  loop (X := (Int) × (Int) × (Bool) × (Int) × Unit) (0, (0, (false, (0, ())))) (fun x55 rec56 w57 =>
  br (decide (x55.fst < (↑s0.size : Int))) (fun w58 =>
  strAt (s0) (x55.fst) (fun x59 w60 =>
  br (decide ((↑x59.toNat : Int) < 48)) (fun w61 =>
  K (Value.tuple #[(Value.int IntKind.i64 (0)), (Value.bool (false))]) (w61)) (fun w62 =>
  strAt (s0) (x55.fst) (fun x63 w64 =>
  br (decide ((↑x63.toNat : Int) > 57)) (fun w65 =>
  K (Value.tuple #[(Value.int IntKind.i64 (0)), (Value.bool (false))]) (w65)) (fun w66 =>
  br (decide (x55.snd.fst > 1099511627776)) (fun w67 =>
  K (Value.tuple #[(Value.int IntKind.i64 (0)), (Value.bool (false))]) (w67)) (fun w68 =>
  strAt (s0) (x55.fst) (fun x69 w70 =>
  rec56 (IntKind.i64.wrap (x55.fst + 1), (IntKind.i64.wrap (IntKind.i64.wrap (10 * x55.snd.fst) + IntKind.i64.wrap (IntKind.u8.wrap ((↑x69.toNat : Int) - 48))), (x55.snd.snd.fst, (x55.snd.snd.snd.fst, ())))) (w70)) (w68)) (w66)) (w64)) (w62)) (w60)) (w58)) (fun w71 =>
  br (!strEq s0 { data := #[] }) (fun w72 =>
  gocall Tryd.prog (36) [(Value.int IntKind.i64 (IntKind.i64.wrap (x55.snd.fst * 1)))] (fun v73 w74 =>
  asStr (v73) (fun s75 w76 =>
  K (Value.tuple #[(Value.int IntKind.i64 (IntKind.i64.wrap (x55.snd.fst * 1))), (Value.bool (strEq s75 s0))]) (w76)) (w74)) (w72)) (fun w77 =>
  K (Value.tuple #[(Value.int IntKind.i64 (IntKind.i64.wrap (x55.snd.fst * 1))), (Value.bool (false))]) (w77)) (w71)) (w57)) (w54)) (w)
theorem F45_eq (s0 : ByteArray) : sBody Tryd.prog [] Tryd.f45 [(Value.string s0)] = F45 s0 := by kernel_rfl
theorem F45_go (s0 : ByteArray) {K : KV} {w : World} (h : F45 s0 K w) : gocall Tryd.prog 45 [(Value.string s0)] K w :=
  ⟨by kernel_rfl, calls_of_sBody (T := []) mixed Tryd.func45 (by kernel_rfl) (by rw [F45_eq]; exact h)⟩
def F41 (s0 : ByteArray) (x1 : Int) (a2 : Option Addr) (n2 : Nat) (c2 : Nat) (K : KV) (w : World) : Prop :=
  nw (Obj.cells #[(Value.string (s0)), (Value.int IntKind.i64 (x1)), (Value.slice a2 (n2) (c2))] 29 (0, 0)) (fun k5 w6 =>
  ld (⟨k5, 0, none⟩) (fun v7 w8 =>
  asStr (v7) (fun s9 w10 =>
  br (decide ((↑s9.size : Int) < 1)) (fun w11 =>
  K (Value.bool (false)) (w11)) (fun w12 =>
  ld (⟨k5, 0, none⟩) (fun v13 w14 =>
  asStr (v13) (fun s15 w16 =>
  br (decide ((↑s15.size : Int) > 8)) (fun w17 =>
  K (Value.bool (false)) (w17)) (fun w18 =>
  ld (⟨k5, 1, none⟩) (fun v19 w20 =>
  asI (IntKind.i64) (v19) (fun n21 w22 =>
  br (decide (n21 < 0)) (fun w23 =>
  K (Value.bool (false)) (w23)) (fun w24 =>
  ld (⟨k5, 1, none⟩) (fun v25 w26 =>
  asI (IntKind.i64) (v25) (fun n27 w28 =>
  br (decide (n27 > 999)) (fun w29 =>
  K (Value.bool (false)) (w29)) (fun w30 =>
  ld (⟨k5, 2, none⟩) (fun v31 w32 =>
  asSl (v31) (fun p33 k34 k35 w36 =>
  br (decide ((↑k34 : Int) > 4)) (fun w37 =>
  K (Value.bool (false)) (w37)) (fun w38 =>
  ld (⟨k5, 0, none⟩) (fun v39 w40 =>
  asStr (v39) (fun s41 w42 =>
  loop (X := (Int) × (Bool) × Unit) (0, (false, ())) (fun x43 rec44 w45 =>
  br (decide (x43.fst < (↑s41.size : Int))) (fun w46 =>
  ld (⟨k5, 0, none⟩) (fun v47 w48 =>
  asStr (v47) (fun s49 w50 =>
  strAt (s49) (x43.fst) (fun x51 w52 =>
  br (decide ((↑x51.toNat : Int) < 97)) (fun w53 =>
  K (Value.bool (false)) (w53)) (fun w54 =>
  ld (⟨k5, 0, none⟩) (fun v55 w56 =>
  asStr (v55) (fun s57 w58 =>
  strAt (s57) (x43.fst) (fun x59 w60 =>
  br (decide ((↑x59.toNat : Int) > 122)) (fun w61 =>
  K (Value.bool (false)) (w61)) (fun w62 =>
  rec44 (IntKind.i64.wrap (x43.fst + 1), (x43.snd.fst, ())) (w62)) (w60)) (w58)) (w56)) (w54)) (w52)) (w50)) (w48)) (w46)) (fun w63 =>
  ld (⟨k5, 2, none⟩) (fun v64 w65 =>
  asSl (v64) (fun p66 k67 k68 w69 =>
  loop (X := (Int) × (Bool) × Unit) (0, (x43.snd.fst, ())) (fun x70 rec71 w72 =>
  br (decide (x70.fst < (↑k67 : Int))) (fun w73 =>
  slAt (p66) (k67) (x70.fst) (1) (fun a74 w75 =>
  ld (a74) (fun v76 w77 =>
  asI (IntKind.i64) (v76) (fun n78 w79 =>
  br (decide (n78 < -1000000000)) (fun w80 =>
  K (Value.bool (false)) (w80)) (fun w81 =>
  br (decide (n78 > 1000000000)) (fun w82 =>
  K (Value.bool (false)) (w82)) (fun w83 =>
  rec71 (IntKind.i64.wrap (x70.fst + 1), (x70.snd.fst, ())) (w83)) (w81)) (w79)) (w77)) (w75)) (w73)) (fun w84 =>
  K (Value.bool (true)) (w84)) (w72)) (w69)) (w65)) (w63)) (w45)) (w42)) (w40)) (w38)) (w36)) (w32)) (w30)) (w28)) (w26)) (w24)) (w22)) (w20)) (w18)) (w16)) (w14)) (w12)) (w10)) (w8)) (w6)) (w)
theorem F41_eq (s0 : ByteArray) (x1 : Int) (a2 : Option Addr) (n2 : Nat) (c2 : Nat) : sBody Tryd.prog [] Tryd.f41 [(Value.agg #[(Value.string s0), (Value.int IntKind.i64 x1), (Value.slice a2 n2 c2)])] = F41 s0 x1 a2 n2 c2 := by kernel_rfl
theorem F41_go (s0 : ByteArray) (x1 : Int) (a2 : Option Addr) (n2 : Nat) (c2 : Nat) {K : KV} {w : World} (h : F41 s0 x1 a2 n2 c2 K w) : gocall Tryd.prog 41 [(Value.agg #[(Value.string s0), (Value.int IntKind.i64 x1), (Value.slice a2 n2 c2)])] K w :=
  ⟨by kernel_rfl, calls_of_sBody (T := []) mixed Tryd.func41 (by kernel_rfl) (by rw [F41_eq]; exact h)⟩
def F33 (s0 : ByteArray) (x1 : Int) (a2 : Option Addr) (n2 : Nat) (c2 : Nat) (K : KV) (w : World) : Prop :=
  nw (Obj.cells #[(Value.string (s0)), (Value.int IntKind.i64 (x1)), (Value.slice a2 (n2) (c2))] 29 (0, 0)) (fun k5 w6 =>
  ld (⟨k5, 0, none⟩) (fun v7 w8 =>
  asStr (v7) (fun s9 w10 =>
  ld (⟨k5, 1, none⟩) (fun v11 w12 =>
  asI (IntKind.i64) (v11) (fun n13 w14 =>
  ld (⟨k5, 2, none⟩) (fun v15 w16 =>
  asSl (v15) (fun p17 k18 k19 w20 =>
  gocall Tryd.prog (41) [(Value.agg #[(Value.string (s9)), (Value.int IntKind.i64 (n13)), (Value.slice p17 (k18) (k19))])] (fun v21 w22 =>
  asBoo (v21) (fun b23 w24 =>
  br (!b23) (fun w25 =>
  K (Value.tuple #[(Value.string ({ data := #[] })), (Value.int IntKind.i64 (1))]) (w25)) (fun w26 =>
  keeps (fun S27 w28 =>
  ldS (S27) (⟨k5, 0, none⟩) (fun v29 w30 =>
  asStr (v29) (fun s31 w32 =>
  strCat (s31) ({ data := #[32] }) (fun s33 w34 =>
  ldS (S27) (⟨k5, 1, none⟩) (fun v35 w36 =>
  asI (IntKind.i64) (v35) (fun n37 w38 =>
  gocall Tryd.prog (36) [(Value.int IntKind.i64 (n37))] (fun v39 w40 =>
  asStr (v39) (fun s41 w42 =>
  kp (S27) (fun w43 =>
  strCat (s33) (s41) (fun s44 w45 =>
  ld (⟨k5, 2, none⟩) (fun v46 w47 =>
  asSl (v46) (fun p48 k49 k50 w51 =>
  loop (X := (Int) × (ByteArray) × Unit) (0, (s44, ())) (fun x52 rec53 w54 =>
  br (decide (x52.fst < (↑k49 : Int))) (fun w55 =>
  slAt (p48) (k49) (x52.fst) (1) (fun a56 w57 =>
  ld (a56) (fun v58 w59 =>
  asI (IntKind.i64) (v58) (fun n60 w61 =>
  gocall Tryd.prog (36) [(Value.int IntKind.i64 (n60))] (fun v62 w63 =>
  asStr (v62) (fun s64 w65 =>
  strCat ({ data := #[32] }) (s64) (fun s66 w67 =>
  strCat (x52.snd.fst) (s66) (fun s68 w69 =>
  rec53 (IntKind.i64.wrap (x52.fst + 1), (s68, ())) (w69)) (w67)) (w65)) (w63)) (w61)) (w59)) (w57)) (w55)) (fun w70 =>
  gocall Tryd.prog (42) [(Value.string (x52.snd.fst))] (fun v71 w72 =>
  asStr (v71) (fun s73 w74 =>
  K (Value.tuple #[(Value.string (s73)), (Value.int IntKind.i64 (0))]) (w74)) (w72)) (w70)) (w54)) (w51)) (w47)) (w45)) (w43)) (w42)) (w40)) (w38)) (w36)) (w34)) (w32)) (w30)) (w28)) (w26.drew)) (w24)) (w22)) (w20)) (w16)) (w14)) (w12)) (w10)) (w8)) (w6)) (w)
theorem F33_eq (s0 : ByteArray) (x1 : Int) (a2 : Option Addr) (n2 : Nat) (c2 : Nat) : sBody Tryd.prog [(3, [0, 1, 2, 3, 4, 5, 6, 7])] Tryd.f33 [(Value.agg #[(Value.string s0), (Value.int IntKind.i64 x1), (Value.slice a2 n2 c2)])] = F33 s0 x1 a2 n2 c2 := by kernel_rfl
theorem F33_go (s0 : ByteArray) (x1 : Int) (a2 : Option Addr) (n2 : Nat) (c2 : Nat) {K : KV} {w : World} (h : F33 s0 x1 a2 n2 c2 K w) : gocall Tryd.prog 33 [(Value.agg #[(Value.string s0), (Value.int IntKind.i64 x1), (Value.slice a2 n2 c2)])] K w :=
  ⟨by kernel_rfl, calls_of_sBody (T := [(3, [0, 1, 2, 3, 4, 5, 6, 7])]) mixed Tryd.func33 (by kernel_rfl) (by rw [F33_eq]; exact h)⟩
def F34 (s0 : ByteArray) (K : KV) (w : World) : Prop :=
  nw (Obj.cells #[(Value.string ({ data := #[] })), (Value.int IntKind.i64 (0)), (Value.slice none (0) (0))] 29 (0, 0)) (fun k1 w2 =>
  nw (Obj.cells #[(Value.string ({ data := #[] })), (Value.int IntKind.i64 (0)), (Value.slice none (0) (0))] 29 (0, 0)) (fun k3 w4 =>
  st (⟨k3, 0, none⟩) (Value.string ({ data := #[] })) (fun w5 =>
  st (⟨k3, 1, none⟩) (Value.int IntKind.i64 (0)) (fun w6 =>
  st (⟨k3, 2, none⟩) (Value.slice none (0) (0)) (fun w7 =>
  br (decide ((↑s0.size : Int) > 80)) (fun w8 =>
  ld (⟨k3, 0, none⟩) (fun v9 w10 =>
  asStr (v9) (fun s11 w12 =>
  ld (⟨k3, 1, none⟩) (fun v13 w14 =>
  asI (IntKind.i64) (v13) (fun n15 w16 =>
  ld (⟨k3, 2, none⟩) (fun v17 w18 =>
  asSl (v17) (fun p19 k20 k21 w22 =>
  st (⟨k1, 0, none⟩) (Value.string (s11)) (fun w23 =>
  st (⟨k1, 1, none⟩) (Value.int IntKind.i64 (n15)) (fun w24 =>
  st (⟨k1, 2, none⟩) (Value.slice p19 (k20) (k21)) (fun w25 =>
  ld (⟨k1, 0, none⟩) (fun v26 w27 =>
  asStr (v26) (fun s28 w29 =>
  ld (⟨k1, 1, none⟩) (fun v30 w31 =>
  asI (IntKind.i64) (v30) (fun n32 w33 =>
  ld (⟨k1, 2, none⟩) (fun v34 w35 =>
  asSl (v34) (fun p36 k37 k38 w39 =>
  K (Value.tuple #[(Value.agg #[(Value.string (s28)), (Value.int IntKind.i64 (n32)), (Value.slice p36 (k37) (k38))]), (Value.int IntKind.i64 (2))]) (w39)) (w35)) (w33)) (w31)) (w29)) (w27)) (w25)) (w24)) (w23)) (w22)) (w18)) (w16)) (w14)) (w12)) (w10)) (w8)) (fun w40 =>
  gocall Tryd.prog (43) [(Value.string (s0))] (fun v41 w42 =>
  asT (2) (v41) (fun f43 w44 =>
  asStr (f43 0) (fun s45 w46 =>
  asBoo (f43 1) (fun b47 w48 =>
  br (!b47) (fun w49 =>
  ld (⟨k3, 0, none⟩) (fun v50 w51 =>
  asStr (v50) (fun s52 w53 =>
  ld (⟨k3, 1, none⟩) (fun v54 w55 =>
  asI (IntKind.i64) (v54) (fun n56 w57 =>
  ld (⟨k3, 2, none⟩) (fun v58 w59 =>
  asSl (v58) (fun p60 k61 k62 w63 =>
  st (⟨k1, 0, none⟩) (Value.string (s52)) (fun w64 =>
  st (⟨k1, 1, none⟩) (Value.int IntKind.i64 (n56)) (fun w65 =>
  st (⟨k1, 2, none⟩) (Value.slice p60 (k61) (k62)) (fun w66 =>
  ld (⟨k1, 0, none⟩) (fun v67 w68 =>
  asStr (v67) (fun s69 w70 =>
  ld (⟨k1, 1, none⟩) (fun v71 w72 =>
  asI (IntKind.i64) (v71) (fun n73 w74 =>
  ld (⟨k1, 2, none⟩) (fun v75 w76 =>
  asSl (v75) (fun p77 k78 k79 w80 =>
  K (Value.tuple #[(Value.agg #[(Value.string (s69)), (Value.int IntKind.i64 (n73)), (Value.slice p77 (k78) (k79))]), (Value.int IntKind.i64 (3))]) (w80)) (w76)) (w74)) (w72)) (w70)) (w68)) (w66)) (w65)) (w64)) (w63)) (w59)) (w57)) (w55)) (w53)) (w51)) (w49)) (fun w81 =>
  gocall Tryd.prog (44) [(Value.string (s45)), (Value.int IntKind.u8 (32))] (fun v82 w83 =>
  asSl (v82) (fun p84 k85 k86 w87 =>
  br (decide ((↑k85 : Int) < 2)) (fun w88 =>
  ld (⟨k3, 0, none⟩) (fun v89 w90 =>
  asStr (v89) (fun s91 w92 =>
  ld (⟨k3, 1, none⟩) (fun v93 w94 =>
  asI (IntKind.i64) (v93) (fun n95 w96 =>
  ld (⟨k3, 2, none⟩) (fun v97 w98 =>
  asSl (v97) (fun p99 k100 k101 w102 =>
  st (⟨k1, 0, none⟩) (Value.string (s91)) (fun w103 =>
  st (⟨k1, 1, none⟩) (Value.int IntKind.i64 (n95)) (fun w104 =>
  st (⟨k1, 2, none⟩) (Value.slice p99 (k100) (k101)) (fun w105 =>
  ld (⟨k1, 0, none⟩) (fun v106 w107 =>
  asStr (v106) (fun s108 w109 =>
  ld (⟨k1, 1, none⟩) (fun v110 w111 =>
  asI (IntKind.i64) (v110) (fun n112 w113 =>
  ld (⟨k1, 2, none⟩) (fun v114 w115 =>
  asSl (v114) (fun p116 k117 k118 w119 =>
  K (Value.tuple #[(Value.agg #[(Value.string (s108)), (Value.int IntKind.i64 (n112)), (Value.slice p116 (k117) (k118))]), (Value.int IntKind.i64 (2))]) (w119)) (w115)) (w113)) (w111)) (w109)) (w107)) (w105)) (w104)) (w103)) (w102)) (w98)) (w96)) (w94)) (w92)) (w90)) (w88)) (fun w120 =>
  br (decide ((↑k85 : Int) > 6)) (fun w121 =>
  ld (⟨k3, 0, none⟩) (fun v122 w123 =>
  asStr (v122) (fun s124 w125 =>
  ld (⟨k3, 1, none⟩) (fun v126 w127 =>
  asI (IntKind.i64) (v126) (fun n128 w129 =>
  ld (⟨k3, 2, none⟩) (fun v130 w131 =>
  asSl (v130) (fun p132 k133 k134 w135 =>
  st (⟨k1, 0, none⟩) (Value.string (s124)) (fun w136 =>
  st (⟨k1, 1, none⟩) (Value.int IntKind.i64 (n128)) (fun w137 =>
  st (⟨k1, 2, none⟩) (Value.slice p132 (k133) (k134)) (fun w138 =>
  ld (⟨k1, 0, none⟩) (fun v139 w140 =>
  asStr (v139) (fun s141 w142 =>
  ld (⟨k1, 1, none⟩) (fun v143 w144 =>
  asI (IntKind.i64) (v143) (fun n145 w146 =>
  ld (⟨k1, 2, none⟩) (fun v147 w148 =>
  asSl (v147) (fun p149 k150 k151 w152 =>
  K (Value.tuple #[(Value.agg #[(Value.string (s141)), (Value.int IntKind.i64 (n145)), (Value.slice p149 (k150) (k151))]), (Value.int IntKind.i64 (2))]) (w152)) (w148)) (w146)) (w144)) (w142)) (w140)) (w138)) (w137)) (w136)) (w135)) (w131)) (w129)) (w127)) (w125)) (w123)) (w121)) (fun w153 =>
  slAt (p84) (k85) (0) (1) (fun a154 w155 =>
  ld (a154) (fun v156 w157 =>
  asStr (v156) (fun s158 w159 =>
  nw (Obj.cells #[(Value.string ({ data := #[] })), (Value.int IntKind.i64 (0)), (Value.slice none (0) (0))] 29 (0, 0)) (fun k160 w161 =>
  st (⟨k160, 0, none⟩) (Value.string (s158)) (fun w162 =>
  st (⟨k160, 1, none⟩) (Value.int IntKind.i64 (0)) (fun w163 =>
  st (⟨k160, 2, none⟩) (Value.slice none (0) (0)) (fun w164 =>
  slSl (p84) (k86) (1) ((↑k85 : Int)) (1) (fun p165 k166 k167 w168 =>
  loop (X := (Int) × (Int) × Unit) (0, (0, ())) (fun x169 rec170 w171 =>
  br (decide (x169.fst < (↑k166 : Int))) (fun w172 =>
  slAt (p165) (k166) (x169.fst) (1) (fun a173 w174 =>
  ld (a173) (fun v175 w176 =>
  asStr (v175) (fun s177 w178 =>
  gocall Tryd.prog (45) [(Value.string (s177))] (fun v179 w180 =>
  asT (2) (v179) (fun f181 w182 =>
  asI (IntKind.i64) (f181 0) (fun n183 w184 =>
  asBoo (f181 1) (fun b185 w186 =>
  br (!b185) (fun w187 =>
  ld (⟨k3, 0, none⟩) (fun v188 w189 =>
  asStr (v188) (fun s190 w191 =>
  ld (⟨k3, 1, none⟩) (fun v192 w193 =>
  asI (IntKind.i64) (v192) (fun n194 w195 =>
  ld (⟨k3, 2, none⟩) (fun v196 w197 =>
  asSl (v196) (fun p198 k199 k200 w201 =>
  st (⟨k1, 0, none⟩) (Value.string (s190)) (fun w202 =>
  st (⟨k1, 1, none⟩) (Value.int IntKind.i64 (n194)) (fun w203 =>
  st (⟨k1, 2, none⟩) (Value.slice p198 (k199) (k200)) (fun w204 =>
  ld (⟨k1, 0, none⟩) (fun v205 w206 =>
  asStr (v205) (fun s207 w208 =>
  ld (⟨k1, 1, none⟩) (fun v209 w210 =>
  asI (IntKind.i64) (v209) (fun n211 w212 =>
  ld (⟨k1, 2, none⟩) (fun v213 w214 =>
  asSl (v213) (fun p215 k216 k217 w218 =>
  K (Value.tuple #[(Value.agg #[(Value.string (s207)), (Value.int IntKind.i64 (n211)), (Value.slice p215 (k216) (k217))]), (Value.int IntKind.i64 (2))]) (w218)) (w214)) (w212)) (w210)) (w208)) (w206)) (w204)) (w203)) (w202)) (w201)) (w197)) (w195)) (w193)) (w191)) (w189)) (w187)) (fun w219 =>
  br (x169.fst == 0) (fun w220 =>
  st (⟨k160, 1, none⟩) (Value.int IntKind.i64 (n183)) (fun w221 =>
  rec170 (IntKind.i64.wrap (x169.fst + 1), (x169.snd.fst, ())) (w221)) (w220)) (fun w222 =>
  ld (⟨k160, 2, none⟩) (fun v223 w224 =>
  asSl (v223) (fun p225 k226 k227 w228 =>
  nw (Obj.cells #[(Value.int IntKind.i64 (n183))] 3 (0, 0)) (fun k229 w230 =>
  bapp (Md.full) Tryd.prog (#[27, 27]) (27) (Value.slice p225 (k226) (k227)) (Value.slice (some ⟨k229, 0, none⟩) (1) (1)) (fun v231 w232 =>
  asSl (v231) (fun p233 k234 k235 w236 =>
  st (⟨k160, 2, none⟩) (Value.slice p233 (k234) (k235)) (fun w237 =>
  rec170 (IntKind.i64.wrap (x169.fst + 1), (x169.snd.fst, ())) (w237)) (w236)) (w232)) (w230)) (w228)) (w224)) (w222)) (w219)) (w186)) (w184)) (w182)) (w180)) (w178)) (w176)) (w174)) (w172)) (fun w238 =>
  ld (⟨k160, 0, none⟩) (fun v239 w240 =>
  asStr (v239) (fun s241 w242 =>
  ld (⟨k160, 1, none⟩) (fun v243 w244 =>
  asI (IntKind.i64) (v243) (fun n245 w246 =>
  ld (⟨k160, 2, none⟩) (fun v247 w248 =>
  asSl (v247) (fun p249 k250 k251 w252 =>
  gocall Tryd.prog (41) [(Value.agg #[(Value.string (s241)), (Value.int IntKind.i64 (n245)), (Value.slice p249 (k250) (k251))])] (fun v253 w254 =>
  asBoo (v253) (fun b255 w256 =>
  br (!b255) (fun w257 =>
  ld (⟨k3, 0, none⟩) (fun v258 w259 =>
  asStr (v258) (fun s260 w261 =>
  ld (⟨k3, 1, none⟩) (fun v262 w263 =>
  asI (IntKind.i64) (v262) (fun n264 w265 =>
  ld (⟨k3, 2, none⟩) (fun v266 w267 =>
  asSl (v266) (fun p268 k269 k270 w271 =>
  st (⟨k1, 0, none⟩) (Value.string (s260)) (fun w272 =>
  st (⟨k1, 1, none⟩) (Value.int IntKind.i64 (n264)) (fun w273 =>
  st (⟨k1, 2, none⟩) (Value.slice p268 (k269) (k270)) (fun w274 =>
  ld (⟨k1, 0, none⟩) (fun v275 w276 =>
  asStr (v275) (fun s277 w278 =>
  ld (⟨k1, 1, none⟩) (fun v279 w280 =>
  asI (IntKind.i64) (v279) (fun n281 w282 =>
  ld (⟨k1, 2, none⟩) (fun v283 w284 =>
  asSl (v283) (fun p285 k286 k287 w288 =>
  K (Value.tuple #[(Value.agg #[(Value.string (s277)), (Value.int IntKind.i64 (n281)), (Value.slice p285 (k286) (k287))]), (Value.int IntKind.i64 (2))]) (w288)) (w284)) (w282)) (w280)) (w278)) (w276)) (w274)) (w273)) (w272)) (w271)) (w267)) (w265)) (w263)) (w261)) (w259)) (w257)) (fun w289 =>
  ld (⟨k160, 0, none⟩) (fun v290 w291 =>
  asStr (v290) (fun s292 w293 =>
  ld (⟨k160, 1, none⟩) (fun v294 w295 =>
  asI (IntKind.i64) (v294) (fun n296 w297 =>
  ld (⟨k160, 2, none⟩) (fun v298 w299 =>
  asSl (v298) (fun p300 k301 k302 w303 =>
  st (⟨k1, 0, none⟩) (Value.string (s292)) (fun w304 =>
  st (⟨k1, 1, none⟩) (Value.int IntKind.i64 (n296)) (fun w305 =>
  st (⟨k1, 2, none⟩) (Value.slice p300 (k301) (k302)) (fun w306 =>
  ld (⟨k1, 0, none⟩) (fun v307 w308 =>
  asStr (v307) (fun s309 w310 =>
  ld (⟨k1, 1, none⟩) (fun v311 w312 =>
  asI (IntKind.i64) (v311) (fun n313 w314 =>
  ld (⟨k1, 2, none⟩) (fun v315 w316 =>
  asSl (v315) (fun p317 k318 k319 w320 =>
  K (Value.tuple #[(Value.agg #[(Value.string (s309)), (Value.int IntKind.i64 (n313)), (Value.slice p317 (k318) (k319))]), (Value.int IntKind.i64 (0))]) (w320)) (w316)) (w314)) (w312)) (w310)) (w308)) (w306)) (w305)) (w304)) (w303)) (w299)) (w297)) (w295)) (w293)) (w291)) (w289)) (w256)) (w254)) (w252)) (w248)) (w246)) (w244)) (w242)) (w240)) (w238)) (w171)) (w168)) (w164)) (w163)) (w162)) (w161)) (w159)) (w157)) (w155)) (w153)) (w120)) (w87)) (w83)) (w81)) (w48)) (w46)) (w44)) (w42)) (w40)) (w7)) (w6)) (w5)) (w4)) (w2)) (w)
theorem F34_eq (s0 : ByteArray) : sBody Tryd.prog [] Tryd.f34 [(Value.string s0)] = F34 s0 := by kernel_rfl
theorem F34_go (s0 : ByteArray) {K : KV} {w : World} (h : F34 s0 K w) : gocall Tryd.prog 34 [(Value.string s0)] K w :=
  ⟨by kernel_rfl, calls_of_sBody (T := []) mixed Tryd.func34 (by kernel_rfl) (by rw [F34_eq]; exact h)⟩
end Go.Proofs.YteppbgalecjlfaaDoor
