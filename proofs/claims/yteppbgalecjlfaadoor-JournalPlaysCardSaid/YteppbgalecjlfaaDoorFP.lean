/- The shallow readings of some functions of the program (printed by a program of ours out of the model's own evaluation) and, for each, the proof that it is one. Conditions: none. -/
import Derived.Test.YteppbgalecjlfaaDoorC19
set_option maxRecDepth 100000
set_option linter.unusedVariables false
namespace Go.Proofs.YteppbgalecjlfaaDoor
open Go Go.Sh
def F26 (a0 : Option Addr) (n0 : Nat) (c0 : Nat) (a1 : Option Addr) (n1 : Nat) (c1 : Nat) (K : KV) (w : World) : Prop :=
  br ((↑n0 : Int) != (↑n1 : Int)) (fun w6 =>
  K (Value.bool (false)) (w6)) (fun w7 =>
  loop (X := (Int) × (Bool) × Unit) (0, (false, ())) (fun x8 rec9 w10 =>
  br (decide (x8.fst < (↑n0 : Int))) (fun w11 =>
  slAt (a0) (n0) (x8.fst) (1) (fun a12 w13 =>
  ld (a12) (fun v14 w15 =>
  asStr (v14) (fun s16 w17 =>
  slAt (a1) (n1) (x8.fst) (1) (fun a18 w19 =>
  ld (a18) (fun v20 w21 =>
  asStr (v20) (fun s22 w23 =>
  br (!strEq s16 s22) (fun w24 =>
  K (Value.bool (false)) (w24)) (fun w25 =>
  rec9 (IntKind.i64.wrap (x8.fst + 1), (x8.snd.fst, ())) (w25)) (w23)) (w21)) (w19)) (w17)) (w15)) (w13)) (w11.drew)) (fun w26 =>
  K (Value.bool (true)) (w26)) (w10)) (w7)) (w)
theorem F26_eq (a0 : Option Addr) (n0 : Nat) (c0 : Nat) (a1 : Option Addr) (n1 : Nat) (c1 : Nat) : sBody Tryd.prog [] Tryd.f26 [(Value.slice a0 n0 c0), (Value.slice a1 n1 c1)] = F26 a0 n0 c0 a1 n1 c1 := by kernel_rfl
theorem F26_go (a0 : Option Addr) (n0 : Nat) (c0 : Nat) (a1 : Option Addr) (n1 : Nat) (c1 : Nat) {K : KV} {w : World} (h : F26 a0 n0 c0 a1 n1 c1 K w) : gocall Tryd.prog 26 [(Value.slice a0 n0 c0), (Value.slice a1 n1 c1)] K w :=
  ⟨by kernel_rfl, calls_of_sBody (T := []) mixed Tryd.func26 (by kernel_rfl) (by rw [F26_eq]; exact h)⟩
def F20 (x0 : Int) (K : KV) (w : World) : Prop :=
  nw (Obj.cells #[(Value.int IntKind.i64 (if (if 4096 < x0 then 4096 else x0) > 1 then if 4096 < x0 then 4096 else x0 else 1)), (Value.slice none (0) (0)), (Value.int IntKind.i64 (0)), (Value.bool (false))] 50 (0, 0)) (fun k1 w2 =>
  K (Value.pointer (some ⟨k1, 0, none⟩)) (w2)) (w)
theorem F20_eq (x0 : Int) : sBody Tryd.prog [] Tryd.f20 [(Value.int IntKind.i64 x0)] = F20 x0 := by kernel_rfl
theorem F20_go (x0 : Int) {K : KV} {w : World} (h : F20 x0 K w) : gocall Tryd.prog 20 [(Value.int IntKind.i64 x0)] K w :=
  ⟨by kernel_rfl, calls_of_sBody (T := []) mixed Tryd.func20 (by kernel_rfl) (by rw [F20_eq]; exact h)⟩
def F21 (p0 : Option Addr) (s1 : ByteArray) (x2 : Int) (a3 : Option Addr) (n3 : Nat) (c3 : Nat) (K : KV) (w : World) : Prop :=
  nw (Obj.cells #[(Value.string (s1)), (Value.int IntKind.i64 (x2)), (Value.slice a3 (n3) (c3))] 29 (0, 0)) (fun k6 w7 =>
  nn (p0) (fun a8 w9 =>
  ld (⟨a8.block, a8.off + 3, none⟩) (fun v10 w11 =>
  asBoo (v10) (fun b12 w13 =>
  br (b12) (fun w14 =>
  K (Value.int IntKind.i64 (10)) (w14)) (fun w15 =>
  ld (⟨k6, 0, none⟩) (fun v16 w17 =>
  asStr (v16) (fun s18 w19 =>
  ld (⟨k6, 1, none⟩) (fun v20 w21 =>
  asI (IntKind.i64) (v20) (fun n22 w23 =>
  ld (⟨k6, 2, none⟩) (fun v24 w25 =>
  asSl (v24) (fun p26 k27 k28 w29 =>
  gocall Tryd.prog (33) [(Value.agg #[(Value.string (s18)), (Value.int IntKind.i64 (n22)), (Value.slice p26 (k27) (k28))])] (fun v30 w31 =>
  asT (2) (v30) (fun f32 w33 =>
  asStr (f32 0) (fun s34 w35 =>
  asI (IntKind.i64) (f32 1) (fun n36 w37 =>
  br (n36 != 0) (fun w38 =>
  K (Value.int IntKind.i64 (n36)) (w38)) (fun w39 =>
  nn (p0) (fun a40 w41 =>
  ld (⟨a40.block, a40.off + 1, none⟩) (fun v42 w43 =>
  asSl (v42) (fun p44 k45 k46 w47 =>
  nn (p0) (fun a48 w49 =>
  ld (a48) (fun v50 w51 =>
  asI (IntKind.i64) (v50) (fun n52 w53 =>
  br (decide ((↑k45 : Int) ≥ n52)) (fun w54 =>
  K (Value.int IntKind.i64 (5)) (w54)) (fun w55 =>
  nn (p0) (fun a56 w57 =>
  ld (⟨a56.block, a56.off + 1, none⟩) (fun v58 w59 =>
  asSl (v58) (fun p60 k61 k62 w63 =>
  nw (Obj.cells #[(Value.string (s34))] 9 (0, 0)) (fun k64 w65 =>
  bapp (Md.full) Tryd.prog (#[30, 30]) (30) (Value.slice p60 (k61) (k62)) (Value.slice (some ⟨k64, 0, none⟩) (1) (1)) (fun v66 w67 =>
  asSl (v66) (fun p68 k69 k70 w71 =>
  nn (p0) (fun a72 w73 =>
  st (⟨a72.block, a72.off + 1, none⟩) (Value.slice p68 (k69) (k70)) (fun w74 =>
  K (Value.int IntKind.i64 (0)) (w74)) (w73)) (w71)) (w67)) (w65)) (w63)) (w59)) (w57)) (w55)) (w53)) (w51)) (w49)) (w47)) (w43)) (w41)) (w39.drew)) (w37)) (w35)) (w33)) (w31)) (w29)) (w25)) (w23)) (w21)) (w19)) (w17)) (w15)) (w13)) (w11)) (w9)) (w7)) (w)
theorem F21_eq (p0 : Option Addr) (s1 : ByteArray) (x2 : Int) (a3 : Option Addr) (n3 : Nat) (c3 : Nat) : sBody Tryd.prog [] Tryd.f21 [(Value.pointer p0), (Value.agg #[(Value.string s1), (Value.int IntKind.i64 x2), (Value.slice a3 n3 c3)])] = F21 p0 s1 x2 a3 n3 c3 := by kernel_rfl
theorem F21_go (p0 : Option Addr) (s1 : ByteArray) (x2 : Int) (a3 : Option Addr) (n3 : Nat) (c3 : Nat) {K : KV} {w : World} (h : F21 p0 s1 x2 a3 n3 c3 K w) : gocall Tryd.prog 21 [(Value.pointer p0), (Value.agg #[(Value.string s1), (Value.int IntKind.i64 x2), (Value.slice a3 n3 c3)])] K w :=
  ⟨by kernel_rfl, calls_of_sBody (T := []) mixed Tryd.func21 (by kernel_rfl) (by rw [F21_eq]; exact h)⟩
def F22 (p0 : Option Addr) (K : KV) (w : World) : Prop :=
  nn (p0) (fun a1 w2 =>
  ld (⟨a1.block, a1.off + 3, none⟩) (fun v3 w4 =>
  asBoo (v3) (fun b5 w6 =>
  br (b5) (fun w7 =>
  K (Value.int IntKind.i64 (10)) (w7)) (fun w8 =>
  nn (p0) (fun a9 w10 =>
  ld (⟨a9.block, a9.off + 1, none⟩) (fun v11 w12 =>
  asSl (v11) (fun p13 k14 k15 w16 =>
  nn (p0) (fun a17 w18 =>
  st (⟨a17.block, a17.off + 2, none⟩) (Value.int IntKind.i64 ((↑k14 : Int))) (fun w19 =>
  K (Value.int IntKind.i64 (0)) (w19)) (w18)) (w16)) (w12)) (w10)) (w8)) (w6)) (w4)) (w2)) (w)
theorem F22_eq (p0 : Option Addr) : sBody Tryd.prog [] Tryd.f22 [(Value.pointer p0)] = F22 p0 := by kernel_rfl
theorem F22_go (p0 : Option Addr) {K : KV} {w : World} (h : F22 p0 K w) : gocall Tryd.prog 22 [(Value.pointer p0)] K w :=
  ⟨by kernel_rfl, calls_of_sBody (T := []) mixed Tryd.func22 (by kernel_rfl) (by rw [F22_eq]; exact h)⟩
def F23 (p0 : Option Addr) (x1 : Int) (x2 : Int) (K : KV) (w : World) : Prop :=
  nn (p0) (fun a3 w4 =>
  ld (⟨a3.block, a3.off + 3, none⟩) (fun v5 w6 =>
  asBoo (v5) (fun b7 w8 =>
  br (b7) (fun w9 =>
  K (Value.tuple #[]) (w9)) (fun w10 =>
  nn (p0) (fun a11 w12 =>
  st (⟨a11.block, a11.off + 3, none⟩) (Value.bool (true)) (fun w13 =>
  nn (p0) (fun a14 w15 =>
  ld (⟨a14.block, a14.off + 2, none⟩) (fun v16 w17 =>
  asI (IntKind.i64) (v16) (fun n18 w19 =>
  nn (p0) (fun a20 w21 =>
  ld (⟨a20.block, a20.off + 1, none⟩) (fun v22 w23 =>
  asSl (v22) (fun p24 k25 k26 w27 =>
  nn (p0) (fun a28 w29 =>
  ld (⟨a28.block, a28.off + 2, none⟩) (fun v30 w31 =>
  asI (IntKind.i64) (v30) (fun n32 w33 =>
  nn (p0) (fun a34 w35 =>
  ld (⟨a34.block, a34.off + 1, none⟩) (fun v36 w37 =>
  asSl (v36) (fun p38 k39 k40 w41 =>
  slSl (p38) (k40) (0) (IntKind.i64.wrap (n18 + if (if IntKind.i64.wrap ((↑k25 : Int) - n32) < x1 then IntKind.i64.wrap ((↑k25 : Int) - n32) else x1) > 0 then if IntKind.i64.wrap ((↑k25 : Int) - n32) < x1 then IntKind.i64.wrap ((↑k25 : Int) - n32) else x1 else 0)) (1) (fun p42 k43 k44 w45 =>
  bapp (Md.full) Tryd.prog (#[30, 30]) (30) (Value.slice none (0) (0)) (Value.slice p42 (k43) (k44)) (fun v46 w47 =>
  asSl (v46) (fun p48 k49 k50 w51 =>
  nn (p0) (fun a52 w53 =>
  ld (⟨a52.block, a52.off + 1, none⟩) (fun v54 w55 =>
  asSl (v54) (fun p56 k57 k58 w59 =>
  br (decide (IntKind.i64.wrap (n18 + if (if IntKind.i64.wrap ((↑k25 : Int) - n32) < x1 then IntKind.i64.wrap ((↑k25 : Int) - n32) else x1) > 0 then if IntKind.i64.wrap ((↑k25 : Int) - n32) < x1 then IntKind.i64.wrap ((↑k25 : Int) - n32) else x1 else 0) < (↑k57 : Int))) (fun w60 =>
  br (decide (x2 > 0)) (fun w61 =>
  nn (p0) (fun a62 w63 =>
  ld (⟨a62.block, a62.off + 1, none⟩) (fun v64 w65 =>
  asSl (v64) (fun p66 k67 k68 w69 =>
  slAt (p66) (k67) (IntKind.i64.wrap (n18 + if (if IntKind.i64.wrap ((↑k25 : Int) - n32) < x1 then IntKind.i64.wrap ((↑k25 : Int) - n32) else x1) > 0 then if IntKind.i64.wrap ((↑k25 : Int) - n32) < x1 then IntKind.i64.wrap ((↑k25 : Int) - n32) else x1 else 0)) (1) (fun a70 w71 =>
  ld (a70) (fun v72 w73 =>
  asStr (v72) (fun s74 w75 =>
  strSl (s74) (0) (if IntKind.i64.wrap ((↑s74.size : Int) - 1) < x2 then IntKind.i64.wrap ((↑s74.size : Int) - 1) else x2) (fun s76 w77 =>
  nw (Obj.cells #[(Value.string (s76))] 9 (0, 0)) (fun k78 w79 =>
  bapp (Md.full) Tryd.prog (#[30, 30]) (30) (Value.slice p48 (k49) (k50)) (Value.slice (some ⟨k78, 0, none⟩) (1) (1)) (fun v80 w81 =>
  asSl (v80) (fun p82 k83 k84 w85 =>
  nn (p0) (fun a86 w87 =>
  st (⟨a86.block, a86.off + 1, none⟩) (Value.slice p82 (k83) (k84)) (fun w88 =>
  K (Value.tuple #[]) (w88)) (w87)) (w85)) (w81)) (w79)) (w77)) (w75)) (w73)) (w71)) (w69)) (w65)) (w63)) (w61)) (fun w89 =>
  nn (p0) (fun a90 w91 =>
  st (⟨a90.block, a90.off + 1, none⟩) (Value.slice p48 (k49) (k50)) (fun w92 =>
  K (Value.tuple #[]) (w92)) (w91)) (w89)) (w60)) (fun w93 =>
  nn (p0) (fun a94 w95 =>
  st (⟨a94.block, a94.off + 1, none⟩) (Value.slice p48 (k49) (k50)) (fun w96 =>
  K (Value.tuple #[]) (w96)) (w95)) (w93)) (w59)) (w55)) (w53)) (w51)) (w47)) (w45)) (w41)) (w37)) (w35)) (w33)) (w31)) (w29)) (w27)) (w23)) (w21)) (w19)) (w17)) (w15)) (w13.drew)) (w12)) (w10)) (w8)) (w6)) (w4)) (w)
theorem F23_eq (p0 : Option Addr) (x1 : Int) (x2 : Int) : sBody Tryd.prog [] Tryd.f23 [(Value.pointer p0), (Value.int IntKind.i64 x1), (Value.int IntKind.i64 x2)] = F23 p0 x1 x2 := by kernel_rfl
theorem F23_go (p0 : Option Addr) (x1 : Int) (x2 : Int) {K : KV} {w : World} (h : F23 p0 x1 x2 K w) : gocall Tryd.prog 23 [(Value.pointer p0), (Value.int IntKind.i64 x1), (Value.int IntKind.i64 x2)] K w :=
  ⟨by kernel_rfl, calls_of_sBody (T := []) mixed Tryd.func23 (by kernel_rfl) (by rw [F23_eq]; exact h)⟩
def F24 (p0 : Option Addr) (K : KV) (w : World) : Prop :=
  nn (p0) (fun a1 w2 =>
  ld (⟨a1.block, a1.off + 3, none⟩) (fun v3 w4 =>
  asBoo (v3) (fun b5 w6 =>
  br (!b5) (fun w7 =>
  K (Value.int IntKind.i64 (0)) (w7)) (fun w8 =>
  gocall Tryd.prog (25) [(Value.pointer p0)] (fun v9 w10 =>
  asSl (v9) (fun p11 k12 k13 w14 =>
  nn (p0) (fun a15 w16 =>
  ld (⟨a15.block, a15.off + 1, none⟩) (fun v17 w18 =>
  asSl (v17) (fun p19 k20 k21 w22 =>
  nn (p0) (fun a23 w24 =>
  ld (⟨a23.block, a23.off + 1, none⟩) (fun v25 w26 =>
  asSl (v25) (fun p27 k28 k29 w30 =>
  slSl (p27) (k29) (0) ((↑k12 : Int)) (1) (fun p31 k32 k33 w34 =>
  nn (p0) (fun a35 w36 =>
  st (⟨a35.block, a35.off + 1, none⟩) (Value.slice p31 (k32) (k33)) (fun w37 =>
  nn (p0) (fun a38 w39 =>
  st (⟨a38.block, a38.off + 2, none⟩) (Value.int IntKind.i64 ((↑k12 : Int))) (fun w40 =>
  nn (p0) (fun a41 w42 =>
  st (⟨a41.block, a41.off + 3, none⟩) (Value.bool (false)) (fun w43 =>
  K (Value.int IntKind.i64 (IntKind.i64.wrap ((↑k20 : Int) - (↑k12 : Int)))) (w43)) (w42)) (w40)) (w39)) (w37)) (w36)) (w34)) (w30)) (w26)) (w24)) (w22)) (w18)) (w16)) (w14)) (w10)) (w8)) (w6)) (w4)) (w2)) (w)
theorem F24_eq (p0 : Option Addr) : sBody Tryd.prog [] Tryd.f24 [(Value.pointer p0)] = F24 p0 := by kernel_rfl
theorem F24_go (p0 : Option Addr) {K : KV} {w : World} (h : F24 p0 K w) : gocall Tryd.prog 24 [(Value.pointer p0)] K w :=
  ⟨by kernel_rfl, calls_of_sBody (T := []) mixed Tryd.func24 (by kernel_rfl) (by rw [F24_eq]; exact h)⟩
def F25 (p0 : Option Addr) (K : KV) (w : World) : Prop :=
  nn (p0) (fun a1 w2 =>
  ld (⟨a1.block, a1.off + 1, none⟩) (fun v3 w4 =>
  asSl (v3) (fun p5 k6 k7 w8 =>
  loop (X := (Int) × ((Option Addr) × (Nat) × Nat) × ((Option Addr) × (Nat) × Nat) × Unit) (0, ((none, 0, 0), ((none, 0, 0), ()))) (fun x9 rec10 w11 =>
  br (decide (x9.fst < (↑k6 : Int))) (fun w12 =>
  slAt (p5) (k6) (x9.fst) (1) (fun a13 w14 =>
  ld (a13) (fun v15 w16 =>
  asStr (v15) (fun s17 w18 =>
  gocall Tryd.prog (34) [(Value.string (s17))] (fun v19 w20 =>
  asT (2) (v19) (fun f21 w22 =>
  asN (3) (f21 0) (fun f23 w24 =>
  asStr (f23 0) (fun s25 w26 =>
  asI (IntKind.i64) (f23 1) (fun n27 w28 =>
  asSl (f23 2) (fun p29 k30 k31 w32 =>
  asI (IntKind.i64) (f21 1) (fun n33 w34 =>
  nw (Obj.cells #[(Value.string ({ data := #[] })), (Value.int IntKind.i64 (0)), (Value.slice none (0) (0))] 29 (0, 0)) (fun k35 w36 =>
  st (⟨k35, 0, none⟩) (Value.string (s25)) (fun w37 =>
  st (⟨k35, 1, none⟩) (Value.int IntKind.i64 (n27)) (fun w38 =>
  st (⟨k35, 2, none⟩) (Value.slice p29 (k30) (k31)) (fun w39 =>
  br (n33 != 0) (fun w40 =>
  K (Value.slice x9.snd.fst.1 (x9.snd.fst.snd.fst) (x9.snd.fst.snd.snd)) (w40)) (fun w41 =>
  ld (⟨k35, 0, none⟩) (fun v42 w43 =>
  asStr (v42) (fun s44 w45 =>
  ld (⟨k35, 1, none⟩) (fun v46 w47 =>
  asI (IntKind.i64) (v46) (fun n48 w49 =>
  ld (⟨k35, 2, none⟩) (fun v50 w51 =>
  asSl (v50) (fun p52 k53 k54 w55 =>
  nw (Obj.cells #[(Value.string (s44)), (Value.int IntKind.i64 (n48)), (Value.slice p52 (k53) (k54))] 29 (0, 0)) (fun k56 w57 =>
  bapp (Md.full) Tryd.prog (#[37, 37]) (37) (Value.slice x9.snd.fst.1 (x9.snd.fst.snd.fst) (x9.snd.fst.snd.snd)) (Value.slice (some ⟨k56, 0, none⟩) (1) (1)) (fun v58 w59 =>
  asSl (v58) (fun p60 k61 k62 w63 =>
  rec10 (IntKind.i64.wrap (x9.fst + 1), ((p60, k61, k62), ((x9.snd.snd.fst.1, x9.snd.snd.fst.snd.fst, x9.snd.snd.fst.snd.snd), ()))) (w63)) (w59)) (w57)) (w55)) (w51)) (w49)) (w47)) (w45)) (w43)) (w41)) (w39)) (w38)) (w37)) (w36)) (w34)) (w32)) (w28)) (w26)) (w24)) (w22)) (w20)) (w18)) (w16)) (w14)) (w12)) (fun w64 =>
  K (Value.slice x9.snd.fst.1 (x9.snd.fst.snd.fst) (x9.snd.fst.snd.snd)) (w64)) (w11)) (w8)) (w4)) (w2)) (w)
theorem F25_eq (p0 : Option Addr) : sBody Tryd.prog [] Tryd.f25 [(Value.pointer p0)] = F25 p0 := by kernel_rfl
theorem F25_go (p0 : Option Addr) {K : KV} {w : World} (h : F25 p0 K w) : gocall Tryd.prog 25 [(Value.pointer p0)] K w :=
  ⟨by kernel_rfl, calls_of_sBody (T := []) mixed Tryd.func25 (by kernel_rfl) (by rw [F25_eq]; exact h)⟩
end Go.Proofs.YteppbgalecjlfaaDoor
