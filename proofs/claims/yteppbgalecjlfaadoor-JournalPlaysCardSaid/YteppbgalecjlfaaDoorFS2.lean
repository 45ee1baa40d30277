/- The shallow readings of some functions of the program (printed by a program of ours out of the model's own evaluation) and, for each, the proof that it is one. Conditions: none. -/
import Derived.Test.YteppbgalecjlfaaDoorCSm
set_option maxRecDepth 100000
set_option linter.unusedVariables false
namespace Go.Proofs.YteppbgalecjlfaaDoor
open Go Go.Sh
def F8 (a0 : Option Addr) (n0 : Nat) (c0 : Nat) (x1 : Int) (x2 : Int) (K : KV) (w : World) : Prop :=
  gocall Tryd.prog (19) [(Value.slice a0 (n0) (c0))] (fun v5 w6 =>
  asBoo (v5) (fun b7 w8 =>
  br (!b7) (fun w9 =>
  gocall Tryd.prog (14) [] (fun v10 w11 =>
  asBoo (v10) (fun b12 w13 =>
  K (Value.bool (b12)) (w13)) (w11)) (w9)) (fun w14 =>
  gocall Tryd.prog (9) [(Value.int IntKind.i64 (4096))] (fun v15 w16 =>
  asPtr (v15) (fun p17 w18 =>
  loop (X := (Int) × (Int) × ((Option Addr) × (Nat) × Nat) × Unit) (0, (0, ((none, 0, 0), ()))) (fun x19 rec20 w21 =>
  br (decide (x19.fst < (↑n0 : Int))) (fun w22 =>
  slAt (a0) (n0) (x19.fst) (6) (fun a23 w24 =>
  ld (a23) (fun v25 w26 =>
  asI (IntKind.i64) (v25) (fun n27 w28 =>
  ld (⟨a23.block, a23.off + 1, none⟩) (fun v29 w30 =>
  asI (IntKind.i64) (v29) (fun n31 w32 =>
  ld (⟨a23.block, a23.off + 2, none⟩) (fun v33 w34 =>
  asI (IntKind.i64) (v33) (fun n35 w36 =>
  ld (⟨a23.block, a23.off + 3, none⟩) (fun v37 w38 =>
  asStr (v37) (fun s39 w40 =>
  ld (⟨a23.block, a23.off + 4, none⟩) (fun v41 w42 =>
  asI (IntKind.i64) (v41) (fun n43 w44 =>
  ld (⟨a23.block, a23.off + 5, none⟩) (fun v45 w46 =>
  asSl (v45) (fun p47 k48 k49 w50 =>
  nw (Obj.cells #[(Value.int IntKind.i64 (0)), (Value.int IntKind.i64 (0)), (Value.int IntKind.i64 (0)), (Value.string ({ data := #[] })), (Value.int IntKind.i64 (0)), (Value.slice none (0) (0))] 46 (0, 0)) (fun k51 w52 =>
  st (⟨k51, 0, none⟩) (Value.int IntKind.i64 (n27)) (fun w53 =>
  st (⟨k51, 1, none⟩) (Value.int IntKind.i64 (n31)) (fun w54 =>
  st (⟨k51, 2, none⟩) (Value.int IntKind.i64 (n35)) (fun w55 =>
  st (⟨k51, 3, none⟩) (Value.string (s39)) (fun w56 =>
  st (⟨k51, 4, none⟩) (Value.int IntKind.i64 (n43)) (fun w57 =>
  st (⟨k51, 5, none⟩) (Value.slice p47 (k48) (k49)) (fun w58 =>
  ld (⟨k51, 0, none⟩) (fun v59 w60 =>
  asI (IntKind.i64) (v59) (fun n61 w62 =>
  br (n61 == 0) (fun w63 =>
  ld (⟨k51, 3, none⟩) (fun v64 w65 =>
  asStr (v64) (fun s66 w67 =>
  ld (⟨k51, 4, none⟩) (fun v68 w69 =>
  asI (IntKind.i64) (v68) (fun n70 w71 =>
  ld (⟨k51, 5, none⟩) (fun v72 w73 =>
  asSl (v72) (fun p74 k75 k76 w77 =>
  gocall Tryd.prog (10) [(Value.pointer p17), (Value.agg #[(Value.string (s66)), (Value.int IntKind.i64 (n70)), (Value.slice p74 (k75) (k76))])] (fun v78 w79 =>
  asI (IntKind.i64) (v78) (fun n80 w81 =>
  br (n80 == 0) (fun w82 =>
  ld (⟨k51, 3, none⟩) (fun v83 w84 =>
  asStr (v83) (fun s85 w86 =>
  ld (⟨k51, 4, none⟩) (fun v87 w88 =>
  asI (IntKind.i64) (v87) (fun n89 w90 =>
  ld (⟨k51, 5, none⟩) (fun v91 w92 =>
  asSl (v91) (fun p93 k94 k95 w96 =>
  nw (Obj.cells #[(Value.string (s85)), (Value.int IntKind.i64 (n89)), (Value.slice p93 (k94) (k95))] 29 (0, 0)) (fun k97 w98 =>
  bapp (Md.full) Tryd.prog (#[37, 37]) (37) (Value.slice x19.snd.snd.fst.1 (x19.snd.snd.fst.snd.fst) (x19.snd.snd.fst.snd.snd)) (Value.slice (some ⟨k97, 0, none⟩) (1) (1)) (fun v99 w100 =>
  asSl (v99) (fun p101 k102 k103 w104 =>
  rec20 (IntKind.i64.wrap (x19.fst + 1), (x19.snd.fst, ((p101, k102, k103), ()))) (w104)) (w100)) (w98)) (w96)) (w92)) (w90)) (w88)) (w86)) (w84)) (w82)) (fun w105 =>
  rec20 (IntKind.i64.wrap (x19.fst + 1), (x19.snd.fst, ((x19.snd.snd.fst.1, x19.snd.snd.fst.snd.fst, x19.snd.snd.fst.snd.snd), ()))) (w105)) (w81)) (w79)) (w77)) (w73)) (w71)) (w69)) (w67)) (w65)) (w63)) (fun w106 =>
  br (n61 == 1) (fun w107 =>
  gocall Tryd.prog (15) [(Value.pointer p17)] (fun v108 w109 =>
  asI (IntKind.i64) (v108) (fun n110 w111 =>
  rec20 (IntKind.i64.wrap (x19.fst + 1), ((↑x19.snd.snd.fst.snd.fst : Int), ((x19.snd.snd.fst.1, x19.snd.snd.fst.snd.fst, x19.snd.snd.fst.snd.snd), ()))) (w111)) (w109)) (w107)) (fun w112 =>
  rec20 (IntKind.i64.wrap (x19.fst + 1), (x19.snd.fst, ((x19.snd.snd.fst.1, x19.snd.snd.fst.snd.fst, x19.snd.snd.fst.snd.snd), ()))) (w112)) (w106)) (w62)) (w60)) (w58)) (w57)) (w56)) (w55)) (w54)) (w53)) (w52)) (w50)) (w46)) (w44)) (w42)) (w40)) (w38)) (w36)) (w34)) (w32)) (w30)) (w28)) (w26)) (w24)) (w22)) (fun w113 =>
  gocall Tryd.prog (12) [(Value.pointer p17), (Value.int IntKind.i64 (x1)), (Value.int IntKind.i64 (x2))] (fun v114 w115 =>
  asT (0) (v114) (fun f116 w117 =>
  gocall Tryd.prog (10) [(Value.pointer p17), (Value.agg #[(Value.string ({ data := #[120] })), (Value.int IntKind.i64 (0)), (Value.slice none (0) (0))])] (fun v118 w119 =>
  asI (IntKind.i64) (v118) (fun n120 w121 =>
  br (n120 != 10) (fun w122 =>
  K (Value.bool (false)) (w122)) (fun w123 =>
  gocall Tryd.prog (15) [(Value.pointer p17)] (fun v124 w125 =>
  asI (IntKind.i64) (v124) (fun n126 w127 =>
  br (n126 != 10) (fun w128 =>
  K (Value.bool (false)) (w128)) (fun w129 =>
  gocall Tryd.prog (27) [(Value.pointer p17)] (fun v130 w131 =>
  asBoo (v130) (fun b132 w133 =>
  br (!b132) (fun w134 =>
  K (Value.bool (false)) (w134)) (fun w135 =>
  gocall Tryd.prog (13) [(Value.pointer p17)] (fun v136 w137 =>
  asI (IntKind.i64) (v136) (fun n138 w139 =>
  gocall Tryd.prog (17) [(Value.pointer p17), (Value.int IntKind.i64 (5000))] (fun v140 w141 =>
  asSl (v140) (fun p142 k143 k144 w145 =>
  br (decide ((↑k143 : Int) < x19.snd.fst)) (fun w146 =>
  K (Value.bool (false)) (w146)) (fun w147 =>
  br (decide ((↑k143 : Int) > (↑x19.snd.snd.fst.snd.fst : Int))) (fun w148 =>
  K (Value.bool (false)) (w148)) (fun w149 =>
  slSl (x19.snd.snd.fst.1) (x19.snd.snd.fst.snd.snd) (0) ((↑k143 : Int)) (3) (fun p150 k151 k152 w153 =>
  gocall Tryd.prog (18) [(Value.slice p142 (k143) (k144)), (Value.slice p150 (k151) (k152))] (fun v154 w155 =>
  asBoo (v154) (fun b156 w157 =>
  br (!b156) (fun w158 =>
  K (Value.bool (false)) (w158)) (fun w159 =>
  gocall Tryd.prog (16) [(Value.pointer p17)] (fun v160 w161 =>
  asI (IntKind.i64) (v160) (fun n162 w163 =>
  br (n162 != (↑k143 : Int)) (fun w164 =>
  K (Value.bool (false)) (w164)) (fun w165 =>
  gocall Tryd.prog (27) [(Value.pointer p17)] (fun v166 w167 =>
  asBoo (v166) (fun b168 w169 =>
  br (b168) (fun w170 =>
  K (Value.bool (false)) (w170)) (fun w171 =>
  br ((↑k143 : Int) == IntKind.i64.wrap (x19.snd.fst + if (if IntKind.i64.wrap ((↑x19.snd.snd.fst.snd.fst : Int) - x19.snd.fst) < x1 then IntKind.i64.wrap ((↑x19.snd.snd.fst.snd.fst : Int) - x19.snd.fst) else x1) > 0 then if IntKind.i64.wrap ((↑x19.snd.snd.fst.snd.fst : Int) - x19.snd.fst) < x1 then IntKind.i64.wrap ((↑x19.snd.snd.fst.snd.fst : Int) - x19.snd.fst) else x1 else 0)) (fun w172 =>
  gocall Tryd.prog (14) [] (fun v173 w174 =>
  asBoo (v173) (fun b175 w176 =>
  K (Value.bool (b175)) (w176)) (w174)) (w172)) (fun w177 =>
  K (Value.bool (false)) (w177)) (w171)) (w169)) (w167)) (w165)) (w163)) (w161)) (w159)) (w157)) (w155)) (w153)) (w149)) (w147)) (w145)) (w141)) (w139)) (w137)) (w135)) (w133)) (w131)) (w129)) (w127)) (w125)) (w123)) (w121)) (w119)) (w117)) (w115)) (w113)) (w21)) (w18)) (w16)) (w14)) (w8)) (w6)) (w)
theorem F8_eq (a0 : Option Addr) (n0 : Nat) (c0 : Nat) (x1 : Int) (x2 : Int) : sBody Tryd.prog [] Tryd.f8 [(Value.slice a0 n0 c0), (Value.int IntKind.i64 x1), (Value.int IntKind.i64 x2)] = F8 a0 n0 c0 x1 x2 := by kernel_rfl
theorem F8_go (a0 : Option Addr) (n0 : Nat) (c0 : Nat) (x1 : Int) (x2 : Int) {K : KV} {w : World} (h : F8 a0 n0 c0 x1 x2 K w) : gocall Tryd.prog 8 [(Value.slice a0 n0 c0), (Value.int IntKind.i64 x1), (Value.int IntKind.i64 x2)] K w :=
  ⟨by kernel_rfl, calls_of_sBody (T := []) mixed Tryd.func8 (by kernel_rfl) (by rw [F8_eq]; exact h)⟩
def F19 (a0 : Option Addr) (n0 : Nat) (c0 : Nat) (K : KV) (w : World) : Prop :=
  loop (X := (Int) × (Bool) × Unit) (0, (false, ())) (fun x3 rec4 w5 =>
  br (decide (x3.fst < (↑n0 : Int))) (fun w6 =>
  slAt (a0) (n0) (x3.fst) (6) (fun a7 w8 =>
  ld (a7) (fun v9 w10 =>
  asI (IntKind.i64) (v9) (fun n11 w12 =>
  ld (⟨a7.block, a7.off + 1, none⟩) (fun v13 w14 =>
  asI (IntKind.i64) (v13) (fun n15 w16 =>
  ld (⟨a7.block, a7.off + 2, none⟩) (fun v17 w18 =>
  asI (IntKind.i64) (v17) (fun n19 w20 =>
  ld (⟨a7.block, a7.off + 3, none⟩) (fun v21 w22 =>
  asStr (v21) (fun s23 w24 =>
  ld (⟨a7.block, a7.off + 4, none⟩) (fun v25 w26 =>
  asI (IntKind.i64) (v25) (fun n27 w28 =>
  ld (⟨a7.block, a7.off + 5, none⟩) (fun v29 w30 =>
  asSl (v29) (fun p31 k32 k33 w34 =>
  nw (Obj.cells #[(Value.int IntKind.i64 (0)), (Value.int IntKind.i64 (0)), (Value.int IntKind.i64 (0)), (Value.string ({ data := #[] })), (Value.int IntKind.i64 (0)), (Value.slice none (0) (0))] 46 (0, 0)) (fun k35 w36 =>
  st (⟨k35, 0, none⟩) (Value.int IntKind.i64 (n11)) (fun w37 =>
  st (⟨k35, 1, none⟩) (Value.int IntKind.i64 (n15)) (fun w38 =>
  st (⟨k35, 2, none⟩) (Value.int IntKind.i64 (n19)) (fun w39 =>
  st (⟨k35, 3, none⟩) (Value.string (s23)) (fun w40 =>
  st (⟨k35, 4, none⟩) (Value.int IntKind.i64 (n27)) (fun w41 =>
  st (⟨k35, 5, none⟩) (Value.slice p31 (k32) (k33)) (fun w42 =>
  br (decide (x3.fst ≥ 100)) (fun w43 =>
  K (Value.bool (false)) (w43)) (fun w44 =>
  ld (⟨k35, 3, none⟩) (fun v45 w46 =>
  asStr (v45) (fun s47 w48 =>
  br (decide ((↑s47.size : Int) > 50)) (fun w49 =>
  K (Value.bool (false)) (w49)) (fun w50 =>
  ld (⟨k35, 5, none⟩) (fun v51 w52 =>
  asSl (v51) (fun p53 k54 k55 w56 =>
  br (decide ((↑k54 : Int) > 20)) (fun w57 =>
  K (Value.bool (false)) (w57)) (fun w58 =>
  rec4 (IntKind.i64.wrap (x3.fst + 1), (x3.snd.fst, ())) (w58)) (w56)) (w52)) (w50)) (w48)) (w46)) (w44)) (w42)) (w41)) (w40)) (w39)) (w38)) (w37)) (w36)) (w34)) (w30)) (w28)) (w26)) (w24)) (w22)) (w20)) (w18)) (w16)) (w14)) (w12)) (w10)) (w8)) (w6)) (fun w59 =>
  K (Value.bool (true)) (w59)) (w5)) (w)
theorem F19_eq (a0 : Option Addr) (n0 : Nat) (c0 : Nat) : sBody Tryd.prog [] Tryd.f19 [(Value.slice a0 n0 c0)] = F19 a0 n0 c0 := by kernel_rfl
theorem F19_go (a0 : Option Addr) (n0 : Nat) (c0 : Nat) {K : KV} {w : World} (h : F19 a0 n0 c0 K w) : gocall Tryd.prog 19 [(Value.slice a0 n0 c0)] K w :=
  ⟨by kernel_rfl, calls_of_sBody (T := []) mixed Tryd.func19 (by kernel_rfl) (by rw [F19_eq]; exact h)⟩
end Go.Proofs.YteppbgalecjlfaaDoor
