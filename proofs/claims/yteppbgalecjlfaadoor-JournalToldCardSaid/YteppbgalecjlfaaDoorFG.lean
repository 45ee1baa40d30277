/- The shallow readings of some functions of the program (printed by a program of ours out of the model's own evaluation) and, for each, the proof that it is one. Conditions: none. -/
import Derived.Test.YteppbgalecjlfaaDoorCAg
set_option maxRecDepth 100000
set_option linter.unusedVariables false
namespace Go.Proofs.YteppbgalecjlfaaDoor
open Go Go.Sh
def F5 (s0 : ByteArray) (x1 : Int) (a2 : Option Addr) (n2 : Nat) (c2 : Nat) (K : KV) (w : World) : Prop :=
  nw (Obj.cells #[(Value.string (s0)), (Value.int IntKind.i64 (x1)), (Value.slice a2 (n2) (c2))] 29 (0, 0)) (fun k5 w6 =>
  gocall Tryd.prog (9) [(Value.int IntKind.i64 (9))] (fun v7 w8 =>
  asPtr (v7) (fun p9 w10 =>
  ld (⟨k5, 2, none⟩) (fun v11 w12 =>
  asSl (v11) (fun p13 k14 k15 w16 =>
  br (decide ((↑k14 : Int) > 20)) (fun w17 =>
  gocall Tryd.prog (14) [] (fun v18 w19 =>
  asBoo (v18) (fun b20 w21 =>
  K (Value.bool (b20)) (w21)) (w19)) (w17)) (fun w22 =>
  ld (⟨k5, 0, none⟩) (fun v23 w24 =>
  asStr (v23) (fun s25 w26 =>
  br (decide ((↑s25.size : Int) > 50)) (fun w27 =>
  gocall Tryd.prog (14) [] (fun v28 w29 =>
  asBoo (v28) (fun b30 w31 =>
  K (Value.bool (b30)) (w31)) (w29)) (w27)) (fun w32 =>
  ld (⟨k5, 0, none⟩) (fun v33 w34 =>
  asStr (v33) (fun s35 w36 =>
  ld (⟨k5, 1, none⟩) (fun v37 w38 =>
  asI (IntKind.i64) (v37) (fun n39 w40 =>
  ld (⟨k5, 2, none⟩) (fun v41 w42 =>
  asSl (v41) (fun p43 k44 k45 w46 =>
  gocall Tryd.prog (10) [(Value.pointer p9), (Value.agg #[(Value.string (s35)), (Value.int IntKind.i64 (n39)), (Value.slice p43 (k44) (k45))])] (fun v47 w48 =>
  asI (IntKind.i64) (v47) (fun n49 w50 =>
  br (n49 != 0) (fun w51 =>
  gocall Tryd.prog (14) [] (fun v52 w53 =>
  asBoo (v52) (fun b54 w55 =>
  K (Value.bool (b54)) (w55)) (w53)) (w51)) (fun w56 =>
  gocall Tryd.prog (17) [(Value.pointer p9), (Value.int IntKind.i64 (3))] (fun v57 w58 =>
  asSl (v57) (fun p59 k60 k61 w62 =>
  br ((↑k60 : Int) != 1) (fun w63 =>
  K (Value.bool (false)) (w63)) (fun w64 =>
  slAt (p59) (k60) (0) (3) (fun a65 w66 =>
  ld (⟨a65.block, a65.off + 2, none⟩) (fun v67 w68 =>
  asSl (v67) (fun p69 k70 k71 w72 =>
  loop (X := (Int) × Unit) (0, ()) (fun x73 rec74 w75 =>
  br (decide (x73.fst < (↑k70 : Int))) (fun w76 =>
  slAt (p59) (k60) (0) (3) (fun a77 w78 =>
  ld (⟨a77.block, a77.off + 2, none⟩) (fun v79 w80 =>
  asSl (v79) (fun p81 k82 k83 w84 =>
  slAt (p81) (k82) (x73.fst) (1) (fun a85 w86 =>
  ld (a85) (fun v87 w88 =>
  asI (IntKind.i64) (v87) (fun n89 w90 =>
  slAt (p81) (k82) (x73.fst) (1) (fun a91 w92 =>
  st (a91) (Value.int IntKind.i64 (IntKind.i64.wrap (↑(BitVec.ofInt IntKind.i64.bits n89 ^^^ BitVec.ofInt IntKind.i64.bits 1).toNat : Int))) (fun w93 =>
  rec74 (IntKind.i64.wrap (x73.fst + 1), ()) (w93)) (w92)) (w90)) (w88)) (w86)) (w84)) (w80)) (w78)) (w76)) (fun w94 =>
  gocall Tryd.prog (11) [(Value.pointer p9)] (fun v95 w96 =>
  asSl (v95) (fun p97 k98 k99 w100 =>
  br ((↑k98 : Int) != 1) (fun w101 =>
  K (Value.bool (false)) (w101)) (fun w102 =>
  slAt (p97) (k98) (0) (1) (fun a103 w104 =>
  st (a103) (Value.string ({ data := #[120] })) (fun w105 =>
  keeps (fun S106 w107 =>
  ldS (S106) (⟨k5, 0, none⟩) (fun v108 w109 =>
  asStr (v108) (fun s110 w111 =>
  ldS (S106) (⟨k5, 1, none⟩) (fun v112 w113 =>
  asI (IntKind.i64) (v112) (fun n114 w115 =>
  ldS (S106) (⟨k5, 2, none⟩) (fun v116 w117 =>
  asSl (v116) (fun p118 k119 k120 w121 =>
  both (fun w122 =>
  gocall Tryd.prog (17) [(Value.pointer p9), (Value.int IntKind.i64 (3))] (fun v123 w124 =>
  asSl (v123) (fun p125 k126 k127 w128 =>
  kp (S106) (fun w129 =>
  nw (Obj.cells #[(Value.string (s110)), (Value.int IntKind.i64 (n114)), (Value.slice p118 (k119) (k120))] 29 (0, 0)) (fun k130 w131 =>
  kp (S106) (fun w132 =>
  gocall Tryd.prog (18) [(Value.slice p125 (k126) (k127)), (Value.slice (some ⟨k130, 0, none⟩) (1) (1))] (fun v133 w134 =>
  asBoo (v133) (fun b135 w136 =>
  kp (S106) (fun w137 =>
  br (b135) (fun w138 =>
  gocall Tryd.prog (14) [] (fun v139 w140 =>
  asBoo (v139) (fun b141 w142 =>
  kp (S106) (fun w143 =>
  K (Value.bool (b141)) (w143)) (w142)) (w140)) (w138)) (fun w144 =>
  K (Value.bool (false)) (w144)) (w137)) (w136)) (w134)) (w132)) (w131)) (w129)) (w128)) (w124)) (w122)) (fun w145 =>
  nw (Obj.cells #[(Value.string (s110)), (Value.int IntKind.i64 (n114)), (Value.slice p118 (k119) (k120))] 29 (0, 0)) (fun k146 w147 =>
  kp (S106) (fun w148 =>
  gocall Tryd.prog (17) [(Value.pointer p9), (Value.int IntKind.i64 (3))] (fun v149 w150 =>
  asSl (v149) (fun p151 k152 k153 w154 =>
  kp (S106) (fun w155 =>
  gocall Tryd.prog (18) [(Value.slice p151 (k152) (k153)), (Value.slice (some ⟨k146, 0, none⟩) (1) (1))] (fun v156 w157 =>
  asBoo (v156) (fun b158 w159 =>
  kp (S106) (fun w160 =>
  br (b158) (fun w161 =>
  gocall Tryd.prog (14) [] (fun v162 w163 =>
  asBoo (v162) (fun b164 w165 =>
  kp (S106) (fun w166 =>
  K (Value.bool (b164)) (w166)) (w165)) (w163)) (w161)) (fun w167 =>
  K (Value.bool (false)) (w167)) (w160)) (w159)) (w157)) (w155)) (w154)) (w150)) (w148)) (w147)) (w145)) (w121)) (w117)) (w115)) (w113)) (w111)) (w109)) (w107)) (w105.drew)) (w104)) (w102)) (w100)) (w96)) (w94)) (w75)) (w72)) (w68)) (w66)) (w64)) (w62)) (w58)) (w56)) (w50)) (w48)) (w46)) (w42)) (w40)) (w38)) (w36)) (w34)) (w32)) (w26)) (w24)) (w22)) (w16)) (w12)) (w10)) (w8)) (w6)) (w)
theorem F5_eq (s0 : ByteArray) (x1 : Int) (a2 : Option Addr) (n2 : Nat) (c2 : Nat) : sBody Tryd.prog [(16, [0, 2, 5007, 1, 3, 4, 5, 6, 7, 8, 3, 1, 4, 5, 6, 7, 8])] Tryd.f5 [(Value.agg #[(Value.string s0), (Value.int IntKind.i64 x1), (Value.slice a2 n2 c2)])] = F5 s0 x1 a2 n2 c2 := by kernel_rfl
theorem F5_go (s0 : ByteArray) (x1 : Int) (a2 : Option Addr) (n2 : Nat) (c2 : Nat) {K : KV} {w : World} (h : F5 s0 x1 a2 n2 c2 K w) : gocall Tryd.prog 5 [(Value.agg #[(Value.string s0), (Value.int IntKind.i64 x1), (Value.slice a2 n2 c2)])] K w :=
  ⟨by kernel_rfl, calls_of_sBody (T := [(16, [0, 2, 5007, 1, 3, 4, 5, 6, 7, 8, 3, 1, 4, 5, 6, 7, 8])]) mixed Tryd.func5 (by kernel_rfl) (by rw [F5_eq]; exact h)⟩
end Go.Proofs.YteppbgalecjlfaaDoor
