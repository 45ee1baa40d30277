/- The shallow readings of some functions of the program (printed by a program of ours out of the model's own evaluation) and, for each, the proof that it is one. Conditions: none. -/
import Derived.Test.YtkhmhgleglhcjaaDoorC17
set_option maxRecDepth 100000
set_option linter.unusedVariables false
namespace Go.Proofs.YtkhmhgleglhcjaaDoor
open Go Go.Sh
def F5 (s0 : ByteArray) (x1 : Int) (a2 : Option Addr) (n2 : Nat) (c2 : Nat) (K : KV) (w : World) : Prop :=
  nw (Obj.cells #[(Value.string (s0)), (Value.int IntKind.i64 (x1)), (Value.slice a2 (n2) (c2))] 24 (0, 0)) (fun k5 w6 =>
  ld (⟨k5, 0, none⟩) (fun v7 w8 =>
  asStr (v7) (fun s9 w10 =>
  ld (⟨k5, 1, none⟩) (fun v11 w12 =>
  asI (IntKind.i64) (v11) (fun n13 w14 =>
  ld (⟨k5, 2, none⟩) (fun v15 w16 =>
  asSl (v15) (fun p17 k18 k19 w20 =>
  gocall Tryd.prog (13) [(Value.agg #[(Value.string (s9)), (Value.int IntKind.i64 (n13)), (Value.slice p17 (k18) (k19))])] (fun v21 w22 =>
  asBoo (v21) (fun b23 w24 =>
  br (!b23) (fun w25 =>
  gocall Tryd.prog (14) [] (fun v26 w27 =>
  asBoo (v26) (fun b28 w29 =>
  K (Value.bool (b28)) (w29)) (w27)) (w25)) (fun w30 =>
  ld (⟨k5, 0, none⟩) (fun v31 w32 =>
  asStr (v31) (fun s33 w34 =>
  ld (⟨k5, 1, none⟩) (fun v35 w36 =>
  asI (IntKind.i64) (v35) (fun n37 w38 =>
  ld (⟨k5, 2, none⟩) (fun v39 w40 =>
  asSl (v39) (fun p41 k42 k43 w44 =>
  gocall Tryd.prog (18) [(Value.agg #[(Value.string (s33)), (Value.int IntKind.i64 (n37)), (Value.slice p41 (k42) (k43))])] (fun v45 w46 =>
  asBoo (v45) (fun b47 w48 =>
  br (!b47) (fun w49 =>
  gocall Tryd.prog (14) [] (fun v50 w51 =>
  asBoo (v50) (fun b52 w53 =>
  K (Value.bool (b52)) (w53)) (w51)) (w49)) (fun w54 =>
  ld (⟨k5, 0, none⟩) (fun v55 w56 =>
  asStr (v55) (fun s57 w58 =>
  ld (⟨k5, 1, none⟩) (fun v59 w60 =>
  asI (IntKind.i64) (v59) (fun n61 w62 =>
  ld (⟨k5, 2, none⟩) (fun v63 w64 =>
  asSl (v63) (fun p65 k66 k67 w68 =>
  gocall Tryd.prog (16) [(Value.agg #[(Value.string (s57)), (Value.int IntKind.i64 (n61)), (Value.slice p65 (k66) (k67))])] (fun v69 w70 =>
  asT (2) (v69) (fun f71 w72 =>
  asStr (f71 0) (fun s73 w74 =>
  asI (IntKind.i64) (f71 1) (fun n75 w76 =>
  gocall Tryd.prog (20) [(Value.string (s73))] (fun v77 w78 =>
  asT (2) (v77) (fun f79 w80 =>
  asStr (f79 0) (fun s81 w82 =>
  asBoo (f79 1) (fun b83 w84 =>
  br (n75 != 0) (fun w85 =>
  K (Value.bool (false)) (w85)) (fun w86 =>
  br (!b83) (fun w87 =>
  K (Value.bool (false)) (w87)) (fun w88 =>
  loop (X := (Int) × (Int) × Unit) (0, (1, ())) (fun x89 rec90 w91 =>
  br (decide (x89.fst < (↑s81.size : Int))) (fun w92 =>
  strAt (s81) (x89.fst) (fun x93 w94 =>
  br ((↑x93.toNat : Int) == 32) (fun w95 =>
  rec90 (IntKind.i64.wrap (x89.fst + 1), (IntKind.i64.wrap (x89.snd.fst + 1), ())) (w95)) (fun w96 =>
  rec90 (IntKind.i64.wrap (x89.fst + 1), (x89.snd.fst, ())) (w96)) (w94)) (w92)) (fun w97 =>
  strCat (s81) ({ data := #[32, 53] }) (fun s98 w99 =>
  gocall Tryd.prog (15) [(Value.string (s98))] (fun v100 w101 =>
  asStr (v100) (fun s102 w103 =>
  gocall Tryd.prog (17) [(Value.string (s102))] (fun v104 w105 =>
  asT (2) (v104) (fun f106 w107 =>
  asN (3) (f106 0) (fun f108 w109 =>
  asStr (f108 0) (fun s110 w111 =>
  asI (IntKind.i64) (f108 1) (fun n112 w113 =>
  asSl (f108 2) (fun p114 k115 k116 w117 =>
  asI (IntKind.i64) (f106 1) (fun n118 w119 =>
  nw (Obj.cells #[(Value.string ({ data := #[] })), (Value.int IntKind.i64 (0)), (Value.slice none (0) (0))] 24 (0, 0)) (fun k120 w121 =>
  st (⟨k120, 0, none⟩) (Value.string (s110)) (fun w122 =>
  st (⟨k120, 1, none⟩) (Value.int IntKind.i64 (n112)) (fun w123 =>
  st (⟨k120, 2, none⟩) (Value.slice p114 (k115) (k116)) (fun w124 =>
  ld (⟨k5, 2, none⟩) (fun v125 w126 =>
  asSl (v125) (fun p127 k128 k129 w130 =>
  br (x89.snd.fst != IntKind.i64.wrap (2 + (↑k128 : Int))) (fun w131 =>
  K (Value.bool (false)) (w131)) (fun w132 =>
  ld (⟨k5, 0, none⟩) (fun v133 w134 =>
  asStr (v133) (fun s135 w136 =>
  strSl (s81) (0) ((↑s135.size : Int)) (fun s137 w138 =>
  ld (⟨k5, 0, none⟩) (fun v139 w140 =>
  asStr (v139) (fun s141 w142 =>
  br (!strEq s137 s141) (fun w143 =>
  K (Value.bool (false)) (w143)) (fun w144 =>
  ld (⟨k5, 2, none⟩) (fun v145 w146 =>
  asSl (v145) (fun p147 k148 k149 w150 =>
  br ((↑k148 : Int) == 4) (fun w151 =>
  br (n118 == 2) (fun w152 =>
  gocall Tryd.prog (14) [] (fun v153 w154 =>
  asBoo (v153) (fun b155 w156 =>
  K (Value.bool (b155)) (w156)) (w154)) (w152)) (fun w157 =>
  K (Value.bool (false)) (w157)) (w151)) (fun w158 =>
  br (n118 == 0) (fun w159 =>
  ld (⟨k120, 2, none⟩) (fun v160 w161 =>
  asSl (v160) (fun p162 k163 k164 w165 =>
  ld (⟨k5, 2, none⟩) (fun v166 w167 =>
  asSl (v166) (fun p168 k169 k170 w171 =>
  br ((↑k163 : Int) == IntKind.i64.wrap ((↑k169 : Int) + 1)) (fun w172 =>
  ld (⟨k120, 2, none⟩) (fun v173 w174 =>
  asSl (v173) (fun p175 k176 k177 w178 =>
  ld (⟨k5, 2, none⟩) (fun v179 w180 =>
  asSl (v179) (fun p181 k182 k183 w184 =>
  slAt (p175) (k176) ((↑k182 : Int)) (1) (fun a185 w186 =>
  ld (a185) (fun v187 w188 =>
  asI (IntKind.i64) (v187) (fun n189 w190 =>
  br (n189 == 5) (fun w191 =>
  ld (⟨k120, 2, none⟩) (fun v192 w193 =>
  asSl (v192) (fun p194 k195 k196 w197 =>
  ld (⟨k5, 2, none⟩) (fun v198 w199 =>
  asSl (v198) (fun p200 k201 k202 w203 =>
  slSl (p194) (k196) (0) ((↑k201 : Int)) (1) (fun p204 k205 k206 w207 =>
  ld (⟨k5, 2, none⟩) (fun v208 w209 =>
  asSl (v208) (fun p210 k211 k212 w213 =>
  gocall Tryd.prog (21) [(Value.slice p204 (k205) (k206)), (Value.slice p210 (k211) (k212))] (fun v214 w215 =>
  asBoo (v214) (fun b216 w217 =>
  br (b216) (fun w218 =>
  gocall Tryd.prog (14) [] (fun v219 w220 =>
  asBoo (v219) (fun b221 w222 =>
  K (Value.bool (b221)) (w222)) (w220)) (w218)) (fun w223 =>
  K (Value.bool (false)) (w223)) (w217)) (w215)) (w213)) (w209)) (w207)) (w203)) (w199)) (w197)) (w193)) (w191)) (fun w224 =>
  K (Value.bool (false)) (w224)) (w190)) (w188)) (w186)) (w184)) (w180)) (w178)) (w174)) (w172)) (fun w225 =>
  K (Value.bool (false)) (w225)) (w171)) (w167)) (w165)) (w161)) (w159)) (fun w226 =>
  K (Value.bool (false)) (w226)) (w158.drew)) (w150)) (w146)) (w144)) (w142)) (w140)) (w138)) (w136)) (w134)) (w132)) (w130)) (w126)) (w124.drew)) (w123)) (w122)) (w121)) (w119)) (w117)) (w113)) (w111)) (w109)) (w107)) (w105)) (w103)) (w101)) (w99)) (w97)) (w91)) (w88)) (w86)) (w84)) (w82)) (w80)) (w78)) (w76)) (w74)) (w72)) (w70)) (w68)) (w64)) (w62)) (w60)) (w58)) (w56)) (w54)) (w48)) (w46)) (w44)) (w40)) (w38)) (w36)) (w34)) (w32)) (w30)) (w24)) (w22)) (w20)) (w16)) (w14)) (w12)) (w10)) (w8)) (w6)) (w)
theorem F5_eq (s0 : ByteArray) (x1 : Int) (a2 : Option Addr) (n2 : Nat) (c2 : Nat) : sBody Tryd.prog [] Tryd.f5 [(Value.agg #[(Value.string s0), (Value.int IntKind.i64 x1), (Value.slice a2 n2 c2)])] = F5 s0 x1 a2 n2 c2 := by kernel_rfl
theorem F5_go (s0 : ByteArray) (x1 : Int) (a2 : Option Addr) (n2 : Nat) (c2 : Nat) {K : KV} {w : World} (h : F5 s0 x1 a2 n2 c2 K w) : gocall Tryd.prog 5 [(Value.agg #[(Value.string s0), (Value.int IntKind.i64 x1), (Value.slice a2 n2 c2)])] K w :=
  ⟨by kernel_rfl, calls_of_sBody (T := []) mixed Tryd.func5 (by kernel_rfl) (by rw [F5_eq]; exact h)⟩
end Go.Proofs.YtkhmhgleglhcjaaDoor
