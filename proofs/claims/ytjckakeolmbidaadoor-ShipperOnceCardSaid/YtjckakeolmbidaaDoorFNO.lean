/- The shallow readings of some functions of the program (printed by a program of ours out of the model's own evaluation) and, for each, the proof that it is one. Conditions: none. -/
import Derived.Test.YtjckakeolmbidaaDoorN1s
set_option maxRecDepth 100000
set_option linter.unusedVariables false
namespace Go.Proofs.YtjckakeolmbidaaDoor
open Go Go.Sh
def F5 (a0 : Option Addr) (n0 : Nat) (c0 : Nat) (K : KV) (w : World) : Prop :=
  gocall Tryd.prog (19) [(Value.int IntKind.i64 (4096))] (fun v3 w4 =>
  asPtr (v3) (fun p5 w6 =>
  nw (Obj.cells #[(Value.int IntKind.i64 (0)), (Value.int IntKind.i64 (0)), (Value.int IntKind.i64 (0)), (Value.int IntKind.i64 (0)), (Value.int IntKind.i64 (0)), (Value.int IntKind.i64 (0)), (Value.int IntKind.i64 (0)), (Value.int IntKind.i64 (0)), (Value.int IntKind.i64 (0)), (Value.int IntKind.i64 (0))] 45 (0, 0)) (fun k7 w8 =>
  stN (⟨k7, 0, none⟩) (10) (#[(Value.int IntKind.i64 (0)), (Value.int IntKind.i64 (0)), (Value.int IntKind.i64 (0)), (Value.int IntKind.i64 (0)), (Value.int IntKind.i64 (0)), (Value.int IntKind.i64 (0)), (Value.int IntKind.i64 (0)), (Value.int IntKind.i64 (0)), (Value.int IntKind.i64 (0)), (Value.int IntKind.i64 (0))]) (fun w9 =>
  loop (X := (Int) × (Bool) × Unit) (0, (false, ())) (fun x10 rec11 w12 =>
  br (decide (x10.fst < (↑n0 : Int))) (fun w13 =>
  slAt (a0) (n0) (x10.fst) (10) (fun a14 w15 =>
  ld (a14) (fun v16 w17 =>
  asI (IntKind.i64) (v16) (fun n18 w19 =>
  ld (⟨a14.block, a14.off + 1, none⟩) (fun v20 w21 =>
  asI (IntKind.i64) (v20) (fun n22 w23 =>
  ld (⟨a14.block, a14.off + 2, none⟩) (fun v24 w25 =>
  asI (IntKind.i64) (v24) (fun n26 w27 =>
  ld (⟨a14.block, a14.off + 3, none⟩) (fun v28 w29 =>
  asI (IntKind.i64) (v28) (fun n30 w31 =>
  ld (⟨a14.block, a14.off + 4, none⟩) (fun v32 w33 =>
  asI (IntKind.i64) (v32) (fun n34 w35 =>
  ld (⟨a14.block, a14.off + 5, none⟩) (fun v36 w37 =>
  asI (IntKind.i64) (v36) (fun n38 w39 =>
  ld (⟨a14.block, a14.off + 6, none⟩) (fun v40 w41 =>
  asI (IntKind.i64) (v40) (fun n42 w43 =>
  ld (⟨a14.block, a14.off + 7, none⟩) (fun v44 w45 =>
  asI (IntKind.i64) (v44) (fun n46 w47 =>
  ld (⟨a14.block, a14.off + 8, none⟩) (fun v48 w49 =>
  asI (IntKind.i64) (v48) (fun n50 w51 =>
  ld (⟨a14.block, a14.off + 9, none⟩) (fun v52 w53 =>
  asI (IntKind.i64) (v52) (fun n54 w55 =>
  nw (Obj.cells #[(Value.int IntKind.i64 (0)), (Value.int IntKind.i64 (0)), (Value.int IntKind.i64 (0)), (Value.int IntKind.i64 (0)), (Value.int IntKind.i64 (0)), (Value.int IntKind.i64 (0)), (Value.int IntKind.i64 (0)), (Value.int IntKind.i64 (0)), (Value.int IntKind.i64 (0)), (Value.int IntKind.i64 (0))] 47 (0, 0)) (fun k56 w57 =>
  st (⟨k56, 0, none⟩) (Value.int IntKind.i64 (n18)) (fun w58 =>
  st (⟨k56, 1, none⟩) (Value.int IntKind.i64 (n22)) (fun w59 =>
  st (⟨k56, 2, none⟩) (Value.int IntKind.i64 (n26)) (fun w60 =>
  st (⟨k56, 3, none⟩) (Value.int IntKind.i64 (n30)) (fun w61 =>
  st (⟨k56, 4, none⟩) (Value.int IntKind.i64 (n34)) (fun w62 =>
  st (⟨k56, 5, none⟩) (Value.int IntKind.i64 (n38)) (fun w63 =>
  st (⟨k56, 6, none⟩) (Value.int IntKind.i64 (n42)) (fun w64 =>
  st (⟨k56, 7, none⟩) (Value.int IntKind.i64 (n46)) (fun w65 =>
  st (⟨k56, 8, none⟩) (Value.int IntKind.i64 (n50)) (fun w66 =>
  st (⟨k56, 9, none⟩) (Value.int IntKind.i64 (n54)) (fun w67 =>
  br (decide (x10.fst ≥ 80)) (fun w68 =>
  gocall Tryd.prog (26) [] (fun v69 w70 =>
  asBoo (v69) (fun b71 w72 =>
  K (Value.bool (b71)) (w72)) (w70)) (w68)) (fun w73 =>
  join (X := (Bool) × Unit) (fun J74 w75 =>
  ld (⟨k56, 0, none⟩) (fun v76 w77 =>
  asI (IntKind.i64) (v76) (fun n78 w79 =>
  br (n78 == 0) (fun w80 =>
  ld (⟨k56, 1, none⟩) (fun v81 w82 =>
  asI (IntKind.i64) (v81) (fun n83 w84 =>
  ld (⟨k56, 2, none⟩) (fun v85 w86 =>
  asI (IntKind.i64) (v85) (fun n87 w88 =>
  gocall Tryd.prog (20) [(Value.pointer p5), (Value.int IntKind.i64 (n83)), (Value.int IntKind.i64 (n87))] (fun v89 w90 =>
  asT (0) (v89) (fun f91 w92 =>
  gocall Tryd.prog (21) [(Value.pointer p5)] (fun v93 w94 =>
  asT (0) (v93) (fun f95 w96 =>
  J74 (x10.snd.fst, ()) (w96)) (w94)) (w92)) (w90)) (w88)) (w86)) (w84)) (w82)) (w80)) (fun w97 =>
  ld (⟨k56, 6, none⟩) (fun v98 w99 =>
  asI (IntKind.i64) (v98) (fun n100 w101 =>
  divW (9) (fun w102 =>
  ld (⟨k56, 9, none⟩) (fun v103 w104 =>
  asI (IntKind.i64) (v103) (fun n105 w106 =>
  divW (1000) (fun w107 =>
  gocall Tryd.prog (22) [(Value.pointer p5), (Value.agg #[(Value.int IntKind.i64 (15)), (Value.int IntKind.i64 (0)), (Value.int IntKind.i64 (3)), (Value.int IntKind.i64 (IntKind.i64.wrap (1 + IntKind.i64.wrap ((IntKind.u64.wrap n100).tmod 9)))), (Value.int IntKind.i64 (0)), (Value.int IntKind.i64 (3)), (Value.int IntKind.i64 (IntKind.i64.wrap (1 + IntKind.i64.wrap ((IntKind.u64.wrap n105).tmod 1000))))])] (fun v108 w109 =>
  asSl (v108) (fun p110 k111 k112 w113 =>
  br ((↑k111 : Int) != 1) (fun w114 =>
  K (Value.bool (false)) (w114)) (fun w115 =>
  slAt (p110) (k111) (0) (7) (fun a116 w117 =>
  ld (a116) (fun v118 w119 =>
  asI (IntKind.i64) (v118) (fun n120 w121 =>
  br (n120 != 16) (fun w122 =>
  K (Value.bool (false)) (w122)) (fun w123 =>
  slAt (p110) (k111) (0) (7) (fun a124 w125 =>
  ld (⟨a124.block, a124.off + 3, none⟩) (fun v126 w127 =>
  asI (IntKind.i64) (v126) (fun n128 w129 =>
  br (n128 != IntKind.i64.wrap (1 + IntKind.i64.wrap ((IntKind.u64.wrap n100).tmod 9))) (fun w130 =>
  K (Value.bool (false)) (w130)) (fun w131 =>
  slAt (p110) (k111) (0) (7) (fun a132 w133 =>
  ld (⟨a132.block, a132.off + 2, none⟩) (fun v134 w135 =>
  asI (IntKind.i64) (v134) (fun n136 w137 =>
  br (n136 != 0) (fun w138 =>
  K (Value.bool (false)) (w138)) (fun w139 =>
  arAt (⟨k7, 0, none⟩) (10) (IntKind.i64.wrap (1 + IntKind.i64.wrap ((IntKind.u64.wrap n100).tmod 9))) (1) (fun a140 w141 =>
  ld (a140) (fun v142 w143 =>
  asI (IntKind.i64) (v142) (fun n144 w145 =>
  br (n144 == 0) (fun w146 =>
  arAt (⟨k7, 0, none⟩) (10) (IntKind.i64.wrap (1 + IntKind.i64.wrap ((IntKind.u64.wrap n100).tmod 9))) (1) (fun a147 w148 =>
  st (a147) (Value.int IntKind.i64 (IntKind.i64.wrap (1 + IntKind.i64.wrap ((IntKind.u64.wrap n105).tmod 1000)))) (fun w149 =>
  J74 (x10.snd.fst, ()) (w149)) (w148)) (w146)) (fun w150 =>
  J74 (x10.snd.fst, ()) (w150)) (w145)) (w143)) (w141)) (w139)) (w137)) (w135)) (w133)) (w131)) (w129)) (w127)) (w125)) (w123)) (w121)) (w119)) (w117)) (w115)) (w113)) (w109)) (w107)) (w106)) (w104)) (w102)) (w101)) (w99)) (w97)) (w79)) (w77)) (w75)) (fun x151 w152 =>
  ldN (⟨k7, 0, none⟩) (10) (fun l153 w154 =>
  loop (X := (Int) × (Int) × (Int) × Unit) (0, (0, (0, ()))) (fun x155 rec156 w157 =>
  br (decide (x155.fst < 10)) (fun w158 =>
  aggAt (l153.toArray) (10) (x155.fst) (1) (fun v159 w160 =>
  asI (IntKind.i64) (v159) (fun n161 w162 =>
  br (decide (n161 > 0)) (fun w163 =>
  rec156 (IntKind.i64.wrap (x155.fst + 1), (IntKind.i64.wrap (x155.snd.fst + 1), (IntKind.i64.wrap (x155.snd.snd.fst + n161), ()))) (w163)) (fun w164 =>
  rec156 (IntKind.i64.wrap (x155.fst + 1), (x155.snd.fst, (IntKind.i64.wrap (x155.snd.snd.fst + n161), ()))) (w164)) (w162)) (w160)) (w158)) (fun w165 =>
  gocall Tryd.prog (23) [(Value.pointer p5)] (fun v166 w167 =>
  asPtr (v166) (fun p168 w169 =>
  gocall Tryd.prog (24) [(Value.pointer p168), (Value.int IntKind.i64 (3))] (fun v170 w171 =>
  asI (IntKind.i64) (v170) (fun n172 w173 =>
  br (n172 != x155.snd.snd.fst) (fun w174 =>
  K (Value.bool (false)) (w174)) (fun w175 =>
  gocall Tryd.prog (23) [(Value.pointer p5)] (fun v176 w177 =>
  asPtr (v176) (fun p178 w179 =>
  gocall Tryd.prog (25) [(Value.pointer p178)] (fun v180 w181 =>
  asSl (v180) (fun p182 k183 k184 w185 =>
  br ((↑k183 : Int) != x155.snd.fst) (fun w186 =>
  K (Value.bool (false)) (w186)) (fun w187 =>
  rec11 (IntKind.i64.wrap (x10.fst + 1), (x151.fst, ())) (w187)) (w185)) (w181)) (w179)) (w177)) (w175)) (w173)) (w171)) (w169)) (w167)) (w165)) (w157)) (w154)) (w152)) (w73)) (w67)) (w66)) (w65)) (w64)) (w63)) (w62)) (w61)) (w60)) (w59)) (w58)) (w57)) (w55)) (w53)) (w51)) (w49)) (w47)) (w45)) (w43)) (w41)) (w39)) (w37)) (w35)) (w33)) (w31)) (w29)) (w27)) (w25)) (w23)) (w21)) (w19)) (w17)) (w15)) (w13)) (fun w188 =>
  gocall Tryd.prog (26) [] (fun v189 w190 =>
  asBoo (v189) (fun b191 w192 =>
  K (Value.bool (b191)) (w192)) (w190)) (w188)) (w12)) (w9)) (w8)) (w6)) (w4)) (w)
theorem F5_eq (a0 : Option Addr) (n0 : Nat) (c0 : Nat) : sBody Tryd.prog [(4000017, [2, 1])] Tryd.f5 [(Value.slice a0 n0 c0)] = F5 a0 n0 c0 := by kernel_rfl
theorem F5_go (a0 : Option Addr) (n0 : Nat) (c0 : Nat) {K : KV} {w : World} (h : F5 a0 n0 c0 K w) : gocall Tryd.prog 5 [(Value.slice a0 n0 c0)] K w :=
  ⟨by kernel_rfl, calls_of_sBody (T := [(4000017, [2, 1])]) mixed Tryd.func5 (by kernel_rfl) (by rw [F5_eq]; exact h)⟩
end Go.Proofs.YtjckakeolmbidaaDoor
