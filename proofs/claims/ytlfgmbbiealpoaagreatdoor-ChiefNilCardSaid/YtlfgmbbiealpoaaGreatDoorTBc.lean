/- The functions that the executor may run, with the orders of their drawn regions. Conditions: none. -/
import Derived.Test.YtlfgmbbiealpoaaGreatDoorE25
set_option linter.unusedVariables false
set_option maxRecDepth 100000
namespace Go.Proofs.YtlfgmbbiealpoaaGreatDoor
open Go Go.Sh
noncomputable def tl0 : List (FuncId × Func × List (Nat × List Nat)) := [
(8, Tryz.f8, [(7, [30000, 0, 1, 2, 3, 4, 5, 6, 7, 11, 12, 13, 17, 21, 22, 23, 8, 9, 10, 14, 15, 16, 18, 19, 20, 24, 25, 26, 27, 28, 29, 30, 31, 32, 33, 34, 35, 36, 37, 38, 39, 40, 41, 42, 43, 44, 45, 46, 47, 48, 49, 50, 51, 52, 53, 54, 55, 56, 57, 58, 59, 60])]),
(24, Tryz.f24, [(3, [30000, 0, 1, 2, 3, 4, 5, 6, 7])]),
(27, Tryz.f27, []),
(28, Tryz.f28, []),
(29, Tryz.f29, []),
(30, Tryz.f30, [(13, [30000, 0, 1, 2, 3, 4]), (1000024, [130]), (1000030, [3])]),
(31, Tryz.f31, []),
(32, Tryz.f32, [(7, [30000, 0, 1, 2, 3, 4, 5, 6, 7, 8]), (9, [30000, 0, 2, 3, 4, 5, 1, 6, 7]), (19, [30000, 0, 1, 2, 3, 4, 5, 6]), (20, [30000, 0, 1, 2, 3, 4, 5, 6, 7, 8, 9, 10])]),
(33, Tryz.f33, [(3, [30000, 0, 1, 2, 3, 4, 9, 10, 11, 12, 13, 5065, 5, 6, 7, 8, 5013, 14, 15, 16, 17, 5004, 18, 19, 20, 21, 19, 18, 20, 21, 5023, 18, 5007, 14, 15, 16, 17, 19, 20, 21, 19, 5006, 14, 15, 16, 17, 20, 21, 20, 14, 15, 16, 17, 21, 19, 5007, 14, 15, 16, 17, 18, 20, 21, 18, 5006, 14, 15, 16, 17, 20, 21, 20, 14, 15, 16, 17, 21, 5051, 14, 15, 16, 17, 5013, 5, 6, 7, 8, 5004, 18, 19, 20, 21, 19, 18, 20, 21, 5016, 18, 5007, 5, 6, 7, 8, 19, 20, 21, 19, 5, 6, 7, 8, 20, 21, 19, 5007, 5, 6, 7, 8, 18, 20, 21, 18, 5, 6, 7, 8, 20, 21, 5077, 18, 5026, 5, 6, 7, 8, 5007, 14, 15, 16, 17, 19, 20, 21, 19, 5006, 14, 15, 16, 17, 20, 21, 20, 14, 15, 16, 17, 21, 5019, 14, 15, 16, 17, 5007, 5, 6, 7, 8, 19, 20, 21, 19, 5, 6, 7, 8, 20, 21, 19, 5017, 5, 6, 7, 8, 5006, 14, 15, 16, 17, 20, 21, 20, 14, 15, 16, 17, 21, 14, 15, 16, 17, 5, 6, 7, 8, 20, 21, 19, 5026, 5, 6, 7, 8, 5007, 14, 15, 16, 17, 18, 20, 21, 18, 5006, 14, 15, 16, 17, 20, 21, 20, 14, 15, 16, 17, 21, 5019, 14, 15, 16, 17, 5007, 5, 6, 7, 8, 18, 20, 21, 18, 5, 6, 7, 8, 20, 21, 18, 5017, 5, 6, 7, 8, 5006, 14, 15, 16, 17, 20, 21, 20, 14, 15, 16, 17, 21, 14, 15, 16, 17, 5, 6, 7, 8, 20, 21]), (4, [30000, 0, 1, 3, 4, 6, 7, 2, 9, 5, 8, 10, 11, 12, 13, 14]), (5, [30000, 0, 1, 2, 3, 4])]),
(34, Tryz.f34, [(1000013, [3])]),
(35, Tryz.f35, [(3, [30000, 0, 1, 2, 3, 4, 9, 10, 11, 12, 13, 5010, 5, 6, 7, 8, 14, 15, 16, 17, 18, 19, 14, 15, 16, 17, 5, 6, 7, 8, 18, 19])]),
(36, Tryz.f36, []),
(37, Tryz.f37, []),
(39, Tryz.f39, []),
(41, Tryz.f41, []),
(61, Tryz.f61, []),
(62, Tryz.f62, []),
(65, Tryz.f65, []),
(67, Tryz.f67, [(1, [0, 1, 2, 3, 4, 5, 6, 7, 8, 9, 10, 11]), (6, [30000, 0, 1, 2, 3, 4, 5])]),
(68, Tryz.f68, []),
(69, Tryz.f69, [(1, [30000, 0, 1, 2, 3, 4, 5, 6, 7, 8, 9]), (3, [30000, 0, 1, 2, 3, 4, 5, 6, 7, 8, 9])]),
(75, Tryz.f75, [(3, [30000, 0, 1, 2, 3, 4, 5, 6, 7, 8, 9])]),
(76, Tryz.f76, [(1, [30000, 0, 1, 2, 3, 4, 5, 6, 7, 8, 9])]),
(78, Tryz.f78, []),
(81, Tryz.f81, [(2, [30000, 0, 1, 2, 3, 4, 5, 6, 7, 8]), (10, [30000, 0, 1, 2, 3, 4, 5, 6, 7, 8, 9, 10, 11, 12, 13, 14, 15, 16, 17, 18, 19, 20]), (11, [30000, 0, 1, 2, 3, 4, 5, 6, 9, 10, 11, 12, 13, 5024, 7, 5011, 8, 14, 15, 16, 17, 18, 19, 20, 21, 22, 23, 14, 8, 15, 16, 17, 18, 19, 20, 21, 22, 23, 14, 7, 8, 15, 16, 17, 18, 19, 20, 21, 22, 23])]),
(82, Tryz.f82, [(1, [30000, 0, 1, 2, 3, 4, 5, 6, 7, 8, 9])]),
(83, Tryz.f83, [(3, [30000, 0, 1, 2, 3, 4, 5, 6, 7, 8, 9])]),
(84, Tryz.f84, []),
(86, Tryz.f86, []),
(87, Tryz.f87, []),
(89, Tryz.f89, []),
(90, Tryz.f90, []),
(91, Tryz.f91, []),
(92, Tryz.f92, []),
(93, Tryz.f93, []),
(94, Tryz.f94, []),
(95, Tryz.f95, []),
(96, Tryz.f96, []),
(125, Tryz.f125, []),
(128, Tryz.f128, [])]
theorem tr0 : AllR Tryz.prog tl0 := ⟨⟨Tryz.func8, by kernel_rfl, by kernel_rfl⟩, ⟨Tryz.func24, by kernel_rfl, by kernel_rfl⟩, ⟨Tryz.func27, by kernel_rfl, by kernel_rfl⟩, ⟨Tryz.func28, by kernel_rfl, by kernel_rfl⟩, ⟨Tryz.func29, by kernel_rfl, by kernel_rfl⟩, ⟨Tryz.func30, by kernel_rfl, by kernel_rfl⟩, ⟨Tryz.func31, by kernel_rfl, by kernel_rfl⟩, ⟨Tryz.func32, by kernel_rfl, by kernel_rfl⟩, ⟨Tryz.func33, by kernel_rfl, by kernel_rfl⟩, ⟨Tryz.func34, by kernel_rfl, by kernel_rfl⟩, ⟨Tryz.func35, by kernel_rfl, by kernel_rfl⟩, ⟨Tryz.func36, by kernel_rfl, by kernel_rfl⟩, ⟨Tryz.func37, by kernel_rfl, by kernel_rfl⟩, ⟨Tryz.func39, by kernel_rfl, by kernel_rfl⟩, ⟨Tryz.func41, by kernel_rfl, by kernel_rfl⟩, ⟨Tryz.func61, by kernel_rfl, by kernel_rfl⟩, ⟨Tryz.func62, by kernel_rfl, by kernel_rfl⟩, ⟨Tryz.func65, by kernel_rfl, by kernel_rfl⟩, ⟨Tryz.func67, by kernel_rfl, by kernel_rfl⟩, ⟨Tryz.func68, by kernel_rfl, by kernel_rfl⟩, ⟨Tryz.func69, by kernel_rfl, by kernel_rfl⟩, ⟨Tryz.func75, by kernel_rfl, by kernel_rfl⟩, ⟨Tryz.func76, by kernel_rfl, by kernel_rfl⟩, ⟨Tryz.func78, by kernel_rfl, by kernel_rfl⟩, ⟨Tryz.func81, by kernel_rfl, by kernel_rfl⟩, ⟨Tryz.func82, by kernel_rfl, by kernel_rfl⟩, ⟨Tryz.func83, by kernel_rfl, by kernel_rfl⟩, ⟨Tryz.func84, by kernel_rfl, by kernel_rfl⟩, ⟨Tryz.func86, by kernel_rfl, by kernel_rfl⟩, ⟨Tryz.func87, by kernel_rfl, by kernel_rfl⟩, ⟨Tryz.func89, by kernel_rfl, by kernel_rfl⟩, ⟨Tryz.func90, by kernel_rfl, by kernel_rfl⟩, ⟨Tryz.func91, by kernel_rfl, by kernel_rfl⟩, ⟨Tryz.func92, by kernel_rfl, by kernel_rfl⟩, ⟨Tryz.func93, by kernel_rfl, by kernel_rfl⟩, ⟨Tryz.func94, by kernel_rfl, by kernel_rfl⟩, ⟨Tryz.func95, by kernel_rfl, by kernel_rfl⟩, ⟨Tryz.func96, by kernel_rfl, by kernel_rfl⟩, ⟨Tryz.func125, by kernel_rfl, by kernel_rfl⟩, ⟨Tryz.func128, by kernel_rfl, by kernel_rfl⟩, trivial⟩
noncomputable def tl1 : List (FuncId × Func × List (Nat × List Nat)) := [
(129, Tryz.f129, []),
(131, Tryz.f131, []),
(133, Tryz.f133, []),
(136, Tryz.f136, [(8, [0, 1, 2, 3, 4, 5, 6, 7, 8, 9, 10])]),
(137, Tryz.f137, []),
(138, Tryz.f138, [(4, [30000, 0, 1, 3, 4, 2, 5, 6, 7]), (9, [30000, 0, 1, 2, 3, 4, 5, 6, 7]), (10, [30000, 0, 1, 3, 5004, 2, 4, 5, 6, 4, 2, 5, 6])]),
(140, Tryz.f140, []),
(144, Tryz.f144, [(2, [30000, 0, 1, 2, 3, 4, 5, 6, 7, 8, 9, 10, 11, 12, 13, 14, 15, 16, 17, 18, 19, 20, 21, 22, 23, 24, 25, 26, 27])]),
(145, Tryz.f145, [(14, [30000, 0, 1, 2, 3, 4, 5, 6, 7, 8, 9, 11, 12, 13, 10, 14, 15])]),
(146, Tryz.f146, []),
(147, Tryz.f147, []),
(148, Tryz.f148, []),
(150, Tryz.f150, [(3, [30000, 0, 1, 2, 3, 4, 5, 6, 7, 8, 9, 10, 11, 12, 13, 14, 15])]),
(185, Tryz.f185, []),
(189, Tryz.f189, []),
(191, Tryz.f191, []),
(192, Tryz.f192, []),
(193, Tryz.f193, [(1000011, [3, 42])]),
(194, Tryz.f194, []),
(195, Tryz.f195, [(6, [30000, 0, 1, 2, 3, 4, 5, 6]), (9, [30000, 0, 2, 5033, 1, 5010, 3, 5004, 4, 5, 6, 7, 5, 4, 6, 7, 5010, 4, 5004, 3, 5, 6, 7, 5, 3, 6, 7, 5, 5004, 3, 4, 6, 7, 4, 3, 6, 7, 5017, 4, 5010, 1, 5004, 3, 5, 6, 7, 5, 3, 6, 7, 5, 1, 3, 6, 7, 5, 5010, 1, 5004, 3, 4, 6, 7, 4, 3, 6, 7, 4, 1, 3, 6, 7]), (10, [30000, 0, 1, 2, 3, 4, 5, 6, 7]), (11, [30000, 0, 1, 2, 3, 4, 5, 6, 7])]),
(196, Tryz.f196, []),
(197, Tryz.f197, []),
(202, Tryz.f202, []),
(203, Tryz.f203, []),
(204, Tryz.f204, []),
(216, Tryz.f216, []),
(234, Tryz.f234, []),
(235, Tryz.f235, []),
(239, Tryz.f239, []),
(240, Tryz.f240, []),
(244, Tryz.f244, []),
(262, Tryz.f262, []),
(263, Tryz.f263, []),
(272, Tryz.f272, [])]
theorem tr1 : AllR Tryz.prog tl1 := ⟨⟨Tryz.func129, by kernel_rfl, by kernel_rfl⟩, ⟨Tryz.func131, by kernel_rfl, by kernel_rfl⟩, ⟨Tryz.func133, by kernel_rfl, by kernel_rfl⟩, ⟨Tryz.func136, by kernel_rfl, by kernel_rfl⟩, ⟨Tryz.func137, by kernel_rfl, by kernel_rfl⟩, ⟨Tryz.func138, by kernel_rfl, by kernel_rfl⟩, ⟨Tryz.func140, by kernel_rfl, by kernel_rfl⟩, ⟨Tryz.func144, by kernel_rfl, by kernel_rfl⟩, ⟨Tryz.func145, by kernel_rfl, by kernel_rfl⟩, ⟨Tryz.func146, by kernel_rfl, by kernel_rfl⟩, ⟨Tryz.func147, by kernel_rfl, by kernel_rfl⟩, ⟨Tryz.func148, by kernel_rfl, by kernel_rfl⟩, ⟨Tryz.func150, by kernel_rfl, by kernel_rfl⟩, ⟨Tryz.func185, by kernel_rfl, by kernel_rfl⟩, ⟨Tryz.func189, by kernel_rfl, by kernel_rfl⟩, ⟨Tryz.func191, by kernel_rfl, by kernel_rfl⟩, ⟨Tryz.func192, by kernel_rfl, by kernel_rfl⟩, ⟨Tryz.func193, by kernel_rfl, by kernel_rfl⟩, ⟨Tryz.func194, by kernel_rfl, by kernel_rfl⟩, ⟨Tryz.func195, by kernel_rfl, by kernel_rfl⟩, ⟨Tryz.func196, by kernel_rfl, by kernel_rfl⟩, ⟨Tryz.func197, by kernel_rfl, by kernel_rfl⟩, ⟨Tryz.func202, by kernel_rfl, by kernel_rfl⟩, ⟨Tryz.func203, by kernel_rfl, by kernel_rfl⟩, ⟨Tryz.func204, by kernel_rfl, by kernel_rfl⟩, ⟨Tryz.func216, by kernel_rfl, by kernel_rfl⟩, ⟨Tryz.func234, by kernel_rfl, by kernel_rfl⟩, ⟨Tryz.func235, by kernel_rfl, by kernel_rfl⟩, ⟨Tryz.func239, by kernel_rfl, by kernel_rfl⟩, ⟨Tryz.func240, by kernel_rfl, by kernel_rfl⟩, ⟨Tryz.func244, by kernel_rfl, by kernel_rfl⟩, ⟨Tryz.func262, by kernel_rfl, by kernel_rfl⟩, ⟨Tryz.func263, by kernel_rfl, by kernel_rfl⟩, ⟨Tryz.func272, by kernel_rfl, by kernel_rfl⟩, trivial⟩
noncomputable def tbL : List (FuncId × Func × List (Nat × List Nat)) := tl0 ++ (tl1 ++ [])
theorem tbOk (n : Nat) {Q : List (Nat × BinOp × Int × Bool)} {G : List (Nat × List EV)} {p : FuncId → Option (List EV → XSt → Option EV)} : TbOk ⟨Tryz.prog, Q, G, p⟩ ⟨tbL, n⟩ := tbOk_of (cx := ⟨Tryz.prog, Q, G, p⟩) (by kernel_rfl) (fun x hx => by
  simp only [tbL, List.mem_append, List.not_mem_nil, or_false] at hx
  rcases hx with hx | hx
  · exact tr0.all x hx
  · exact tr1.all x hx)
end Go.Proofs.YtlfgmbbiealpoaaGreatDoor
