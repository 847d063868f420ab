/- The compiled functions are those of the program, first part. -/
import Derived.Test.YtpkhlfbgdebpoaaGreatDoorProg
import Derived.KernelRfl
import Derived.Test.YtpkhlfbgdebpoaaGreatDoorU02
import Derived.Test.YtpkhlfbgdebpoaaGreatDoorU10
import Derived.Test.YtpkhlfbgdebpoaaGreatDoorU11
namespace A3
open Go Go.Proofs
def Good (g : Nat) (f : AFunc) : Prop := ∃ F, Tryz.prog.funcs[g]? = some F ∧ cFunc Tryz.prog F = some f ∧ (F.name == "runtime.NumGoroutine") = false
end A3
namespace A3
open Y
open Go.Proofs
theorem z3 : Good 3 c3 := ⟨Tryz.f3, Tryz.func3, by kernel_rfl, by kernel_rfl⟩
theorem z7 : Good 7 c7 := ⟨Tryz.f7, Tryz.func7, by kernel_rfl, by kernel_rfl⟩
theorem z19 : Good 19 c19 := ⟨Tryz.f19, Tryz.func19, by kernel_rfl, by kernel_rfl⟩
theorem z30 : Good 30 c30 := ⟨Tryz.f30, Tryz.func30, by kernel_rfl, by kernel_rfl⟩
theorem z35 : Good 35 c35 := ⟨Tryz.f35, Tryz.func35, by kernel_rfl, by kernel_rfl⟩
theorem z43 : Good 43 c43 := ⟨Tryz.f43, Tryz.func43, by kernel_rfl, by kernel_rfl⟩
theorem z46 : Good 46 c46 := ⟨Tryz.f46, Tryz.func46, by kernel_rfl, by kernel_rfl⟩
theorem z79 : Good 79 c79 := ⟨Tryz.f79, Tryz.func79, by kernel_rfl, by kernel_rfl⟩
theorem z83 : Good 83 c83 := ⟨Tryz.f83, Tryz.func83, by kernel_rfl, by kernel_rfl⟩
theorem z105 : Good 105 c105 := ⟨Tryz.f105, Tryz.func105, by kernel_rfl, by kernel_rfl⟩
theorem z113 : Good 113 c113 := ⟨Tryz.f113, Tryz.func113, by kernel_rfl, by kernel_rfl⟩
theorem z115 : Good 115 c115 := ⟨Tryz.f115, Tryz.func115, by kernel_rfl, by kernel_rfl⟩
theorem z123 : Good 123 c123 := ⟨Tryz.f123, Tryz.func123, by kernel_rfl, by kernel_rfl⟩
theorem z125 : Good 125 c125 := ⟨Tryz.f125, Tryz.func125, by kernel_rfl, by kernel_rfl⟩
theorem z136 : Good 136 c136 := ⟨Tryz.f136, Tryz.func136, by kernel_rfl, by kernel_rfl⟩
theorem z141 : Good 141 c141 := ⟨Tryz.f141, Tryz.func141, by kernel_rfl, by kernel_rfl⟩
theorem z150 : Good 150 c150 := ⟨Tryz.f150, Tryz.func150, by kernel_rfl, by kernel_rfl⟩
theorem z153 : Good 153 c153 := ⟨Tryz.f153, Tryz.func153, by kernel_rfl, by kernel_rfl⟩
theorem z155 : Good 155 c155 := ⟨Tryz.f155, Tryz.func155, by kernel_rfl, by kernel_rfl⟩
theorem z162 : Good 162 c162 := ⟨Tryz.f162, Tryz.func162, by kernel_rfl, by kernel_rfl⟩
theorem z168 : Good 168 c168 := ⟨Tryz.f168, Tryz.func168, by kernel_rfl, by kernel_rfl⟩
theorem z170 : Good 170 c170 := ⟨Tryz.f170, Tryz.func170, by kernel_rfl, by kernel_rfl⟩
theorem z190 : Good 190 c190 := ⟨Tryz.f190, Tryz.func190, by kernel_rfl, by kernel_rfl⟩
theorem z192 : Good 192 c192 := ⟨Tryz.f192, Tryz.func192, by kernel_rfl, by kernel_rfl⟩
theorem z194 : Good 194 c194 := ⟨Tryz.f194, Tryz.func194, by kernel_rfl, by kernel_rfl⟩
theorem z196 : Good 196 c196 := ⟨Tryz.f196, Tryz.func196, by kernel_rfl, by kernel_rfl⟩
theorem z217 : Good 217 c217 := ⟨Tryz.f217, Tryz.func217, by kernel_rfl, by kernel_rfl⟩
theorem z221 : Good 221 c221 := ⟨Tryz.f221, Tryz.func221, by kernel_rfl, by kernel_rfl⟩
theorem z237 : Good 237 c237 := ⟨Tryz.f237, Tryz.func237, by kernel_rfl, by kernel_rfl⟩
theorem z251 : Good 251 c251 := ⟨Tryz.f251, Tryz.func251, by kernel_rfl, by kernel_rfl⟩
theorem z264 : Good 264 c264 := ⟨Tryz.f264, Tryz.func264, by kernel_rfl, by kernel_rfl⟩
theorem z279 : Good 279 c279 := ⟨Tryz.f279, Tryz.func279, by kernel_rfl, by kernel_rfl⟩
theorem z287 : Good 287 c287 := ⟨Tryz.f287, Tryz.func287, by kernel_rfl, by kernel_rfl⟩
theorem z291 : Good 291 c291 := ⟨Tryz.f291, Tryz.func291, by kernel_rfl, by kernel_rfl⟩
theorem z310 : Good 310 c310 := ⟨Tryz.f310, Tryz.func310, by kernel_rfl, by kernel_rfl⟩
theorem z357 : Good 357 c357 := ⟨Tryz.f357, Tryz.func357, by kernel_rfl, by kernel_rfl⟩
theorem z377 : Good 377 c377 := ⟨Tryz.f377, Tryz.func377, by kernel_rfl, by kernel_rfl⟩
theorem z386 : Good 386 c386 := ⟨Tryz.f386, Tryz.func386, by kernel_rfl, by kernel_rfl⟩
theorem z412 : Good 412 c412 := ⟨Tryz.f412, Tryz.func412, by kernel_rfl, by kernel_rfl⟩
theorem z434 : Good 434 c434 := ⟨Tryz.f434, Tryz.func434, by kernel_rfl, by kernel_rfl⟩
theorem z480 : Good 480 c480 := ⟨Tryz.f480, Tryz.func480, by kernel_rfl, by kernel_rfl⟩
theorem z535 : Good 535 c535 := ⟨Tryz.f535, Tryz.func535, by kernel_rfl, by kernel_rfl⟩
theorem z537 : Good 537 c537 := ⟨Tryz.f537, Tryz.func537, by kernel_rfl, by kernel_rfl⟩
theorem z575 : Good 575 c575 := ⟨Tryz.f575, Tryz.func575, by kernel_rfl, by kernel_rfl⟩
theorem z593 : Good 593 c593 := ⟨Tryz.f593, Tryz.func593, by kernel_rfl, by kernel_rfl⟩
end A3
namespace A3
open Y
open Go.Proofs
theorem z4 : Good 4 c4 := ⟨Tryz.f4, Tryz.func4, by kernel_rfl, by kernel_rfl⟩
theorem z9 : Good 9 c9 := ⟨Tryz.f9, Tryz.func9, by kernel_rfl, by kernel_rfl⟩
theorem z18 : Good 18 c18 := ⟨Tryz.f18, Tryz.func18, by kernel_rfl, by kernel_rfl⟩
theorem z27 : Good 27 c27 := ⟨Tryz.f27, Tryz.func27, by kernel_rfl, by kernel_rfl⟩
theorem z44 : Good 44 c44 := ⟨Tryz.f44, Tryz.func44, by kernel_rfl, by kernel_rfl⟩
theorem z48 : Good 48 c48 := ⟨Tryz.f48, Tryz.func48, by kernel_rfl, by kernel_rfl⟩
theorem z57 : Good 57 c57 := ⟨Tryz.f57, Tryz.func57, by kernel_rfl, by kernel_rfl⟩
theorem z64 : Good 64 c64 := ⟨Tryz.f64, Tryz.func64, by kernel_rfl, by kernel_rfl⟩
theorem z80 : Good 80 c80 := ⟨Tryz.f80, Tryz.func80, by kernel_rfl, by kernel_rfl⟩
theorem z103 : Good 103 c103 := ⟨Tryz.f103, Tryz.func103, by kernel_rfl, by kernel_rfl⟩
theorem z116 : Good 116 c116 := ⟨Tryz.f116, Tryz.func116, by kernel_rfl, by kernel_rfl⟩
theorem z120 : Good 120 c120 := ⟨Tryz.f120, Tryz.func120, by kernel_rfl, by kernel_rfl⟩
theorem z130 : Good 130 c130 := ⟨Tryz.f130, Tryz.func130, by kernel_rfl, by kernel_rfl⟩
theorem z138 : Good 138 c138 := ⟨Tryz.f138, Tryz.func138, by kernel_rfl, by kernel_rfl⟩
theorem z158 : Good 158 c158 := ⟨Tryz.f158, Tryz.func158, by kernel_rfl, by kernel_rfl⟩
theorem z161 : Good 161 c161 := ⟨Tryz.f161, Tryz.func161, by kernel_rfl, by kernel_rfl⟩
theorem z185 : Good 185 c185 := ⟨Tryz.f185, Tryz.func185, by kernel_rfl, by kernel_rfl⟩
theorem z199 : Good 199 c199 := ⟨Tryz.f199, Tryz.func199, by kernel_rfl, by kernel_rfl⟩
theorem z211 : Good 211 c211 := ⟨Tryz.f211, Tryz.func211, by kernel_rfl, by kernel_rfl⟩
theorem z252 : Good 252 c252 := ⟨Tryz.f252, Tryz.func252, by kernel_rfl, by kernel_rfl⟩
theorem z263 : Good 263 c263 := ⟨Tryz.f263, Tryz.func263, by kernel_rfl, by kernel_rfl⟩
theorem z271 : Good 271 c271 := ⟨Tryz.f271, Tryz.func271, by kernel_rfl, by kernel_rfl⟩
theorem z284 : Good 284 c284 := ⟨Tryz.f284, Tryz.func284, by kernel_rfl, by kernel_rfl⟩
theorem z318 : Good 318 c318 := ⟨Tryz.f318, Tryz.func318, by kernel_rfl, by kernel_rfl⟩
theorem z319 : Good 319 c319 := ⟨Tryz.f319, Tryz.func319, by kernel_rfl, by kernel_rfl⟩
theorem z337 : Good 337 c337 := ⟨Tryz.f337, Tryz.func337, by kernel_rfl, by kernel_rfl⟩
theorem z340 : Good 340 c340 := ⟨Tryz.f340, Tryz.func340, by kernel_rfl, by kernel_rfl⟩
theorem z346 : Good 346 c346 := ⟨Tryz.f346, Tryz.func346, by kernel_rfl, by kernel_rfl⟩
theorem z389 : Good 389 c389 := ⟨Tryz.f389, Tryz.func389, by kernel_rfl, by kernel_rfl⟩
theorem z401 : Good 401 c401 := ⟨Tryz.f401, Tryz.func401, by kernel_rfl, by kernel_rfl⟩
theorem z406 : Good 406 c406 := ⟨Tryz.f406, Tryz.func406, by kernel_rfl, by kernel_rfl⟩
theorem z410 : Good 410 c410 := ⟨Tryz.f410, Tryz.func410, by kernel_rfl, by kernel_rfl⟩
theorem z463 : Good 463 c463 := ⟨Tryz.f463, Tryz.func463, by kernel_rfl, by kernel_rfl⟩
theorem z477 : Good 477 c477 := ⟨Tryz.f477, Tryz.func477, by kernel_rfl, by kernel_rfl⟩
theorem z505 : Good 505 c505 := ⟨Tryz.f505, Tryz.func505, by kernel_rfl, by kernel_rfl⟩
theorem z520 : Good 520 c520 := ⟨Tryz.f520, Tryz.func520, by kernel_rfl, by kernel_rfl⟩
theorem z521 : Good 521 c521 := ⟨Tryz.f521, Tryz.func521, by kernel_rfl, by kernel_rfl⟩
theorem z526 : Good 526 c526 := ⟨Tryz.f526, Tryz.func526, by kernel_rfl, by kernel_rfl⟩
theorem z536 : Good 536 c536 := ⟨Tryz.f536, Tryz.func536, by kernel_rfl, by kernel_rfl⟩
theorem z564 : Good 564 c564 := ⟨Tryz.f564, Tryz.func564, by kernel_rfl, by kernel_rfl⟩
theorem z568 : Good 568 c568 := ⟨Tryz.f568, Tryz.func568, by kernel_rfl, by kernel_rfl⟩
theorem z571 : Good 571 c571 := ⟨Tryz.f571, Tryz.func571, by kernel_rfl, by kernel_rfl⟩
theorem z608 : Good 608 c608 := ⟨Tryz.f608, Tryz.func608, by kernel_rfl, by kernel_rfl⟩
theorem z640 : Good 640 c640 := ⟨Tryz.f640, Tryz.func640, by kernel_rfl, by kernel_rfl⟩
theorem z643 : Good 643 c643 := ⟨Tryz.f643, Tryz.func643, by kernel_rfl, by kernel_rfl⟩
end A3
