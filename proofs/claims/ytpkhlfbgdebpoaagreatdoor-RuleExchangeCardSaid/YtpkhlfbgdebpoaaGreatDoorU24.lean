/- The compiled functions are those of the program, all of them. -/
import Derived.Test.YtpkhlfbgdebpoaaGreatDoorU21
import Derived.Test.YtpkhlfbgdebpoaaGreatDoorU10
import Derived.Test.YtpkhlfbgdebpoaaGreatDoorU11
import Derived.Test.YtpkhlfbgdebpoaaGreatDoorU12
import Derived.Test.YtpkhlfbgdebpoaaGreatDoorU22
import Derived.Test.YtpkhlfbgdebpoaaGreatDoorU23
namespace A3
open Y
open Go.Proofs
theorem z5 : Good 5 c5 := ⟨Tryz.f5, Tryz.func5, by kernel_rfl, by kernel_rfl⟩
theorem z17 : Good 17 c17 := ⟨Tryz.f17, Tryz.func17, by kernel_rfl, by kernel_rfl⟩
theorem z28 : Good 28 c28 := ⟨Tryz.f28, Tryz.func28, by kernel_rfl, by kernel_rfl⟩
theorem z31 : Good 31 c31 := ⟨Tryz.f31, Tryz.func31, by kernel_rfl, by kernel_rfl⟩
theorem z41 : Good 41 c41 := ⟨Tryz.f41, Tryz.func41, by kernel_rfl, by kernel_rfl⟩
theorem z51 : Good 51 c51 := ⟨Tryz.f51, Tryz.func51, by kernel_rfl, by kernel_rfl⟩
theorem z55 : Good 55 c55 := ⟨Tryz.f55, Tryz.func55, by kernel_rfl, by kernel_rfl⟩
theorem z61 : Good 61 c61 := ⟨Tryz.f61, Tryz.func61, by kernel_rfl, by kernel_rfl⟩
theorem z67 : Good 67 c67 := ⟨Tryz.f67, Tryz.func67, by kernel_rfl, by kernel_rfl⟩
theorem z69 : Good 69 c69 := ⟨Tryz.f69, Tryz.func69, by kernel_rfl, by kernel_rfl⟩
theorem z70 : Good 70 c70 := ⟨Tryz.f70, Tryz.func70, by kernel_rfl, by kernel_rfl⟩
theorem z88 : Good 88 c88 := ⟨Tryz.f88, Tryz.func88, by kernel_rfl, by kernel_rfl⟩
theorem z100 : Good 100 c100 := ⟨Tryz.f100, Tryz.func100, by kernel_rfl, by kernel_rfl⟩
theorem z102 : Good 102 c102 := ⟨Tryz.f102, Tryz.func102, by kernel_rfl, by kernel_rfl⟩
theorem z145 : Good 145 c145 := ⟨Tryz.f145, Tryz.func145, by kernel_rfl, by kernel_rfl⟩
theorem z187 : Good 187 c187 := ⟨Tryz.f187, Tryz.func187, by kernel_rfl, by kernel_rfl⟩
theorem z193 : Good 193 c193 := ⟨Tryz.f193, Tryz.func193, by kernel_rfl, by kernel_rfl⟩
theorem z195 : Good 195 c195 := ⟨Tryz.f195, Tryz.func195, by kernel_rfl, by kernel_rfl⟩
theorem z198 : Good 198 c198 := ⟨Tryz.f198, Tryz.func198, by kernel_rfl, by kernel_rfl⟩
theorem z204 : Good 204 c204 := ⟨Tryz.f204, Tryz.func204, by kernel_rfl, by kernel_rfl⟩
theorem z205 : Good 205 c205 := ⟨Tryz.f205, Tryz.func205, by kernel_rfl, by kernel_rfl⟩
theorem z207 : Good 207 c207 := ⟨Tryz.f207, Tryz.func207, by kernel_rfl, by kernel_rfl⟩
theorem z209 : Good 209 c209 := ⟨Tryz.f209, Tryz.func209, by kernel_rfl, by kernel_rfl⟩
theorem z213 : Good 213 c213 := ⟨Tryz.f213, Tryz.func213, by kernel_rfl, by kernel_rfl⟩
theorem z214 : Good 214 c214 := ⟨Tryz.f214, Tryz.func214, by kernel_rfl, by kernel_rfl⟩
theorem z216 : Good 216 c216 := ⟨Tryz.f216, Tryz.func216, by kernel_rfl, by kernel_rfl⟩
theorem z219 : Good 219 c219 := ⟨Tryz.f219, Tryz.func219, by kernel_rfl, by kernel_rfl⟩
theorem z229 : Good 229 c229 := ⟨Tryz.f229, Tryz.func229, by kernel_rfl, by kernel_rfl⟩
theorem z250 : Good 250 c250 := ⟨Tryz.f250, Tryz.func250, by kernel_rfl, by kernel_rfl⟩
theorem z262 : Good 262 c262 := ⟨Tryz.f262, Tryz.func262, by kernel_rfl, by kernel_rfl⟩
theorem z282 : Good 282 c282 := ⟨Tryz.f282, Tryz.func282, by kernel_rfl, by kernel_rfl⟩
theorem z286 : Good 286 c286 := ⟨Tryz.f286, Tryz.func286, by kernel_rfl, by kernel_rfl⟩
theorem z290 : Good 290 c290 := ⟨Tryz.f290, Tryz.func290, by kernel_rfl, by kernel_rfl⟩
theorem z298 : Good 298 c298 := ⟨Tryz.f298, Tryz.func298, by kernel_rfl, by kernel_rfl⟩
theorem z314 : Good 314 c314 := ⟨Tryz.f314, Tryz.func314, by kernel_rfl, by kernel_rfl⟩
theorem z325 : Good 325 c325 := ⟨Tryz.f325, Tryz.func325, by kernel_rfl, by kernel_rfl⟩
theorem z326 : Good 326 c326 := ⟨Tryz.f326, Tryz.func326, by kernel_rfl, by kernel_rfl⟩
theorem z328 : Good 328 c328 := ⟨Tryz.f328, Tryz.func328, by kernel_rfl, by kernel_rfl⟩
theorem z331 : Good 331 c331 := ⟨Tryz.f331, Tryz.func331, by kernel_rfl, by kernel_rfl⟩
theorem z333 : Good 333 c333 := ⟨Tryz.f333, Tryz.func333, by kernel_rfl, by kernel_rfl⟩
theorem z335 : Good 335 c335 := ⟨Tryz.f335, Tryz.func335, by kernel_rfl, by kernel_rfl⟩
theorem z339 : Good 339 c339 := ⟨Tryz.f339, Tryz.func339, by kernel_rfl, by kernel_rfl⟩
theorem z385 : Good 385 c385 := ⟨Tryz.f385, Tryz.func385, by kernel_rfl, by kernel_rfl⟩
theorem z415 : Good 415 c415 := ⟨Tryz.f415, Tryz.func415, by kernel_rfl, by kernel_rfl⟩
theorem z425 : Good 425 c425 := ⟨Tryz.f425, Tryz.func425, by kernel_rfl, by kernel_rfl⟩
theorem z503 : Good 503 c503 := ⟨Tryz.f503, Tryz.func503, by kernel_rfl, by kernel_rfl⟩
theorem z525 : Good 525 c525 := ⟨Tryz.f525, Tryz.func525, by kernel_rfl, by kernel_rfl⟩
end A3
namespace A3
open Y
open Go.Proofs
theorem z11 : Good 11 c11 := ⟨Tryz.f11, Tryz.func11, by kernel_rfl, by kernel_rfl⟩
theorem z12 : Good 12 c12 := ⟨Tryz.f12, Tryz.func12, by kernel_rfl, by kernel_rfl⟩
theorem z14 : Good 14 c14 := ⟨Tryz.f14, Tryz.func14, by kernel_rfl, by kernel_rfl⟩
theorem z16 : Good 16 c16 := ⟨Tryz.f16, Tryz.func16, by kernel_rfl, by kernel_rfl⟩
theorem z25 : Good 25 c25 := ⟨Tryz.f25, Tryz.func25, by kernel_rfl, by kernel_rfl⟩
theorem z33 : Good 33 c33 := ⟨Tryz.f33, Tryz.func33, by kernel_rfl, by kernel_rfl⟩
theorem z40 : Good 40 c40 := ⟨Tryz.f40, Tryz.func40, by kernel_rfl, by kernel_rfl⟩
theorem z42 : Good 42 c42 := ⟨Tryz.f42, Tryz.func42, by kernel_rfl, by kernel_rfl⟩
theorem z49 : Good 49 c49 := ⟨Tryz.f49, Tryz.func49, by kernel_rfl, by kernel_rfl⟩
theorem z50 : Good 50 c50 := ⟨Tryz.f50, Tryz.func50, by kernel_rfl, by kernel_rfl⟩
theorem z53 : Good 53 c53 := ⟨Tryz.f53, Tryz.func53, by kernel_rfl, by kernel_rfl⟩
theorem z66 : Good 66 c66 := ⟨Tryz.f66, Tryz.func66, by kernel_rfl, by kernel_rfl⟩
theorem z73 : Good 73 c73 := ⟨Tryz.f73, Tryz.func73, by kernel_rfl, by kernel_rfl⟩
theorem z87 : Good 87 c87 := ⟨Tryz.f87, Tryz.func87, by kernel_rfl, by kernel_rfl⟩
theorem z93 : Good 93 c93 := ⟨Tryz.f93, Tryz.func93, by kernel_rfl, by kernel_rfl⟩
theorem z99 : Good 99 c99 := ⟨Tryz.f99, Tryz.func99, by kernel_rfl, by kernel_rfl⟩
theorem z106 : Good 106 c106 := ⟨Tryz.f106, Tryz.func106, by kernel_rfl, by kernel_rfl⟩
theorem z119 : Good 119 c119 := ⟨Tryz.f119, Tryz.func119, by kernel_rfl, by kernel_rfl⟩
theorem z131 : Good 131 c131 := ⟨Tryz.f131, Tryz.func131, by kernel_rfl, by kernel_rfl⟩
theorem z144 : Good 144 c144 := ⟨Tryz.f144, Tryz.func144, by kernel_rfl, by kernel_rfl⟩
theorem z165 : Good 165 c165 := ⟨Tryz.f165, Tryz.func165, by kernel_rfl, by kernel_rfl⟩
theorem z174 : Good 174 c174 := ⟨Tryz.f174, Tryz.func174, by kernel_rfl, by kernel_rfl⟩
theorem z188 : Good 188 c188 := ⟨Tryz.f188, Tryz.func188, by kernel_rfl, by kernel_rfl⟩
theorem z208 : Good 208 c208 := ⟨Tryz.f208, Tryz.func208, by kernel_rfl, by kernel_rfl⟩
theorem z253 : Good 253 c253 := ⟨Tryz.f253, Tryz.func253, by kernel_rfl, by kernel_rfl⟩
theorem z258 : Good 258 c258 := ⟨Tryz.f258, Tryz.func258, by kernel_rfl, by kernel_rfl⟩
theorem z273 : Good 273 c273 := ⟨Tryz.f273, Tryz.func273, by kernel_rfl, by kernel_rfl⟩
theorem z277 : Good 277 c277 := ⟨Tryz.f277, Tryz.func277, by kernel_rfl, by kernel_rfl⟩
theorem z283 : Good 283 c283 := ⟨Tryz.f283, Tryz.func283, by kernel_rfl, by kernel_rfl⟩
theorem z285 : Good 285 c285 := ⟨Tryz.f285, Tryz.func285, by kernel_rfl, by kernel_rfl⟩
theorem z299 : Good 299 c299 := ⟨Tryz.f299, Tryz.func299, by kernel_rfl, by kernel_rfl⟩
theorem z321 : Good 321 c321 := ⟨Tryz.f321, Tryz.func321, by kernel_rfl, by kernel_rfl⟩
theorem z338 : Good 338 c338 := ⟨Tryz.f338, Tryz.func338, by kernel_rfl, by kernel_rfl⟩
theorem z341 : Good 341 c341 := ⟨Tryz.f341, Tryz.func341, by kernel_rfl, by kernel_rfl⟩
theorem z364 : Good 364 c364 := ⟨Tryz.f364, Tryz.func364, by kernel_rfl, by kernel_rfl⟩
theorem z403 : Good 403 c403 := ⟨Tryz.f403, Tryz.func403, by kernel_rfl, by kernel_rfl⟩
theorem z408 : Good 408 c408 := ⟨Tryz.f408, Tryz.func408, by kernel_rfl, by kernel_rfl⟩
theorem z430 : Good 430 c430 := ⟨Tryz.f430, Tryz.func430, by kernel_rfl, by kernel_rfl⟩
theorem z462 : Good 462 c462 := ⟨Tryz.f462, Tryz.func462, by kernel_rfl, by kernel_rfl⟩
theorem z465 : Good 465 c465 := ⟨Tryz.f465, Tryz.func465, by kernel_rfl, by kernel_rfl⟩
theorem z515 : Good 515 c515 := ⟨Tryz.f515, Tryz.func515, by kernel_rfl, by kernel_rfl⟩
theorem z528 : Good 528 c528 := ⟨Tryz.f528, Tryz.func528, by kernel_rfl, by kernel_rfl⟩
theorem z561 : Good 561 c561 := ⟨Tryz.f561, Tryz.func561, by kernel_rfl, by kernel_rfl⟩
theorem z565 : Good 565 c565 := ⟨Tryz.f565, Tryz.func565, by kernel_rfl, by kernel_rfl⟩
theorem z566 : Good 566 c566 := ⟨Tryz.f566, Tryz.func566, by kernel_rfl, by kernel_rfl⟩
theorem z570 : Good 570 c570 := ⟨Tryz.f570, Tryz.func570, by kernel_rfl, by kernel_rfl⟩
theorem z591 : Good 591 c591 := ⟨Tryz.f591, Tryz.func591, by kernel_rfl, by kernel_rfl⟩
end A3
namespace A3
theorem tab_ok : tabT.All Good := (.node (.node (.node (.node (.node (.node (.node (.node (.leaf z3) (.leaf z4)) (.node (.leaf z5) (.node (.leaf z6) (.leaf z7)))) (.node (.node (.leaf z8) (.node (.leaf z9) (.leaf z10))) (.node (.leaf z11) (.node (.leaf z12) (.leaf z13))))) (.node (.node (.node (.leaf z14) (.node (.leaf z15) (.leaf z16))) (.node (.leaf z17) (.node (.leaf z18) (.leaf z19)))) (.node (.node (.leaf z20) (.node (.leaf z21) (.leaf z23))) (.node (.leaf z24) (.node (.leaf z25) (.leaf z26)))))) (.node (.node (.node (.node (.leaf z27) (.leaf z28)) (.node (.leaf z30) (.node (.leaf z31) (.leaf z32)))) (.node (.node (.leaf z33) (.node (.leaf z34) (.leaf z35))) (.node (.leaf z36) (.node (.leaf z37) (.leaf z39))))) (.node (.node (.node (.leaf z40) (.node (.leaf z41) (.leaf z42))) (.node (.leaf z43) (.node (.leaf z44) (.leaf z45)))) (.node (.node (.leaf z46) (.node (.leaf z47) (.leaf z48))) (.node (.leaf z49) (.node (.leaf z50) (.leaf z51))))))) (.node (.node (.node (.node (.node (.leaf z52) (.leaf z53)) (.node (.leaf z55) (.node (.leaf z57) (.leaf z58)))) (.node (.node (.leaf z59) (.node (.leaf z61) (.leaf z62))) (.node (.leaf z63) (.node (.leaf z64) (.leaf z66))))) (.node (.node (.node (.leaf z67) (.node (.leaf z68) (.leaf z69))) (.node (.leaf z70) (.node (.leaf z71) (.leaf z72)))) (.node (.node (.leaf z73) (.node (.leaf z75) (.leaf z78))) (.node (.leaf z79) (.node (.leaf z80) (.leaf z81)))))) (.node (.node (.node (.node (.leaf z82) (.leaf z83)) (.node (.leaf z84) (.node (.leaf z85) (.leaf z86)))) (.node (.node (.leaf z87) (.node (.leaf z88) (.leaf z89))) (.node (.leaf z90) (.node (.leaf z93) (.leaf z96))))) (.node (.node (.node (.leaf z97) (.node (.leaf z98) (.leaf z99))) (.node (.leaf z100) (.node (.leaf z101) (.leaf z102)))) (.node (.node (.leaf z103) (.node (.leaf z104) (.leaf z105))) (.node (.leaf z106) (.node (.leaf z107) (.leaf z108)))))))) (.node (.node (.node (.node (.node (.node (.leaf z109) (.leaf z110)) (.node (.leaf z111) (.node (.leaf z112) (.leaf z113)))) (.node (.node (.leaf z114) (.node (.leaf z115) (.leaf z116))) (.node (.leaf z117) (.node (.leaf z118) (.leaf z119))))) (.node (.node (.node (.leaf z120) (.node (.leaf z121) (.leaf z123))) (.node (.leaf z124) (.node (.leaf z125) (.leaf z126)))) (.node (.node (.leaf z127) (.node (.leaf z128) (.leaf z129))) (.node (.leaf z130) (.node (.leaf z131) (.leaf z132)))))) (.node (.node (.node (.node (.leaf z133) (.leaf z134)) (.node (.leaf z135) (.node (.leaf z136) (.leaf z137)))) (.node (.node (.leaf z138) (.node (.leaf z139) (.leaf z140))) (.node (.leaf z141) (.node (.leaf z142) (.leaf z143))))) (.node (.node (.node (.leaf z144) (.node (.leaf z145) (.leaf z146))) (.node (.leaf z147) (.node (.leaf z149) (.leaf z150)))) (.node (.node (.leaf z151) (.node (.leaf z153) (.leaf z154))) (.node (.leaf z155) (.node (.leaf z157) (.leaf z158))))))) (.node (.node (.node (.node (.node (.leaf z159) (.leaf z160)) (.node (.leaf z161) (.node (.leaf z162) (.leaf z163)))) (.node (.node (.leaf z164) (.node (.leaf z165) (.leaf z166))) (.node (.leaf z167) (.node (.leaf z168) (.leaf z169))))) (.node (.node (.node (.leaf z170) (.node (.leaf z173) (.leaf z174))) (.node (.leaf z175) (.node (.leaf z176) (.leaf z177)))) (.node (.node (.leaf z178) (.node (.leaf z179) (.leaf z180))) (.node (.leaf z181) (.node (.leaf z183) (.leaf z184)))))) (.node (.node (.node (.node (.leaf z185) (.leaf z186)) (.node (.leaf z187) (.node (.leaf z188) (.leaf z189)))) (.node (.node (.leaf z190) (.node (.leaf z191) (.leaf z192))) (.node (.leaf z193) (.node (.leaf z194) (.leaf z195))))) (.node (.node (.node (.leaf z196) (.node (.leaf z197) (.leaf z198))) (.node (.leaf z199) (.node (.leaf z200) (.leaf z202)))) (.node (.node (.leaf z203) (.node (.leaf z204) (.leaf z205))) (.node (.leaf z206) (.node (.leaf z207) (.leaf z208))))))))) (.node (.node (.node (.node (.node (.node (.node (.leaf z209) (.leaf z210)) (.node (.leaf z211) (.node (.leaf z212) (.leaf z213)))) (.node (.node (.leaf z214) (.node (.leaf z215) (.leaf z216))) (.node (.leaf z217) (.node (.leaf z218) (.leaf z219))))) (.node (.node (.node (.leaf z221) (.node (.leaf z222) (.leaf z229))) (.node (.leaf z234) (.node (.leaf z237) (.leaf z250)))) (.node (.node (.leaf z251) (.node (.leaf z252) (.leaf z253))) (.node (.leaf z254) (.node (.leaf z255) (.leaf z256)))))) (.node (.node (.node (.node (.leaf z257) (.leaf z258)) (.node (.leaf z259) (.node (.leaf z260) (.leaf z262)))) (.node (.node (.leaf z263) (.node (.leaf z264) (.leaf z265))) (.node (.leaf z266) (.node (.leaf z271) (.leaf z272))))) (.node (.node (.node (.leaf z273) (.node (.leaf z274) (.leaf z276))) (.node (.leaf z277) (.node (.leaf z278) (.leaf z279)))) (.node (.node (.leaf z280) (.node (.leaf z281) (.leaf z282))) (.node (.leaf z283) (.node (.leaf z284) (.leaf z285))))))) (.node (.node (.node (.node (.node (.leaf z286) (.leaf z287)) (.node (.leaf z288) (.node (.leaf z289) (.leaf z290)))) (.node (.node (.leaf z291) (.node (.leaf z292) (.leaf z295))) (.node (.leaf z296) (.node (.leaf z298) (.leaf z299))))) (.node (.node (.node (.leaf z300) (.node (.leaf z303) (.leaf z310))) (.node (.leaf z311) (.node (.leaf z314) (.leaf z317)))) (.node (.node (.leaf z318) (.node (.leaf z319) (.leaf z320))) (.node (.leaf z321) (.node (.leaf z322) (.leaf z323)))))) (.node (.node (.node (.node (.leaf z324) (.leaf z325)) (.node (.leaf z326) (.node (.leaf z328) (.leaf z330)))) (.node (.node (.leaf z331) (.node (.leaf z332) (.leaf z333))) (.node (.leaf z334) (.node (.leaf z335) (.leaf z336))))) (.node (.node (.node (.leaf z337) (.node (.leaf z338) (.leaf z339))) (.node (.leaf z340) (.node (.leaf z341) (.leaf z342)))) (.node (.node (.leaf z343) (.node (.leaf z344) (.leaf z346))) (.node (.leaf z355) (.node (.leaf z357) (.leaf z358)))))))) (.node (.node (.node (.node (.node (.node (.leaf z360) (.leaf z363)) (.node (.leaf z364) (.node (.leaf z377) (.leaf z382)))) (.node (.node (.leaf z384) (.node (.leaf z385) (.leaf z386))) (.node (.leaf z387) (.node (.leaf z388) (.leaf z389))))) (.node (.node (.node (.leaf z390) (.node (.leaf z401) (.leaf z403))) (.node (.leaf z405) (.node (.leaf z406) (.leaf z407)))) (.node (.node (.leaf z408) (.node (.leaf z409) (.leaf z410))) (.node (.leaf z411) (.node (.leaf z412) (.leaf z415)))))) (.node (.node (.node (.node (.leaf z416) (.leaf z417)) (.node (.leaf z423) (.node (.leaf z424) (.leaf z425)))) (.node (.node (.leaf z430) (.node (.leaf z431) (.leaf z432))) (.node (.leaf z433) (.node (.leaf z434) (.leaf z461))))) (.node (.node (.node (.leaf z462) (.node (.leaf z463) (.leaf z464))) (.node (.leaf z465) (.node (.leaf z469) (.leaf z477)))) (.node (.node (.leaf z480) (.node (.leaf z496) (.leaf z498))) (.node (.leaf z501) (.node (.leaf z502) (.leaf z503))))))) (.node (.node (.node (.node (.node (.leaf z504) (.leaf z505)) (.node (.leaf z515) (.node (.leaf z516) (.leaf z517)))) (.node (.node (.leaf z518) (.node (.leaf z519) (.leaf z520))) (.node (.leaf z521) (.node (.leaf z522) (.leaf z523))))) (.node (.node (.node (.leaf z524) (.node (.leaf z525) (.leaf z526))) (.node (.leaf z527) (.node (.leaf z528) (.leaf z533)))) (.node (.node (.leaf z535) (.node (.leaf z536) (.leaf z537))) (.node (.leaf z559) (.node (.leaf z560) (.leaf z561)))))) (.node (.node (.node (.node (.leaf z563) (.node (.leaf z564) (.leaf z565))) (.node (.leaf z566) (.node (.leaf z568) (.leaf z570)))) (.node (.node (.leaf z571) (.node (.leaf z574) (.leaf z575))) (.node (.leaf z577) (.node (.leaf z579) (.leaf z580))))) (.node (.node (.node (.leaf z591) (.node (.leaf z593) (.leaf z607))) (.node (.leaf z608) (.node (.leaf z613) (.leaf z614)))) (.node (.node (.leaf z620) (.node (.leaf z639) (.leaf z640))) (.node (.leaf z641) (.node (.leaf z642) (.leaf z643))))))))))
end A3
