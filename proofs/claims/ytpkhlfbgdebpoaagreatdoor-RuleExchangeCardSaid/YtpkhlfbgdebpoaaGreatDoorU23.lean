/- The compiled functions are those of the program, third part. -/
import Derived.Test.YtpkhlfbgdebpoaaGreatDoorU21
import Derived.Test.YtpkhlfbgdebpoaaGreatDoorU10
import Derived.Test.YtpkhlfbgdebpoaaGreatDoorU11
namespace A3
open Y
open Go.Proofs
theorem z36 : Good 36 c36 := ⟨Tryz.f36, Tryz.func36, by kernel_rfl, by kernel_rfl⟩
theorem z37 : Good 37 c37 := ⟨Tryz.f37, Tryz.func37, by kernel_rfl, by kernel_rfl⟩
theorem z45 : Good 45 c45 := ⟨Tryz.f45, Tryz.func45, by kernel_rfl, by kernel_rfl⟩
theorem z47 : Good 47 c47 := ⟨Tryz.f47, Tryz.func47, by kernel_rfl, by kernel_rfl⟩
theorem z72 : Good 72 c72 := ⟨Tryz.f72, Tryz.func72, by kernel_rfl, by kernel_rfl⟩
theorem z75 : Good 75 c75 := ⟨Tryz.f75, Tryz.func75, by kernel_rfl, by kernel_rfl⟩
theorem z90 : Good 90 c90 := ⟨Tryz.f90, Tryz.func90, by kernel_rfl, by kernel_rfl⟩
theorem z98 : Good 98 c98 := ⟨Tryz.f98, Tryz.func98, by kernel_rfl, by kernel_rfl⟩
theorem z112 : Good 112 c112 := ⟨Tryz.f112, Tryz.func112, by kernel_rfl, by kernel_rfl⟩
theorem z118 : Good 118 c118 := ⟨Tryz.f118, Tryz.func118, by kernel_rfl, by kernel_rfl⟩
theorem z121 : Good 121 c121 := ⟨Tryz.f121, Tryz.func121, by kernel_rfl, by kernel_rfl⟩
theorem z124 : Good 124 c124 := ⟨Tryz.f124, Tryz.func124, by kernel_rfl, by kernel_rfl⟩
theorem z127 : Good 127 c127 := ⟨Tryz.f127, Tryz.func127, by kernel_rfl, by kernel_rfl⟩
theorem z129 : Good 129 c129 := ⟨Tryz.f129, Tryz.func129, by kernel_rfl, by kernel_rfl⟩
theorem z132 : Good 132 c132 := ⟨Tryz.f132, Tryz.func132, by kernel_rfl, by kernel_rfl⟩
theorem z133 : Good 133 c133 := ⟨Tryz.f133, Tryz.func133, by kernel_rfl, by kernel_rfl⟩
theorem z137 : Good 137 c137 := ⟨Tryz.f137, Tryz.func137, by kernel_rfl, by kernel_rfl⟩
theorem z139 : Good 139 c139 := ⟨Tryz.f139, Tryz.func139, by kernel_rfl, by kernel_rfl⟩
theorem z146 : Good 146 c146 := ⟨Tryz.f146, Tryz.func146, by kernel_rfl, by kernel_rfl⟩
theorem z147 : Good 147 c147 := ⟨Tryz.f147, Tryz.func147, by kernel_rfl, by kernel_rfl⟩
theorem z154 : Good 154 c154 := ⟨Tryz.f154, Tryz.func154, by kernel_rfl, by kernel_rfl⟩
theorem z166 : Good 166 c166 := ⟨Tryz.f166, Tryz.func166, by kernel_rfl, by kernel_rfl⟩
theorem z169 : Good 169 c169 := ⟨Tryz.f169, Tryz.func169, by kernel_rfl, by kernel_rfl⟩
theorem z180 : Good 180 c180 := ⟨Tryz.f180, Tryz.func180, by kernel_rfl, by kernel_rfl⟩
theorem z184 : Good 184 c184 := ⟨Tryz.f184, Tryz.func184, by kernel_rfl, by kernel_rfl⟩
theorem z200 : Good 200 c200 := ⟨Tryz.f200, Tryz.func200, by kernel_rfl, by kernel_rfl⟩
theorem z215 : Good 215 c215 := ⟨Tryz.f215, Tryz.func215, by kernel_rfl, by kernel_rfl⟩
theorem z265 : Good 265 c265 := ⟨Tryz.f265, Tryz.func265, by kernel_rfl, by kernel_rfl⟩
theorem z272 : Good 272 c272 := ⟨Tryz.f272, Tryz.func272, by kernel_rfl, by kernel_rfl⟩
theorem z320 : Good 320 c320 := ⟨Tryz.f320, Tryz.func320, by kernel_rfl, by kernel_rfl⟩
theorem z322 : Good 322 c322 := ⟨Tryz.f322, Tryz.func322, by kernel_rfl, by kernel_rfl⟩
theorem z330 : Good 330 c330 := ⟨Tryz.f330, Tryz.func330, by kernel_rfl, by kernel_rfl⟩
theorem z332 : Good 332 c332 := ⟨Tryz.f332, Tryz.func332, by kernel_rfl, by kernel_rfl⟩
theorem z342 : Good 342 c342 := ⟨Tryz.f342, Tryz.func342, by kernel_rfl, by kernel_rfl⟩
theorem z343 : Good 343 c343 := ⟨Tryz.f343, Tryz.func343, by kernel_rfl, by kernel_rfl⟩
theorem z363 : Good 363 c363 := ⟨Tryz.f363, Tryz.func363, by kernel_rfl, by kernel_rfl⟩
theorem z416 : Good 416 c416 := ⟨Tryz.f416, Tryz.func416, by kernel_rfl, by kernel_rfl⟩
theorem z417 : Good 417 c417 := ⟨Tryz.f417, Tryz.func417, by kernel_rfl, by kernel_rfl⟩
theorem z424 : Good 424 c424 := ⟨Tryz.f424, Tryz.func424, by kernel_rfl, by kernel_rfl⟩
theorem z461 : Good 461 c461 := ⟨Tryz.f461, Tryz.func461, by kernel_rfl, by kernel_rfl⟩
theorem z496 : Good 496 c496 := ⟨Tryz.f496, Tryz.func496, by kernel_rfl, by kernel_rfl⟩
theorem z498 : Good 498 c498 := ⟨Tryz.f498, Tryz.func498, by kernel_rfl, by kernel_rfl⟩
theorem z518 : Good 518 c518 := ⟨Tryz.f518, Tryz.func518, by kernel_rfl, by kernel_rfl⟩
theorem z523 : Good 523 c523 := ⟨Tryz.f523, Tryz.func523, by kernel_rfl, by kernel_rfl⟩
theorem z580 : Good 580 c580 := ⟨Tryz.f580, Tryz.func580, by kernel_rfl, by kernel_rfl⟩
theorem z613 : Good 613 c613 := ⟨Tryz.f613, Tryz.func613, by kernel_rfl, by kernel_rfl⟩
theorem z641 : Good 641 c641 := ⟨Tryz.f641, Tryz.func641, by kernel_rfl, by kernel_rfl⟩
end A3
namespace A3
open Y
open Go.Proofs
theorem z20 : Good 20 c20 := ⟨Tryz.f20, Tryz.func20, by kernel_rfl, by kernel_rfl⟩
theorem z21 : Good 21 c21 := ⟨Tryz.f21, Tryz.func21, by kernel_rfl, by kernel_rfl⟩
theorem z26 : Good 26 c26 := ⟨Tryz.f26, Tryz.func26, by kernel_rfl, by kernel_rfl⟩
theorem z58 : Good 58 c58 := ⟨Tryz.f58, Tryz.func58, by kernel_rfl, by kernel_rfl⟩
theorem z62 : Good 62 c62 := ⟨Tryz.f62, Tryz.func62, by kernel_rfl, by kernel_rfl⟩
theorem z63 : Good 63 c63 := ⟨Tryz.f63, Tryz.func63, by kernel_rfl, by kernel_rfl⟩
theorem z71 : Good 71 c71 := ⟨Tryz.f71, Tryz.func71, by kernel_rfl, by kernel_rfl⟩
theorem z78 : Good 78 c78 := ⟨Tryz.f78, Tryz.func78, by kernel_rfl, by kernel_rfl⟩
theorem z85 : Good 85 c85 := ⟨Tryz.f85, Tryz.func85, by kernel_rfl, by kernel_rfl⟩
theorem z89 : Good 89 c89 := ⟨Tryz.f89, Tryz.func89, by kernel_rfl, by kernel_rfl⟩
theorem z101 : Good 101 c101 := ⟨Tryz.f101, Tryz.func101, by kernel_rfl, by kernel_rfl⟩
theorem z109 : Good 109 c109 := ⟨Tryz.f109, Tryz.func109, by kernel_rfl, by kernel_rfl⟩
theorem z111 : Good 111 c111 := ⟨Tryz.f111, Tryz.func111, by kernel_rfl, by kernel_rfl⟩
theorem z114 : Good 114 c114 := ⟨Tryz.f114, Tryz.func114, by kernel_rfl, by kernel_rfl⟩
theorem z126 : Good 126 c126 := ⟨Tryz.f126, Tryz.func126, by kernel_rfl, by kernel_rfl⟩
theorem z128 : Good 128 c128 := ⟨Tryz.f128, Tryz.func128, by kernel_rfl, by kernel_rfl⟩
theorem z135 : Good 135 c135 := ⟨Tryz.f135, Tryz.func135, by kernel_rfl, by kernel_rfl⟩
theorem z140 : Good 140 c140 := ⟨Tryz.f140, Tryz.func140, by kernel_rfl, by kernel_rfl⟩
theorem z163 : Good 163 c163 := ⟨Tryz.f163, Tryz.func163, by kernel_rfl, by kernel_rfl⟩
theorem z167 : Good 167 c167 := ⟨Tryz.f167, Tryz.func167, by kernel_rfl, by kernel_rfl⟩
theorem z176 : Good 176 c176 := ⟨Tryz.f176, Tryz.func176, by kernel_rfl, by kernel_rfl⟩
theorem z179 : Good 179 c179 := ⟨Tryz.f179, Tryz.func179, by kernel_rfl, by kernel_rfl⟩
theorem z189 : Good 189 c189 := ⟨Tryz.f189, Tryz.func189, by kernel_rfl, by kernel_rfl⟩
theorem z197 : Good 197 c197 := ⟨Tryz.f197, Tryz.func197, by kernel_rfl, by kernel_rfl⟩
theorem z202 : Good 202 c202 := ⟨Tryz.f202, Tryz.func202, by kernel_rfl, by kernel_rfl⟩
theorem z206 : Good 206 c206 := ⟨Tryz.f206, Tryz.func206, by kernel_rfl, by kernel_rfl⟩
theorem z218 : Good 218 c218 := ⟨Tryz.f218, Tryz.func218, by kernel_rfl, by kernel_rfl⟩
theorem z222 : Good 222 c222 := ⟨Tryz.f222, Tryz.func222, by kernel_rfl, by kernel_rfl⟩
theorem z254 : Good 254 c254 := ⟨Tryz.f254, Tryz.func254, by kernel_rfl, by kernel_rfl⟩
theorem z257 : Good 257 c257 := ⟨Tryz.f257, Tryz.func257, by kernel_rfl, by kernel_rfl⟩
theorem z260 : Good 260 c260 := ⟨Tryz.f260, Tryz.func260, by kernel_rfl, by kernel_rfl⟩
theorem z266 : Good 266 c266 := ⟨Tryz.f266, Tryz.func266, by kernel_rfl, by kernel_rfl⟩
theorem z276 : Good 276 c276 := ⟨Tryz.f276, Tryz.func276, by kernel_rfl, by kernel_rfl⟩
theorem z288 : Good 288 c288 := ⟨Tryz.f288, Tryz.func288, by kernel_rfl, by kernel_rfl⟩
theorem z295 : Good 295 c295 := ⟨Tryz.f295, Tryz.func295, by kernel_rfl, by kernel_rfl⟩
theorem z296 : Good 296 c296 := ⟨Tryz.f296, Tryz.func296, by kernel_rfl, by kernel_rfl⟩
theorem z300 : Good 300 c300 := ⟨Tryz.f300, Tryz.func300, by kernel_rfl, by kernel_rfl⟩
theorem z358 : Good 358 c358 := ⟨Tryz.f358, Tryz.func358, by kernel_rfl, by kernel_rfl⟩
theorem z432 : Good 432 c432 := ⟨Tryz.f432, Tryz.func432, by kernel_rfl, by kernel_rfl⟩
theorem z501 : Good 501 c501 := ⟨Tryz.f501, Tryz.func501, by kernel_rfl, by kernel_rfl⟩
theorem z516 : Good 516 c516 := ⟨Tryz.f516, Tryz.func516, by kernel_rfl, by kernel_rfl⟩
theorem z517 : Good 517 c517 := ⟨Tryz.f517, Tryz.func517, by kernel_rfl, by kernel_rfl⟩
theorem z533 : Good 533 c533 := ⟨Tryz.f533, Tryz.func533, by kernel_rfl, by kernel_rfl⟩
theorem z560 : Good 560 c560 := ⟨Tryz.f560, Tryz.func560, by kernel_rfl, by kernel_rfl⟩
theorem z563 : Good 563 c563 := ⟨Tryz.f563, Tryz.func563, by kernel_rfl, by kernel_rfl⟩
theorem z639 : Good 639 c639 := ⟨Tryz.f639, Tryz.func639, by kernel_rfl, by kernel_rfl⟩
theorem z642 : Good 642 c642 := ⟨Tryz.f642, Tryz.func642, by kernel_rfl, by kernel_rfl⟩
end A3
