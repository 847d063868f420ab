/- The compiled functions are those of the program, second part. -/
import Derived.Test.YtpkhlfbgdebpoaaGreatDoorU21
import Derived.Test.YtpkhlfbgdebpoaaGreatDoorU10
import Derived.Test.YtpkhlfbgdebpoaaGreatDoorU11
namespace A3
open Y
open Go.Proofs
theorem z8 : Good 8 c8 := ⟨Tryz.f8, Tryz.func8, by kernel_rfl, by kernel_rfl⟩
theorem z10 : Good 10 c10 := ⟨Tryz.f10, Tryz.func10, by kernel_rfl, by kernel_rfl⟩
theorem z15 : Good 15 c15 := ⟨Tryz.f15, Tryz.func15, by kernel_rfl, by kernel_rfl⟩
theorem z24 : Good 24 c24 := ⟨Tryz.f24, Tryz.func24, by kernel_rfl, by kernel_rfl⟩
theorem z32 : Good 32 c32 := ⟨Tryz.f32, Tryz.func32, by kernel_rfl, by kernel_rfl⟩
theorem z39 : Good 39 c39 := ⟨Tryz.f39, Tryz.func39, by kernel_rfl, by kernel_rfl⟩
theorem z86 : Good 86 c86 := ⟨Tryz.f86, Tryz.func86, by kernel_rfl, by kernel_rfl⟩
theorem z96 : Good 96 c96 := ⟨Tryz.f96, Tryz.func96, by kernel_rfl, by kernel_rfl⟩
theorem z97 : Good 97 c97 := ⟨Tryz.f97, Tryz.func97, by kernel_rfl, by kernel_rfl⟩
theorem z104 : Good 104 c104 := ⟨Tryz.f104, Tryz.func104, by kernel_rfl, by kernel_rfl⟩
theorem z107 : Good 107 c107 := ⟨Tryz.f107, Tryz.func107, by kernel_rfl, by kernel_rfl⟩
theorem z108 : Good 108 c108 := ⟨Tryz.f108, Tryz.func108, by kernel_rfl, by kernel_rfl⟩
theorem z134 : Good 134 c134 := ⟨Tryz.f134, Tryz.func134, by kernel_rfl, by kernel_rfl⟩
theorem z142 : Good 142 c142 := ⟨Tryz.f142, Tryz.func142, by kernel_rfl, by kernel_rfl⟩
theorem z149 : Good 149 c149 := ⟨Tryz.f149, Tryz.func149, by kernel_rfl, by kernel_rfl⟩
theorem z157 : Good 157 c157 := ⟨Tryz.f157, Tryz.func157, by kernel_rfl, by kernel_rfl⟩
theorem z164 : Good 164 c164 := ⟨Tryz.f164, Tryz.func164, by kernel_rfl, by kernel_rfl⟩
theorem z173 : Good 173 c173 := ⟨Tryz.f173, Tryz.func173, by kernel_rfl, by kernel_rfl⟩
theorem z175 : Good 175 c175 := ⟨Tryz.f175, Tryz.func175, by kernel_rfl, by kernel_rfl⟩
theorem z177 : Good 177 c177 := ⟨Tryz.f177, Tryz.func177, by kernel_rfl, by kernel_rfl⟩
theorem z178 : Good 178 c178 := ⟨Tryz.f178, Tryz.func178, by kernel_rfl, by kernel_rfl⟩
theorem z181 : Good 181 c181 := ⟨Tryz.f181, Tryz.func181, by kernel_rfl, by kernel_rfl⟩
theorem z183 : Good 183 c183 := ⟨Tryz.f183, Tryz.func183, by kernel_rfl, by kernel_rfl⟩
theorem z203 : Good 203 c203 := ⟨Tryz.f203, Tryz.func203, by kernel_rfl, by kernel_rfl⟩
theorem z212 : Good 212 c212 := ⟨Tryz.f212, Tryz.func212, by kernel_rfl, by kernel_rfl⟩
theorem z234 : Good 234 c234 := ⟨Tryz.f234, Tryz.func234, by kernel_rfl, by kernel_rfl⟩
theorem z256 : Good 256 c256 := ⟨Tryz.f256, Tryz.func256, by kernel_rfl, by kernel_rfl⟩
theorem z259 : Good 259 c259 := ⟨Tryz.f259, Tryz.func259, by kernel_rfl, by kernel_rfl⟩
theorem z274 : Good 274 c274 := ⟨Tryz.f274, Tryz.func274, by kernel_rfl, by kernel_rfl⟩
theorem z278 : Good 278 c278 := ⟨Tryz.f278, Tryz.func278, by kernel_rfl, by kernel_rfl⟩
theorem z289 : Good 289 c289 := ⟨Tryz.f289, Tryz.func289, by kernel_rfl, by kernel_rfl⟩
theorem z292 : Good 292 c292 := ⟨Tryz.f292, Tryz.func292, by kernel_rfl, by kernel_rfl⟩
theorem z311 : Good 311 c311 := ⟨Tryz.f311, Tryz.func311, by kernel_rfl, by kernel_rfl⟩
theorem z317 : Good 317 c317 := ⟨Tryz.f317, Tryz.func317, by kernel_rfl, by kernel_rfl⟩
theorem z355 : Good 355 c355 := ⟨Tryz.f355, Tryz.func355, by kernel_rfl, by kernel_rfl⟩
theorem z382 : Good 382 c382 := ⟨Tryz.f382, Tryz.func382, by kernel_rfl, by kernel_rfl⟩
theorem z390 : Good 390 c390 := ⟨Tryz.f390, Tryz.func390, by kernel_rfl, by kernel_rfl⟩
theorem z405 : Good 405 c405 := ⟨Tryz.f405, Tryz.func405, by kernel_rfl, by kernel_rfl⟩
theorem z407 : Good 407 c407 := ⟨Tryz.f407, Tryz.func407, by kernel_rfl, by kernel_rfl⟩
theorem z409 : Good 409 c409 := ⟨Tryz.f409, Tryz.func409, by kernel_rfl, by kernel_rfl⟩
theorem z411 : Good 411 c411 := ⟨Tryz.f411, Tryz.func411, by kernel_rfl, by kernel_rfl⟩
theorem z433 : Good 433 c433 := ⟨Tryz.f433, Tryz.func433, by kernel_rfl, by kernel_rfl⟩
theorem z527 : Good 527 c527 := ⟨Tryz.f527, Tryz.func527, by kernel_rfl, by kernel_rfl⟩
theorem z574 : Good 574 c574 := ⟨Tryz.f574, Tryz.func574, by kernel_rfl, by kernel_rfl⟩
theorem z577 : Good 577 c577 := ⟨Tryz.f577, Tryz.func577, by kernel_rfl, by kernel_rfl⟩
theorem z579 : Good 579 c579 := ⟨Tryz.f579, Tryz.func579, by kernel_rfl, by kernel_rfl⟩
end A3
namespace A3
open Y
open Go.Proofs
theorem z6 : Good 6 c6 := ⟨Tryz.f6, Tryz.func6, by kernel_rfl, by kernel_rfl⟩
theorem z13 : Good 13 c13 := ⟨Tryz.f13, Tryz.func13, by kernel_rfl, by kernel_rfl⟩
theorem z23 : Good 23 c23 := ⟨Tryz.f23, Tryz.func23, by kernel_rfl, by kernel_rfl⟩
theorem z34 : Good 34 c34 := ⟨Tryz.f34, Tryz.func34, by kernel_rfl, by kernel_rfl⟩
theorem z52 : Good 52 c52 := ⟨Tryz.f52, Tryz.func52, by kernel_rfl, by kernel_rfl⟩
theorem z59 : Good 59 c59 := ⟨Tryz.f59, Tryz.func59, by kernel_rfl, by kernel_rfl⟩
theorem z68 : Good 68 c68 := ⟨Tryz.f68, Tryz.func68, by kernel_rfl, by kernel_rfl⟩
theorem z81 : Good 81 c81 := ⟨Tryz.f81, Tryz.func81, by kernel_rfl, by kernel_rfl⟩
theorem z82 : Good 82 c82 := ⟨Tryz.f82, Tryz.func82, by kernel_rfl, by kernel_rfl⟩
theorem z84 : Good 84 c84 := ⟨Tryz.f84, Tryz.func84, by kernel_rfl, by kernel_rfl⟩
theorem z110 : Good 110 c110 := ⟨Tryz.f110, Tryz.func110, by kernel_rfl, by kernel_rfl⟩
theorem z117 : Good 117 c117 := ⟨Tryz.f117, Tryz.func117, by kernel_rfl, by kernel_rfl⟩
theorem z143 : Good 143 c143 := ⟨Tryz.f143, Tryz.func143, by kernel_rfl, by kernel_rfl⟩
theorem z151 : Good 151 c151 := ⟨Tryz.f151, Tryz.func151, by kernel_rfl, by kernel_rfl⟩
theorem z159 : Good 159 c159 := ⟨Tryz.f159, Tryz.func159, by kernel_rfl, by kernel_rfl⟩
theorem z160 : Good 160 c160 := ⟨Tryz.f160, Tryz.func160, by kernel_rfl, by kernel_rfl⟩
theorem z186 : Good 186 c186 := ⟨Tryz.f186, Tryz.func186, by kernel_rfl, by kernel_rfl⟩
theorem z191 : Good 191 c191 := ⟨Tryz.f191, Tryz.func191, by kernel_rfl, by kernel_rfl⟩
theorem z210 : Good 210 c210 := ⟨Tryz.f210, Tryz.func210, by kernel_rfl, by kernel_rfl⟩
theorem z255 : Good 255 c255 := ⟨Tryz.f255, Tryz.func255, by kernel_rfl, by kernel_rfl⟩
theorem z280 : Good 280 c280 := ⟨Tryz.f280, Tryz.func280, by kernel_rfl, by kernel_rfl⟩
theorem z281 : Good 281 c281 := ⟨Tryz.f281, Tryz.func281, by kernel_rfl, by kernel_rfl⟩
theorem z303 : Good 303 c303 := ⟨Tryz.f303, Tryz.func303, by kernel_rfl, by kernel_rfl⟩
theorem z323 : Good 323 c323 := ⟨Tryz.f323, Tryz.func323, by kernel_rfl, by kernel_rfl⟩
theorem z324 : Good 324 c324 := ⟨Tryz.f324, Tryz.func324, by kernel_rfl, by kernel_rfl⟩
theorem z334 : Good 334 c334 := ⟨Tryz.f334, Tryz.func334, by kernel_rfl, by kernel_rfl⟩
theorem z336 : Good 336 c336 := ⟨Tryz.f336, Tryz.func336, by kernel_rfl, by kernel_rfl⟩
theorem z344 : Good 344 c344 := ⟨Tryz.f344, Tryz.func344, by kernel_rfl, by kernel_rfl⟩
theorem z360 : Good 360 c360 := ⟨Tryz.f360, Tryz.func360, by kernel_rfl, by kernel_rfl⟩
theorem z384 : Good 384 c384 := ⟨Tryz.f384, Tryz.func384, by kernel_rfl, by kernel_rfl⟩
theorem z387 : Good 387 c387 := ⟨Tryz.f387, Tryz.func387, by kernel_rfl, by kernel_rfl⟩
theorem z388 : Good 388 c388 := ⟨Tryz.f388, Tryz.func388, by kernel_rfl, by kernel_rfl⟩
theorem z423 : Good 423 c423 := ⟨Tryz.f423, Tryz.func423, by kernel_rfl, by kernel_rfl⟩
theorem z431 : Good 431 c431 := ⟨Tryz.f431, Tryz.func431, by kernel_rfl, by kernel_rfl⟩
theorem z464 : Good 464 c464 := ⟨Tryz.f464, Tryz.func464, by kernel_rfl, by kernel_rfl⟩
theorem z469 : Good 469 c469 := ⟨Tryz.f469, Tryz.func469, by kernel_rfl, by kernel_rfl⟩
theorem z502 : Good 502 c502 := ⟨Tryz.f502, Tryz.func502, by kernel_rfl, by kernel_rfl⟩
theorem z504 : Good 504 c504 := ⟨Tryz.f504, Tryz.func504, by kernel_rfl, by kernel_rfl⟩
theorem z519 : Good 519 c519 := ⟨Tryz.f519, Tryz.func519, by kernel_rfl, by kernel_rfl⟩
theorem z522 : Good 522 c522 := ⟨Tryz.f522, Tryz.func522, by kernel_rfl, by kernel_rfl⟩
theorem z524 : Good 524 c524 := ⟨Tryz.f524, Tryz.func524, by kernel_rfl, by kernel_rfl⟩
theorem z559 : Good 559 c559 := ⟨Tryz.f559, Tryz.func559, by kernel_rfl, by kernel_rfl⟩
theorem z607 : Good 607 c607 := ⟨Tryz.f607, Tryz.func607, by kernel_rfl, by kernel_rfl⟩
theorem z614 : Good 614 c614 := ⟨Tryz.f614, Tryz.func614, by kernel_rfl, by kernel_rfl⟩
theorem z620 : Good 620 c620 := ⟨Tryz.f620, Tryz.func620, by kernel_rfl, by kernel_rfl⟩
end A3
