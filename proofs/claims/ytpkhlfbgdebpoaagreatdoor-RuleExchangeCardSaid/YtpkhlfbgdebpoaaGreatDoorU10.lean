/- The compiled functions, first part. -/
import Derived.Test.YtpkhlfbgdebpoaaGreatDoorU01
namespace A3
inductive Tr (α : Type) where
  | leaf (n : Nat) (a : α)
  | node (k : Nat) (l r : Tr α)
noncomputable def Tr.find {α : Type} (t : Tr α) (n : Nat) : Option α := Tr.rec (motive := fun _ => Nat → Option α) (fun m a n => match Nat.beq m n with | true => some a | false => none) (fun k _ _ l r n => match Nat.blt n k with | true => l n | false => r n) t n
inductive Tr.All {α : Type} (Q : Nat → α → Prop) : Tr α → Prop where
  | leaf {n : Nat} {a : α} (h : Q n a) : Tr.All Q (.leaf n a)
  | node {k : Nat} {l r : Tr α} (h : Tr.All Q l) (h' : Tr.All Q r) : Tr.All Q (.node k l r)
theorem Tr.find_all {α : Type} {Q : Nat → α → Prop} {t : Tr α} (h : t.All Q) {n : Nat} {a : α} (e : t.find n = some a) : Q n a := by
  induction h with
  | @leaf m b hq =>
    have e : (match Nat.beq m n with | true => some b | false => none) = some a := e
    cases hb : Nat.beq m n with
    | false => rw [hb] at e; cases e
    | true => rw [hb] at e; cases e; rw [← Nat.eq_of_beq_eq_true hb]; exact hq
  | @node k l r _ _ ihl ihr =>
    have e : (match Nat.blt n k with | true => l.find n | false => r.find n) = some a := e
    cases hb : Nat.blt n k with
    | false => rw [hb] at e; exact ihr e
    | true => rw [hb] at e; exact ihl e
end A3
namespace A3.Y
open Go
def q0 : Pos := .s .A .A .A .A
def q1 : Pos := .s .A .A .A .B
def q2 : Pos := .s .A .A .A .C
def q3 : Pos := .s .A .A .A .E
def q4 : Pos := .s .A .A .B .A
def q5 : Pos := .s .A .A .B .B
def q6 : Pos := .s .A .A .B .C
def q7 : Pos := .s .A .A .B .E
def q8 : Pos := .s .A .A .C .A
def q9 : Pos := .s .A .A .C .B
def q10 : Pos := .s .A .A .C .C
def q11 : Pos := .s .A .A .C .E
def q12 : Pos := .s .A .A .E .A
def q13 : Pos := .s .A .A .E .B
def q14 : Pos := .s .A .A .E .C
def q15 : Pos := .s .A .A .E .E
def q16 : Pos := .s .A .B .A .A
def q17 : Pos := .s .A .B .A .B
def q18 : Pos := .s .A .B .A .C
def q19 : Pos := .s .A .B .A .E
def q20 : Pos := .s .A .B .B .A
def q21 : Pos := .s .A .B .B .B
def q22 : Pos := .s .A .B .B .C
def q23 : Pos := .s .A .B .B .E
def q24 : Pos := .s .A .B .C .A
def q25 : Pos := .s .A .B .C .B
def q26 : Pos := .s .A .B .C .C
def q27 : Pos := .s .A .B .C .E
def q28 : Pos := .s .A .B .E .A
def q29 : Pos := .s .A .B .E .B
def q30 : Pos := .s .A .B .E .C
def q31 : Pos := .s .A .B .E .E
def q32 : Pos := .s .A .C .A .A
def q33 : Pos := .s .A .C .A .B
def q34 : Pos := .s .A .C .A .C
def q35 : Pos := .s .A .C .A .E
def q36 : Pos := .s .A .C .B .A
def q37 : Pos := .s .A .C .B .B
def q38 : Pos := .s .A .C .B .C
def q39 : Pos := .s .A .C .B .E
def q40 : Pos := .s .A .C .C .A
def q41 : Pos := .s .A .C .C .B
def q42 : Pos := .s .A .C .C .C
def q43 : Pos := .s .A .C .C .E
def q44 : Pos := .s .A .C .E .A
def q45 : Pos := .s .A .C .E .B
def q46 : Pos := .s .A .C .E .C
def q47 : Pos := .s .A .C .E .E
def q48 : Pos := .s .A .E .A .A
def q49 : Pos := .s .A .E .A .B
def q50 : Pos := .s .A .E .A .C
def q51 : Pos := .s .A .E .A .E
def q52 : Pos := .s .A .E .B .A
def q53 : Pos := .s .A .E .B .B
def q54 : Pos := .s .A .E .B .C
def q55 : Pos := .s .A .E .B .E
def q56 : Pos := .s .A .E .C .A
def q57 : Pos := .s .A .E .C .B
def q58 : Pos := .s .A .E .C .C
def q59 : Pos := .s .A .E .C .E
def q60 : Pos := .s .A .E .E .A
def q61 : Pos := .s .A .E .E .B
def q62 : Pos := .s .A .E .E .C
def q63 : Pos := .s .A .E .E .E
def q64 : Pos := .s .B .A .A .A
def q65 : Pos := .s .B .A .A .B
def q66 : Pos := .s .B .A .A .C
def q67 : Pos := .s .B .A .A .E
def q68 : Pos := .s .B .A .B .A
def q69 : Pos := .s .B .A .B .B
def q70 : Pos := .s .B .A .B .C
def q71 : Pos := .s .B .A .B .E
def q72 : Pos := .s .B .A .C .A
def q73 : Pos := .s .B .A .C .B
def q74 : Pos := .s .B .A .C .C
def q75 : Pos := .s .B .A .C .E
def q76 : Pos := .s .B .A .E .A
def q77 : Pos := .s .B .A .E .B
def q78 : Pos := .s .B .A .E .C
def q79 : Pos := .s .B .A .E .E
def q80 : Pos := .s .B .B .A .A
def q81 : Pos := .s .B .B .A .B
def q82 : Pos := .s .B .B .A .C
def q83 : Pos := .s .B .B .A .E
def q84 : Pos := .s .B .B .B .A
def q85 : Pos := .s .B .B .B .B
def q86 : Pos := .s .B .B .B .C
def q87 : Pos := .s .B .B .B .E
def q88 : Pos := .s .B .B .C .A
def q89 : Pos := .s .B .B .C .B
def q90 : Pos := .s .B .B .C .C
def q91 : Pos := .s .B .B .C .E
def q92 : Pos := .s .B .B .E .A
def q93 : Pos := .s .B .B .E .B
def q94 : Pos := .s .B .B .E .C
def q95 : Pos := .s .B .B .E .E
def q96 : Pos := .s .B .C .A .A
def q97 : Pos := .s .B .C .A .B
def q98 : Pos := .s .B .C .A .C
def q99 : Pos := .s .B .C .A .E
def q100 : Pos := .s .B .C .B .A
def q101 : Pos := .s .B .C .B .B
def q102 : Pos := .s .B .C .B .C
def q103 : Pos := .s .B .C .B .E
def q104 : Pos := .s .B .C .C .A
def q105 : Pos := .s .B .C .C .B
def q106 : Pos := .s .B .C .C .C
def q107 : Pos := .s .B .C .C .E
def q108 : Pos := .s .B .C .E .A
def q109 : Pos := .s .B .C .E .B
def q110 : Pos := .s .B .C .E .C
def q111 : Pos := .s .B .C .E .E
def q112 : Pos := .s .B .E .A .A
def q113 : Pos := .s .B .E .A .B
def q114 : Pos := .s .B .E .A .C
def q115 : Pos := .s .B .E .A .E
def q116 : Pos := .s .B .E .B .A
def q117 : Pos := .s .B .E .B .B
def q118 : Pos := .s .B .E .B .C
def q119 : Pos := .s .B .E .B .E
def q120 : Pos := .s .B .E .C .A
def q121 : Pos := .s .B .E .C .B
def q122 : Pos := .s .B .E .C .C
def q123 : Pos := .s .B .E .C .E
def q124 : Pos := .s .B .E .E .A
def q125 : Pos := .s .B .E .E .B
def q126 : Pos := .s .B .E .E .C
def q127 : Pos := .s .B .E .E .E
def q128 : Pos := .s .C .A .A .A
def q129 : Pos := .s .C .A .A .B
def q130 : Pos := .s .C .A .A .C
def q131 : Pos := .s .C .A .A .E
def q132 : Pos := .s .C .A .B .A
def q133 : Pos := .s .C .A .B .B
def q134 : Pos := .s .C .A .B .C
def q135 : Pos := .s .C .A .B .E
def q136 : Pos := .s .C .A .C .A
def q137 : Pos := .s .C .A .C .B
def q138 : Pos := .s .C .A .C .C
def q139 : Pos := .s .C .A .C .E
def q140 : Pos := .s .C .A .E .A
def q141 : Pos := .s .C .A .E .B
def q142 : Pos := .s .C .A .E .C
def q143 : Pos := .s .C .A .E .E
def q144 : Pos := .s .C .B .A .A
def q145 : Pos := .s .C .B .A .B
def q146 : Pos := .s .C .B .A .C
def q147 : Pos := .s .C .B .A .E
def q148 : Pos := .s .C .B .B .A
def q149 : Pos := .s .C .B .B .B
def q150 : Pos := .s .C .B .B .C
def q151 : Pos := .s .C .B .B .E
def q152 : Pos := .s .C .B .C .A
def q153 : Pos := .s .C .B .C .B
def q154 : Pos := .s .C .B .C .C
def q155 : Pos := .s .C .B .C .E
def q156 : Pos := .s .C .B .E .A
def q157 : Pos := .s .C .B .E .B
def q158 : Pos := .s .C .B .E .C
def q159 : Pos := .s .C .B .E .E
def q160 : Pos := .s .C .C .A .A
def q161 : Pos := .s .C .C .A .B
def q162 : Pos := .s .C .C .A .C
def q163 : Pos := .s .C .C .A .E
def q164 : Pos := .s .C .C .B .A
def q165 : Pos := .s .C .C .B .B
def q166 : Pos := .s .C .C .B .C
def q167 : Pos := .s .C .C .B .E
def q168 : Pos := .s .C .C .C .A
def q169 : Pos := .s .C .C .C .B
def q170 : Pos := .s .C .C .C .C
def q171 : Pos := .s .C .C .C .E
def q172 : Pos := .s .C .C .E .A
def q173 : Pos := .s .C .C .E .B
def q174 : Pos := .s .C .C .E .C
def q175 : Pos := .s .C .C .E .E
def q176 : Pos := .s .C .E .A .A
def q177 : Pos := .s .C .E .A .B
def q178 : Pos := .s .C .E .A .C
def q179 : Pos := .s .C .E .A .E
def q180 : Pos := .s .C .E .B .A
def q181 : Pos := .s .C .E .B .B
def q182 : Pos := .s .C .E .B .C
def q183 : Pos := .s .C .E .B .E
def q184 : Pos := .s .C .E .C .A
def q185 : Pos := .s .C .E .C .B
def q186 : Pos := .s .C .E .C .C
def q187 : Pos := .s .C .E .C .E
def q188 : Pos := .s .C .E .E .A
def q189 : Pos := .s .C .E .E .B
def q190 : Pos := .s .C .E .E .C
def q191 : Pos := .s .C .E .E .E
def q192 : Pos := .s .E .A .A .A
def q193 : Pos := .s .E .A .A .B
def q194 : Pos := .s .E .A .A .C
def q195 : Pos := .s .E .A .A .E
def q196 : Pos := .s .E .A .B .A
def q197 : Pos := .s .E .A .B .B
def q198 : Pos := .s .E .A .B .C
def q199 : Pos := .s .E .A .B .E
def q200 : Pos := .s .E .A .C .A
def q201 : Pos := .s .E .A .C .B
def q202 : Pos := .s .E .A .C .C
def q203 : Pos := .s .E .A .C .E
def q204 : Pos := .s .E .A .E .A
def q205 : Pos := .s .E .A .E .B
def q206 : Pos := .s .E .A .E .C
def q207 : Pos := .s .E .A .E .E
def q208 : Pos := .s .E .B .A .A
def q209 : Pos := .s .E .B .A .B
def q210 : Pos := .s .E .B .A .C
def q211 : Pos := .s .E .B .A .E
def q212 : Pos := .s .E .B .B .A
def q213 : Pos := .s .E .B .B .B
def q214 : Pos := .s .E .B .B .C
def q215 : Pos := .s .E .B .B .E
def q216 : Pos := .s .E .B .C .A
def q217 : Pos := .s .E .B .C .B
def q218 : Pos := .s .E .B .C .C
def q219 : Pos := .s .E .B .C .E
def q220 : Pos := .s .E .B .E .A
def q221 : Pos := .s .E .B .E .B
def q222 : Pos := .s .E .B .E .C
def q223 : Pos := .s .E .B .E .E
def q224 : Pos := .s .E .C .A .A
def q225 : Pos := .s .E .C .A .B
def q226 : Pos := .s .E .C .A .C
def q227 : Pos := .s .E .C .A .E
def q228 : Pos := .s .E .C .B .A
def q229 : Pos := .s .E .C .B .B
def q230 : Pos := .s .E .C .B .C
def q231 : Pos := .s .E .C .B .E
def q232 : Pos := .s .E .C .C .A
def q233 : Pos := .s .E .C .C .B
def q234 : Pos := .s .E .C .C .C
def q235 : Pos := .s .E .C .C .E
def q236 : Pos := .s .E .C .E .A
def q237 : Pos := .s .E .C .E .B
def q238 : Pos := .s .E .C .E .C
def q239 : Pos := .s .E .C .E .E
def q240 : Pos := .s .E .E .A .A
def q241 : Pos := .s .E .E .A .B
def q242 : Pos := .s .E .E .A .C
def q243 : Pos := .s .E .E .A .E
def q244 : Pos := .s .E .E .B .A
def q245 : Pos := .s .E .E .B .B
def q246 : Pos := .s .E .E .B .C
def q247 : Pos := .s .E .E .B .E
def q248 : Pos := .s .E .E .C .A
def q249 : Pos := .s .E .E .C .B
def t0 : Opd := .tmp q0
def t1 : Opd := .tmp q1
def t2 : Opd := .tmp q2
def t3 : Opd := .tmp q3
def t4 : Opd := .tmp q4
def t5 : Opd := .tmp q5
def t6 : Opd := .tmp q6
def t7 : Opd := .tmp q7
def t8 : Opd := .tmp q8
def t9 : Opd := .tmp q9
def t10 : Opd := .tmp q10
def t11 : Opd := .tmp q11
def t12 : Opd := .tmp q12
def t13 : Opd := .tmp q13
def t14 : Opd := .tmp q14
def t15 : Opd := .tmp q15
def t16 : Opd := .tmp q16
def t17 : Opd := .tmp q17
def t18 : Opd := .tmp q18
def t19 : Opd := .tmp q19
def t20 : Opd := .tmp q20
def t21 : Opd := .tmp q21
def t22 : Opd := .tmp q22
def t23 : Opd := .tmp q23
def t24 : Opd := .tmp q24
def t25 : Opd := .tmp q25
def t26 : Opd := .tmp q26
def t27 : Opd := .tmp q27
def t28 : Opd := .tmp q28
def t29 : Opd := .tmp q29
def t30 : Opd := .tmp q30
def t31 : Opd := .tmp q31
def t32 : Opd := .tmp q32
def t33 : Opd := .tmp q33
def t34 : Opd := .tmp q34
def t35 : Opd := .tmp q35
def t36 : Opd := .tmp q36
def t37 : Opd := .tmp q37
def t38 : Opd := .tmp q38
def t39 : Opd := .tmp q39
def t40 : Opd := .tmp q40
def t41 : Opd := .tmp q41
def t42 : Opd := .tmp q42
def t43 : Opd := .tmp q43
def t44 : Opd := .tmp q44
def t45 : Opd := .tmp q45
def t46 : Opd := .tmp q46
def t47 : Opd := .tmp q47
def t48 : Opd := .tmp q48
def t49 : Opd := .tmp q49
def t50 : Opd := .tmp q50
def t51 : Opd := .tmp q51
def t52 : Opd := .tmp q52
def t53 : Opd := .tmp q53
def t54 : Opd := .tmp q54
def t55 : Opd := .tmp q55
def t56 : Opd := .tmp q56
def t57 : Opd := .tmp q57
def t58 : Opd := .tmp q58
def t59 : Opd := .tmp q59
def t60 : Opd := .tmp q60
def t61 : Opd := .tmp q61
def t62 : Opd := .tmp q62
def t63 : Opd := .tmp q63
def t64 : Opd := .tmp q64
def t65 : Opd := .tmp q65
def t66 : Opd := .tmp q66
def t67 : Opd := .tmp q67
def t68 : Opd := .tmp q68
def t69 : Opd := .tmp q69
def t70 : Opd := .tmp q70
def t71 : Opd := .tmp q71
def t72 : Opd := .tmp q72
def t73 : Opd := .tmp q73
def t74 : Opd := .tmp q74
def t75 : Opd := .tmp q75
def t76 : Opd := .tmp q76
def t77 : Opd := .tmp q77
def t78 : Opd := .tmp q78
def t79 : Opd := .tmp q79
def t80 : Opd := .tmp q80
def t81 : Opd := .tmp q81
def t82 : Opd := .tmp q82
def t83 : Opd := .tmp q83
def t84 : Opd := .tmp q84
def t85 : Opd := .tmp q85
def t86 : Opd := .tmp q86
def t87 : Opd := .tmp q87
def t88 : Opd := .tmp q88
def t89 : Opd := .tmp q89
def t90 : Opd := .tmp q90
def t91 : Opd := .tmp q91
def t92 : Opd := .tmp q92
def t93 : Opd := .tmp q93
def t94 : Opd := .tmp q94
def t95 : Opd := .tmp q95
def t96 : Opd := .tmp q96
def t97 : Opd := .tmp q97
def t98 : Opd := .tmp q98
def t99 : Opd := .tmp q99
def t100 : Opd := .tmp q100
def t101 : Opd := .tmp q101
def t102 : Opd := .tmp q102
def t103 : Opd := .tmp q103
def t104 : Opd := .tmp q104
def t105 : Opd := .tmp q105
def t106 : Opd := .tmp q106
def t107 : Opd := .tmp q107
def t108 : Opd := .tmp q108
def t109 : Opd := .tmp q109
def t110 : Opd := .tmp q110
def t111 : Opd := .tmp q111
def t112 : Opd := .tmp q112
def t113 : Opd := .tmp q113
def t114 : Opd := .tmp q114
def t115 : Opd := .tmp q115
def t116 : Opd := .tmp q116
def t117 : Opd := .tmp q117
def t118 : Opd := .tmp q118
def t119 : Opd := .tmp q119
def t120 : Opd := .tmp q120
def t121 : Opd := .tmp q121
def t122 : Opd := .tmp q122
def t123 : Opd := .tmp q123
def t124 : Opd := .tmp q124
def t125 : Opd := .tmp q125
def t126 : Opd := .tmp q126
def t127 : Opd := .tmp q127
def t128 : Opd := .tmp q128
def t129 : Opd := .tmp q129
def t130 : Opd := .tmp q130
def t131 : Opd := .tmp q131
def t132 : Opd := .tmp q132
def t133 : Opd := .tmp q133
def t134 : Opd := .tmp q134
def t135 : Opd := .tmp q135
def t136 : Opd := .tmp q136
def t137 : Opd := .tmp q137
def t138 : Opd := .tmp q138
def t139 : Opd := .tmp q139
def t140 : Opd := .tmp q140
def t141 : Opd := .tmp q141
def t142 : Opd := .tmp q142
def t143 : Opd := .tmp q143
def t144 : Opd := .tmp q144
def t145 : Opd := .tmp q145
def t146 : Opd := .tmp q146
def t147 : Opd := .tmp q147
def t148 : Opd := .tmp q148
def t149 : Opd := .tmp q149
def t150 : Opd := .tmp q150
def t151 : Opd := .tmp q151
def t152 : Opd := .tmp q152
def t153 : Opd := .tmp q153
def t154 : Opd := .tmp q154
def t155 : Opd := .tmp q155
def t156 : Opd := .tmp q156
def t157 : Opd := .tmp q157
def t158 : Opd := .tmp q158
def t159 : Opd := .tmp q159
def t160 : Opd := .tmp q160
def t161 : Opd := .tmp q161
def t162 : Opd := .tmp q162
def t163 : Opd := .tmp q163
def t164 : Opd := .tmp q164
def t165 : Opd := .tmp q165
def t166 : Opd := .tmp q166
def t167 : Opd := .tmp q167
def t168 : Opd := .tmp q168
def t169 : Opd := .tmp q169
def t170 : Opd := .tmp q170
def t171 : Opd := .tmp q171
def t172 : Opd := .tmp q172
def t173 : Opd := .tmp q173
def t174 : Opd := .tmp q174
def t175 : Opd := .tmp q175
def t176 : Opd := .tmp q176
def t177 : Opd := .tmp q177
def t178 : Opd := .tmp q178
def t179 : Opd := .tmp q179
def t180 : Opd := .tmp q180
def t181 : Opd := .tmp q181
def t182 : Opd := .tmp q182
def t183 : Opd := .tmp q183
def t184 : Opd := .tmp q184
def t185 : Opd := .tmp q185
def t186 : Opd := .tmp q186
def t187 : Opd := .tmp q187
def t188 : Opd := .tmp q188
def t189 : Opd := .tmp q189
def t190 : Opd := .tmp q190
def t191 : Opd := .tmp q191
def t192 : Opd := .tmp q192
def t193 : Opd := .tmp q193
def t194 : Opd := .tmp q194
def t195 : Opd := .tmp q195
def t196 : Opd := .tmp q196
def t197 : Opd := .tmp q197
def t198 : Opd := .tmp q198
def t199 : Opd := .tmp q199
def t200 : Opd := .tmp q200
def t201 : Opd := .tmp q201
def t202 : Opd := .tmp q202
def t203 : Opd := .tmp q203
def t204 : Opd := .tmp q204
def t205 : Opd := .tmp q205
def t206 : Opd := .tmp q206
def t207 : Opd := .tmp q207
def t208 : Opd := .tmp q208
def t209 : Opd := .tmp q209
def t210 : Opd := .tmp q210
def t211 : Opd := .tmp q211
def t212 : Opd := .tmp q212
def t213 : Opd := .tmp q213
def t214 : Opd := .tmp q214
def t215 : Opd := .tmp q215
def t216 : Opd := .tmp q216
def t217 : Opd := .tmp q217
def t218 : Opd := .tmp q218
def t219 : Opd := .tmp q219
def t220 : Opd := .tmp q220
def t221 : Opd := .tmp q221
def t222 : Opd := .tmp q222
def t223 : Opd := .tmp q223
def t224 : Opd := .tmp q224
def t225 : Opd := .tmp q225
def t226 : Opd := .tmp q226
def t227 : Opd := .tmp q227
def t228 : Opd := .tmp q228
def t229 : Opd := .tmp q229
def t230 : Opd := .tmp q230
def t231 : Opd := .tmp q231
def t232 : Opd := .tmp q232
def t233 : Opd := .tmp q233
def t234 : Opd := .tmp q234
def t235 : Opd := .tmp q235
def t236 : Opd := .tmp q236
def t237 : Opd := .tmp q237
def t238 : Opd := .tmp q238
def t239 : Opd := .tmp q239
def t240 : Opd := .tmp q240
def t241 : Opd := .tmp q241
def t242 : Opd := .tmp q242
def t243 : Opd := .tmp q243
def t244 : Opd := .tmp q244
def t245 : Opd := .tmp q245
def t246 : Opd := .tmp q246
def t247 : Opd := .tmp q247
def t248 : Opd := .tmp q248
def t249 : Opd := .tmp q249
def n (k : Int) : Opd := .const (.int .i64 k)
def u (k : Int) : Opd := .const (.int .u8 k)
def i (t : IntKind) (k : Int) : Opd := .const (.int t k)
def T : Opd := .const (.bool true)
def F : Opd := .const (.bool false)
def S (l : List Nat) : Opd := .const (.str l)
def K (f : Nat) : Opd := .const (.func (.fn f) [] [])
def I : Opd := .const .nilIface
def z : AV := .int .i64 0
def Z (k : Int) : AV := .int .i64 k
def y : AV := .int .u8 0
def wt : AV := .bool true
def w : AV := .bool false
def e : AV := .str []
def v : AV := .slice none 0 0 none
def R (l : List AOper) (c : ACode) : ACode := .seq (.region l) c
def r (l : List AOper) : ACode := .region l
def Q (a b : ACode) : ACode := .seq a b
def C (a : Opd) (b c : ACode) : ACode := .cond a b c
def O (d : Pos) (o : AOp) : AOper := ⟨some d, o, none, [], []⟩
def N (o : AOp) : AOper := ⟨none, o, none, [], []⟩
def Gt (d : Pos) (o : AOp) (g : Pos) : AOper := ⟨some d, o, some (g, true), [], []⟩
def Gf (d : Pos) (o : AOp) (g : Pos) : AOper := ⟨some d, o, some (g, false), [], []⟩
def D (d : Pos) (o : AOp) (k : List Pos) : AOper := ⟨some d, o, none, [], k⟩
def E (o : AOp) (k : List Pos) : AOper := ⟨none, o, none, [], k⟩
def W (d : Pos) (o : AOp) (a : List Again) (k : List Pos) : AOper := ⟨some d, o, none, a, k⟩
def V (o : AOp) (a : List Again) (k : List Pos) : AOper := ⟨none, o, none, a, k⟩
def m (d : Pos) (x : Opd) : AOper := O d (.mov x)
def mt (d : Pos) (x : Opd) (g : Pos) : AOper := Gt d (.mov x) g
def mf (d : Pos) (x : Opd) (g : Pos) : AOper := Gf d (.mov x) g
def l (d : Pos) (k : Nat) (x : Opd) : AOper := O d (.load (some k) x)
def L (d : Pos) (x : Opd) : AOper := O d (.load none x)
def f (d : Pos) (k : Nat) (x : Opd) : AOper := O d (.fieldAddr k x)
def b (d : Pos) (o : BinOp) (x y : Opd) : AOper := O d (.bin o x y)
def k (d : Pos) (g : Nat) (us : List Opd) : AOper := O d (.call (K g) us)
def x (d : Pos) (a : Opd) (j : Nat) : AOper := O d (.extract a j)
def a (d : Pos) (o : Option Nat) (k : Nat) (x j : Opd) : AOper := O d (.indexAddr o k x j)
def h (d : Pos) (t : Option Nat) (z : List AV) : AOper := O d (.alloc t z)
def B (d : Pos) (z : List AV) (p : List (Nat × Nat × Opd)) : AOper := O d (.build z p)
def p (d : Pos) (c a b : Opd) : AOper := O d (.pick c a b)
def g (d : Pos) (us : List Opd) : AOper := O d (.bi (.len .slice) us)
def j (d : Pos) (o : Bi) (us : List Opd) : AOper := O d (.bi o us)
def s (k : Nat) (a v : Opd) : AOper := N (.store k a v)
def Y0 : List AV := [.int .u32 0,.int .u32 0,.int .u32 0,.int .u32 0,.int .u32 0,.int .u32 0,.int .u32 0,.int .u32 0,.int .u32 0,.int .u32 0,.int .u32 0,.int .u32 0,.int .u32 0,.int .u32 0,.int .u32 0,.int .u32 0,.int .u32 0,.int .u32 0,.int .u32 0,.int .u32 0,.int .u32 0,.int .u32 0,.int .u32 0,.int .u32 0,.int .u32 0,.int .u32 0,.int .u32 0,.int .u32 0,.int .u32 0,.int .u32 0,.int .u32 0,.int .u32 0,.int .u32 0,.int .u32 0,.int .u32 0,.int .u32 0,.int .u32 0,.int .u32 0,.int .u32 0,.int .u32 0,.int .u32 0,.int .u32 0,.int .u32 0,.int .u32 0,.int .u32 0,.int .u32 0,.int .u32 0,.int .u32 0,.int .u32 0,.int .u32 0,.int .u32 0,.int .u32 0,.int .u32 0,.int .u32 0,.int .u32 0,.int .u32 0,.int .u32 0,.int .u32 0,.int .u32 0,.int .u32 0,.int .u32 0,.int .u32 0,.int .u32 0,.int .u32 0]
def Y1 : List AV := [.nilFunc,.nilFunc,.nilFunc,.nilFunc,.nilFunc,.nilFunc,.nilFunc,.nilFunc,.nilFunc,.nilFunc,.nilFunc,.nilFunc,.nilFunc,.nilFunc,.nilFunc,.nilFunc,.nilFunc,.nilFunc,.nilFunc,.nilFunc,.nilFunc,.nilFunc,.nilFunc,.nilFunc,.nilFunc,.nilFunc,.nilFunc,.nilFunc,.nilFunc,.nilFunc,.nilFunc,.nilFunc,.nilFunc,.nilFunc,.nilFunc]
def Y2 : List AV := [.nilFunc,.nilFunc,.nilFunc,.nilFunc,.nilFunc,.nilFunc,.nilFunc,.nilFunc,.nilFunc,.nilFunc,.nilFunc,.nilFunc]
def Y3 : List AV := [.int .u32 0,.int .u32 0,.int .u32 0,.int .u32 0,.int .u32 0,.int .u32 0,.int .u32 0,.int .u32 0]
def Y4 : List AV := [y,y,y,y,y,y,y,y,y,y,y,y,y,y,y,y,y,y,y,y,y,y,y,y,y,y,y,y,y,y,y,y]
def Y5 : List AV := [e,z,v,v,v,z,z,y,y,y,y,y,y,y,y,y,y,y,y,y,y,y,y,v,v]
def Y6 : List AV := [.nilFunc,.nilFunc,.nilFunc,.nilFunc,.nilFunc]
def Y7 : List AV := [e,e,z,z,z,z,y,y,y,y,y,y,y,y,y,y,y,y,y,y,y,y]
def Y8 : List AV := [z,z,y,y,y,y,y,y,y,y,y,y,y,y,y,y,y,y]
def Y9 : List AV := [y,y,y,y,y,y,y,y,y,y,y,y,y,y,y,y]
def Y10 : List AV := [e,e,z,z,z,z,z,e,v,v,e,z]
def Y11 : List AV := [e,e,v,z,z,z,z,e,v,w,w]
def Y12 : List AV := [z,z,z,z,z,w,v,z,e,v]
def Y13 : List AV := [z,z,z,z,z,.nilFunc]
def Y14 : List AV := [z,z,z,z,e,v]
def Y15 : List AV := [v,v,v,v,z,z]
def Y16 : List AV := [e,z,v,v,v]
def Y17 : List AV := [e,z,v,v]
end A3.Y
namespace A3.Y
open Go
def c3 : AFunc := ⟨[q0,q1,q2,q3],[.tmp q8],R [m q8 F]
 (Q (R [m q26 t0,m q27 t1,b q28 .eql t26 t27,m q29 t28,mf q30 t2 q29,mf q31 t3 q29,Gf q32 (.bin .eql t30 t31) q29,p q33 t29 T t32]
 (C t33
 (R [k q34 4 [],m q8 t34] .ret) .skip))
 (R [k q35 5 [n 0],B q36 [e,z,w,z,z,e] [(0,1,S [105,100]),(1,1,n 2),(3,3,t35)],h q9 none [e,z,w,z,z,e],s 6 t9 t36]
 (R [l q37 6 t9,O q41 (.buildSlice [z] 1 [(0,1,n 0)]),h q10 none Y17,W q38 (.call (K 5) [n 0]) [⟨q37,.load (some 6) t9,none⟩] [q10,q41,q37],B q39 [e,z,w,z,z,e] [(0,1,S [117]),(1,1,n 2),(3,3,t38)],O q40 (.buildSlice [e,z,w,z,z,e,e,z,w,z,z,e] 2 [(0,6,t37),(6,6,t39)]),B q42 Y17 [(0,1,S [116]),(1,1,n 1),(2,1,t40),(3,1,t41)],s 4 t10 t42]
 (R [B q45 [v,v] [],l q46 4 t10,h q11 none [v,v],W q44 (.call (K 7) [n 20]) [⟨q46,.load (some 4) t10,none⟩] [q11,q46,q45],D q47 (.call (K 6) [t44,t45,t46]) [q11],m q43 t47,x q48 t43 0,x q49 t43 1,E (.store 2 t11 t48) [q49],m q12 t49]
 (Q (R [m q50 t12,b q51 .neq t50 (n 0),m q52 t51,Gf q53 (.fieldAddr 0 t11) q52,Gf q54 (.load none t53) q52,Gf q55 (.bi (.len .slice) [t54]) q52,Gf q56 (.bin .neq t55 (n 1)) q52,p q57 t52 T t56]
 (C t57
 (R [m q8 F] .ret) .skip))
 (R [f q60 0 t11,L q61 t60,a q62 none 25 t61 (n 0),l q63 25 t62,B q64 Y14 [(0,1,n 2),(1,1,n 1)],O q65 (.buildSlice Y14 1 [(0,6,t64)]),B q66 Y11 [(0,1,S [105]),(1,1,S [116]),(2,1,t65),(9,1,T)],h q13 none Y15,h q14 none Y5,W q59 (.call (K 7) [n 20]) [⟨q63,.load (some 25) t62,none⟩,⟨q61,.load none t60,none⟩] [q14,q13,q66,q65,q64,q63,q62,q61,q60],D q67 (.call (K 8) [t59,t63,t66]) [q14,q13],m q58 t67,x q68 t58 0,x q69 t58 1,x q70 t58 2,E (.store 6 t13 t68) [q70,q69],E (.store 25 t14 t69) [q70],m q12 t70]
 (Q (R [m q71 t12,b q72 .neq t71 (n 0)]
 (C t72
 (R [m q8 F] .ret) .skip))
 (R [l q73 25 t14,O q74 (.buildSlice Y5 1 [(0,25,t73)]),f q75 0 t11,s 1 t75 t74]
 (R [m q76 t0,m q77 t1,j q78 .min [t76,t77],m q15 t78]
 (R [m q79 t0,m q80 t1,j q81 .max [t79,t80],m q16 t81]
 (R [m q17 (K 9)]
 (R [l q83 6 t13,l q84 2 t11,m q85 t17,m q86 t15,m q87 t2,m q90 t17,m q91 t16,m q92 t3,W q88 (.call t85 [t86,t87]) [⟨q84,.load (some 2) t11,none⟩,⟨q83,.load (some 6) t13,none⟩] [q92,q91,q90,q84,q83],B q89 [e,v,v] [(0,1,S [116]),(2,1,t88)],W q93 (.call t90 [t91,t92]) [⟨q84,.load (some 2) t11,none⟩,⟨q83,.load (some 6) t13,none⟩] [q89,q84,q83],B q94 [e,v,v] [(0,1,S [116]),(2,1,t93)],O q95 (.buildSlice [e,v,v,e,v,v] 2 [(0,3,t89),(3,3,t94)]),k q96 10 [t83,t84,t95],m q82 t96,x q97 t82 0,x q98 t82 1,x q99 t82 2,x q100 t82 3,E (.store 6 t13 t97) [q100,q99,q98],E (.store 2 t11 t98) [q100,q99],m q12 t100]
 (R [l q102 6 t13,l q103 2 t11,m q104 t17,m q105 t15,m q106 t2,m q108 t17,m q109 t15,m q110 t3,m q113 t17,m q114 t16,m q115 t3,m q117 t17,m q118 t16,m q119 t2,W q107 (.call t104 [t105,t106]) [⟨q103,.load (some 2) t11,none⟩,⟨q102,.load (some 6) t13,none⟩] [q119,q118,q117,q115,q114,q113,q110,q109,q108,q103,q102],W q111 (.call t108 [t109,t110]) [⟨q103,.load (some 2) t11,none⟩,⟨q102,.load (some 6) t13,none⟩] [q119,q118,q117,q115,q114,q113,q103,q102],B q112 [e,v,v] [(0,1,S [116]),(1,1,t107),(2,1,t111)],W q116 (.call t113 [t114,t115]) [⟨q103,.load (some 2) t11,none⟩,⟨q102,.load (some 6) t13,none⟩] [q112,q119,q118,q117,q103,q102],W q120 (.call t117 [t118,t119]) [⟨q103,.load (some 2) t11,none⟩,⟨q102,.load (some 6) t13,none⟩] [q112,q103,q102],B q121 [e,v,v] [(0,1,S [116]),(1,1,t116),(2,1,t120)],O q122 (.buildSlice [e,v,v,e,v,v] 2 [(0,3,t112),(3,3,t121)]),k q123 10 [t102,t103,t122],m q101 t123,x q124 t101 0,x q125 t101 1,x q126 t101 2,x q127 t101 3,E (.store 6 t13 t124) [q127,q126,q125],E (.store 2 t11 t125) [q127,q126],m q18 t126,m q19 t127]
 (R [l q129 6 t13,l q130 2 t11,m q131 t17,m q132 t15,m q133 t3,m q135 t17,m q136 t15,m q137 t2,h q20 none Y15,h q21 none [v,v],W q134 (.call t131 [t132,t133]) [⟨q130,.load (some 2) t11,none⟩,⟨q129,.load (some 6) t13,none⟩] [q21,q20,q137,q136,q135,q130,q129],W q138 (.call t135 [t136,t137]) [⟨q130,.load (some 2) t11,none⟩,⟨q129,.load (some 6) t13,none⟩] [q21,q20,q130,q129],B q139 [e,v,v] [(0,1,S [116]),(1,1,t134),(2,1,t138)],O q140 (.buildSlice [e,v,v] 1 [(0,3,t139)]),D q141 (.call (K 10) [t129,t130,t140]) [q21,q20],m q128 t141,x q142 t128 0,x q143 t128 1,x q144 t128 2,x q145 t128 3,E (.store 6 t20 t142) [q145,q144,q143],E (.store 2 t21 t143) [q145,q144],m q22 t144,m q23 t145]
 (R [l q147 6 t13,l q148 2 t11,k q149 11 [t147,t148],m q146 t149,x q150 t146 0,x q151 t146 1,m q24 t150,m q25 t151]
 (R [k q152 4 [],m q153 t152,mt q154 t12 q153,Gt q155 (.bin .eql t154 (n 0)) q153,p q156 t153 t155 F,m q157 t156,mt q158 t19 q157,Gt q159 (.bin .eql t158 (n 0)) q157,p q160 t157 t159 F,m q161 t160,mt q162 t23 q161,Gt q163 (.bin .eql t162 (n 340)) q161,p q164 t161 t163 F,m q165 t164,mt q166 t25 q165,Gt q167 (.bin .eql t166 (n 0)) q165,p q168 t165 t167 F,m q169 t168,mt q170 t18 q169,Gt q171 (.bi (.len .slice) [t170]) q169,Gt q172 (.bin .eql t171 (n 2)) q169,p q173 t169 t172 F,m q174 t173,mt q175 t24 q174,Gt q176 (.bi (.len .slice) [t175]) q174,Gt q177 (.bin .eql t176 (n 1)) q174,p q178 t174 t177 F,m q179 t178,mt q180 t24 q179,Gt q181 (.indexAddr none 5 t180 (n 0)) q179,Gt q182 (.fieldAddr 4 t181) q179,Gt q183 (.load none t182) q179,Gt q184 (.bi (.len .slice) [t183]) q179,Gt q185 (.bin .eql t184 (n 2)) q179,p q186 t179 t185 F,m q187 t186,mt q188 t24 q187,Gt q189 (.indexAddr none 5 t188 (n 0)) q187,Gt q190 (.fieldAddr 4 t189) q187,Gt q191 (.load none t190) q187,Gt q192 (.indexAddr none 1 t191 (n 0)) q187,Gt q193 (.load none t192) q187,mt q194 t17 q187,mt q195 t15 q187,mt q196 t3 q187,⟨some q197,.call t194 [t195,t196],some (q187,true),[⟨q193,.load none t192,some (q187,true)⟩,⟨q191,.load none t190,some (q187,true)⟩],[q193,q192,q191,q190,q189,q188]⟩,Gt q198 (.call (K 12) [t193,t197]) q187,p q199 t187 t198 F,m q200 t199,mt q201 t24 q200,Gt q202 (.indexAddr none 5 t201 (n 0)) q200,Gt q203 (.fieldAddr 4 t202) q200,Gt q204 (.load none t203) q200,Gt q205 (.indexAddr none 1 t204 (n 1)) q200,Gt q206 (.load none t205) q200,mt q207 t17 q200,mt q208 t16 q200,mt q209 t2 q200,⟨some q210,.call t207 [t208,t209],some (q200,true),[⟨q206,.load none t205,some (q200,true)⟩,⟨q204,.load none t203,some (q200,true)⟩],[q206,q205,q204,q203,q202,q201]⟩,Gt q211 (.call (K 12) [t206,t210]) q200,p q212 t200 t211 F,m q213 t212,Gt q214 (.load (some 6) t13) q213,Gt q215 (.load (some 2) t11) q213,Gt q216 (.call (K 13) [t214,t215]) q213,Gt q217 (.bin .eql t216 (n 0)) q213,p q218 t213 t217 F,m q8 t218] .ret))))))))))))))))⟩
def c4 : AFunc := ⟨[],[.tmp q0],R [m q0 F]
 (R [k q21 14 [n 0],m q20 t21,x q22 t20 0,x q23 t20 1,m q1 t22,m q2 t23]
 (R [m q25 t1,m q26 t2,k q27 15 [t25,t26],m q24 t27,x q28 t24 0,x q29 t24 1,m q3 t28,m q4 t29]
 (R [m q30 t1,a q31 none 5 t30 (n 0),f q32 4 t31,L q33 t32,a q34 none 1 t33 (n 0),L q35 t34,B q36 [e,v,v] [(0,1,S [97]),(1,1,t35)],O q37 (.buildSlice [e,v,v] 1 [(0,3,t36)]),m q5 t37]
 (R [k q38 5 [n 9],k q39 5 [n 4],O q40 (.buildSlice [z,z,e,z,z,e] 2 [(0,3,t38),(3,3,t39)]),B q41 [e,v,v] [(0,1,S [98]),(2,1,t40)],O q42 (.buildSlice [e,v,v] 1 [(0,3,t41)]),m q6 t42]
 (R [m q44 t1,m q45 t2,m q46 t5,k q47 16 [t44,t45,t46],m q43 t47,x q48 t43 0,x q49 t43 1,m q7 t48,m q8 t49]
 (R [m q51 t1,m q52 t2,m q53 t6,k q54 17 [t51,t52,t53],m q50 t54,x q55 t50 0,x q56 t50 1,m q9 t55,m q10 t56]
 (R [m q58 t1,k q59 5 [n 1],k q60 5 [n 6],O q61 (.buildSlice [z,z,e,z,z,e] 2 [(0,3,t59),(3,3,t60)]),B q62 [e,v,v] [(0,1,S [97]),(1,1,t61)],O q63 (.buildSlice [e,v,v] 1 [(0,3,t62)]),k q64 18 [t58,t63],m q57 t64,x q65 t57 0,x q66 t57 1,m q11 t65,m q12 t66]
 (Q (R [m q67 t4,b q68 .neq t67 (n 0),m q69 t68,mf q70 t3 q69,Gf q71 (.bi (.len .slice) [t70]) q69,Gf q72 (.bin .neq t71 (n 0)) q69,p q73 t69 T t72,m q74 t73,mf q75 t8 q74,Gf q76 (.bin .neq t75 (n 410)) q74,p q77 t74 T t76,m q78 t77,mf q79 t10 q78,Gf q80 (.bin .neq t79 (n 0)) q78,p q81 t78 T t80,m q82 t81,mf q83 t12 q82,Gf q84 (.bin .neq t83 (n 9)) q82,p q85 t82 T t84,m q86 t85,mf q87 t9 q86,Gf q88 (.call (K 5) [n 9]) q86,Gf q89 (.buildSlice [z,z,e] 1 [(0,3,t88)]) q86,Gf q90 (.build [z,v] [(0,1,n 1),(1,1,t89)]) q86,Gf q91 (.buildSlice [z,v] 1 [(0,2,t90)]) q86,Gf q92 (.call (K 19) [t87,t91]) q86,Gf q93 (.un .not t92) q86,p q94 t86 T t93]
 (C t94
 (R [m q0 F] .ret) .skip))
 (R [k q96 14 [n 1],m q95 t96,x q97 t95 0,x q98 t95 1,m q2 t98]
 (R [m q100 t1,m q101 t2,m q102 t5,k q103 16 [t100,t101,t102],m q99 t103,x q104 t99 0,x q105 t99 1,m q13 t104,m q4 t105]
 (R [k q107 14 [n 2],m q106 t107,x q108 t106 0,x q109 t106 1,m q2 t109]
 (R [m q111 t1,m q112 t2,m q113 t5,k q114 16 [t111,t112,t113],m q110 t114,x q115 t110 0,x q116 t110 1,m q14 t115,m q8 t116]
 (Q (R [m q117 t4,b q118 .neq t117 (n 0),m q119 t118,mf q120 t8 q119,Gf q121 (.bin .neq t120 (n 0)) q119,p q122 t119 T t121,m q123 t122,mf q124 t13 q123,Gf q125 (.bi (.len .slice) [t124]) q123,Gf q126 (.bin .neq t125 (n 2)) q123,p q127 t123 T t126,m q128 t127,mf q129 t14 q128,Gf q130 (.bi (.len .slice) [t129]) q128,Gf q131 (.bin .neq t130 (n 2)) q128,p q132 t128 T t131,m q133 t132,mf q134 t13 q133,Gf q135 (.indexAddr none 3 t134 (n 1)) q133,Gf q136 (.fieldAddr 2 t135) q133,Gf q137 (.load none t136) q133,Gf q138 (.bi (.len .slice) [t137]) q133,Gf q139 (.bin .neq t138 (n 0)) q133,p q140 t133 T t139,m q141 t140,mf q142 t14 q141,Gf q143 (.indexAddr none 3 t142 (n 1)) q141,Gf q144 (.fieldAddr 2 t143) q141,Gf q145 (.load none t144) q141,Gf q147 (.build [z,z,e] []) q141,⟨some q146,.call (K 5) [n 7],some (q141,false),[⟨q145,.load none t144,some (q141,false)⟩],[q147,q145,q144,q143,q142]⟩,Gf q148 (.buildSlice [z,z,e,z,z,e] 2 [(0,3,t146),(3,3,t147)]) q141,Gf q149 (.call (K 12) [t145,t148]) q141,Gf q150 (.un .not t149) q141,p q151 t141 T t150]
 (C t151
 (R [m q0 F] .ret) .skip))
 (R [m q153 t1,m q154 t14,k q155 18 [t153,t154],m q152 t155,x q156 t152 0,x q157 t152 1,m q15 t156,m q4 t157]
 (R [B q160 [v,v] [],m q161 t1,a q162 none 5 t161 (n 0),f q163 0 t162,l q164 4 t163,h q16 none [v,v],W q159 (.call (K 7) [n 20]) [⟨q164,.load (some 4) t163,none⟩] [q16,q164,q163,q162,q161,q160],D q165 (.call (K 6) [t159,t160,t164]) [q16],m q158 t165,x q166 t158 0,x q167 t158 1,E (.store 2 t16 t166) [q167],m q8 t167]
 (R [l q170 2 t16,m q171 t1,a q172 none 5 t171 (n 0),f q173 4 t172,L q174 t173,a q175 none 1 t174 (n 0),L q176 t175,B q177 [e,v,v] [(0,1,S [97]),(2,1,t176)],O q178 (.buildSlice [e,v,v] 1 [(0,3,t177)]),h q17 none Y15,W q169 (.call (K 7) [n 20]) [⟨q176,.load none t175,none⟩,⟨q174,.load none t173,none⟩,⟨q170,.load (some 2) t16,none⟩] [q17,q178,q177,q176,q175,q174,q173,q172,q171,q170],D q179 (.call (K 10) [t169,t170,t178]) [q17],m q168 t179,x q180 t168 0,x q181 t168 1,x q182 t168 2,x q183 t168 3,E (.store 6 t17 t180) [q183,q182,q181],E (.store 2 t16 t181) [q183,q182],m q18 t182,m q10 t183]
 (R [l q185 6 t17,l q186 2 t16,k q187 11 [t185,t186],m q184 t187,x q188 t184 0,x q189 t184 1,m q19 t188,m q12 t189]
 (R [m q190 t4,b q191 .eql t190 (n 0),m q192 t191,mt q193 t8 q192,Gt q194 (.bin .eql t193 (n 0)) q192,p q195 t192 t194 F,m q196 t195,mt q197 t10 q196,Gt q198 (.bin .eql t197 (n 0)) q196,p q199 t196 t198 F,m q200 t199,mt q201 t12 q200,Gt q202 (.bin .eql t201 (n 0)) q200,p q203 t200 t202 F,m q204 t203,mt q205 t15 q204,Gt q206 (.bi (.len .slice) [t205]) q204,Gt q207 (.bin .eql t206 (n 2)) q204,p q208 t204 t207 F,m q209 t208,mt q210 t15 q209,Gt q211 (.indexAddr none 5 t210 (n 0)) q209,Gt q212 (.fieldAddr 4 t211) q209,Gt q213 (.load none t212) q209,Gt q214 (.bi (.len .slice) [t213]) q209,Gt q215 (.bin .eql t214 (n 1)) q209,p q216 t209 t215 F,m q217 t216,mt q218 t19 q217,Gt q219 (.bi (.len .slice) [t218]) q217,Gt q220 (.bin .eql t219 (n 1)) q217,p q221 t217 t220 F,m q222 t221,mt q223 t19 q222,Gt q224 (.indexAddr none 5 t223 (n 0)) q222,Gt q225 (.fieldAddr 4 t224) q222,Gt q226 (.load none t225) q222,Gt q227 (.bi (.len .slice) [t226]) q222,Gt q228 (.bin .eql t227 (n 1)) q222,p q229 t222 t228 F,m q230 t229,Gt q231 (.load (some 6) t17) q230,Gt q232 (.load (some 2) t16) q230,Gt q233 (.call (K 13) [t231,t232]) q230,Gt q234 (.bin .eql t233 (n 0)) q230,p q235 t230 t234 F,m q236 t235,mt q237 t2 q236,mt q238 t1 q236,Gt q239 (.indexAddr none 5 t238 (n 0)) q236,Gt q240 (.fieldAddr 0 t239) q236,Gt q241 (.load (some 4) t240) q236,mt q242 t1 q236,Gt q243 (.indexAddr none 5 t242 (n 1)) q236,Gt q244 (.fieldAddr 0 t243) q236,Gt q245 (.load (some 4) t244) q236,Gt q246 (.buildSlice [e,z,v,v,e,z,v,v] 2 [(0,4,t241),(4,4,t245)]) q236,Gt q247 (.call (K 20) [t237,t246]) q236,Gt q248 (.bin .eql t247 (n 0)) q236,p q249 t236 t248 F,m q0 t249] .ret))))))))))))))))))⟩
def c5 : AFunc := ⟨[q0],[.cell q2 (some 3)],R [h q2 none [z,z,e]]
 (R [m q3 t0,B q4 [z,z,e] [(0,1,n 2),(1,1,t3)],s 3 t2 t4] .ret)⟩
def c6 : AFunc := ⟨[q0,q1,q2],[.cell q6 (some 2),.cell q7 none],R [O q3 (.box none t0),O q4 (.box none t1),O q5 (.box none t2),h q6 none [v,v],h q7 none [z]]
 (R [O q9 (.makeFunc (.fn 22) [] [t6]),N (.defer (K 21) [t7,t9])]
 (R [l q10 6 t3,l q11 2 t4,k q12 23 [t10,t11]]
 (R [l q13 4 t5,k q14 25 [t13],b q15 .eql t14 (n 0),k q16 24 [t15,n 2]]
 (R [l q17 2 t4,f q18 0 t5,L q19 t18,k q20 26 [t17,t19],b q21 .lss t20 (n 0),k q22 24 [t21,n 5]]
 (R [f q23 0 t4,L q24 t23,g q25 [t24],b q26 .lss t25 (n 40),k q27 24 [t26,n 3]]
 (R [l q28 2 t4,k q29 27 [t28],s 2 t6 t29]
 (R [f q30 0 t6,L q31 t30,O q32 (.makeFunc (.fn 29) [] [t5]),k q33 28 [t31,t32],m q8 t33]
 (Q (R [m q34 t8,b q35 .lss t34 (n 0)]
 (C t35
 (r [f q36 0 t6,L q37 t36,g q38 [t37],m q8 t38]) .skip))
 (R [f q39 0 t6,L q40 t39,m q41 t8,l q42 4 t5,W q43 (.call (K 32) [t42]) [⟨q40,.load none t39,none⟩] [q41,q40,q39],B q44 Y16 [(0,4,t43)],B q45 Y5 [(0,5,t44)],O q46 (.buildSlice Y5 1 [(0,25,t45)]),k q47 31 [t40,t41,t46],f q48 0 t6,s 1 t48 t47]
 (R [l q49 2 t6,s 2 t6 t49,s 1 t7 (n 0)] .ret))))))))))⟩
def c7 : AFunc := ⟨[q0],[.cell q2 (some 6)],R [h q2 none Y15]
 (R [m q6 t0,j q7 .min [t6,n 4096],j q8 .max [n 2,t7],m q3 t8]
 (R [m q9 t3,O q10 (.makeSlice Y12 t9 t9),B q11 Y15 [(0,1,t10),(4,1,n 1),(5,1,n 1)],h q4 none Y15,s 6 t4 t11]
 (Q (R [m q5 (n 2)] (.block 0 (.loop
 (Q (R [m q12 t5,m q13 t3,b q14 .lss t12 t13]
 (C t14 .skip (.exit 0)))
 (Q (.block 1
 (r [f q17 1 t4,L q18 t17,m q19 t5,O q20 (.buildSlice [z] 1 [(0,1,t19)]),j q21 (.append 1 [z] false none) [t18,t20],f q22 1 t4,s 1 t22 t21]))
 (r [m q15 t5,b q16 .add t15 (n 1),m q5 t16]))))))
 (R [l q23 6 t4,s 6 t2 t23] .ret))))⟩
def c8 : AFunc := ⟨[q0,q1,q2],[.cell q6 (some 6),.cell q7 (some 25),.tmp q8],R [O q3 (.box none t0),O q4 (.box none t1),O q5 (.box none t2),h q6 none Y15,h q7 none Y5,m q8 (n 0)]
 (R [l q9 6 t3,l q10 25 t4,O q11 (.makeFunc (.fn 34) [] [t5]),k q12 33 [t9,t10,t11],x q13 t12 0,x q14 t12 1,x q15 t12 2,s 6 t6 t13,s 25 t7 t14,m q8 t15] .ret)⟩
def c9 : AFunc := ⟨[q0,q1],[.tmp q4],R [m q4 (.const v)]
 (R [m q5 t0,k q6 5 [t5],m q7 t1,k q8 5 [t7],O q9 (.buildSlice [z,z,e,z,z,e] 2 [(0,3,t6),(3,3,t8)]),m q4 t9] .ret)⟩
def c10 : AFunc := ⟨[q0,q1,q2],[.cell q6 (some 6),.cell q7 (some 2),.cell q8 none,.cell q9 none],R [O q3 (.box none t0),O q4 (.box none t1),h q6 none Y15,h q7 none [v,v],h q8 none [v],h q9 none [z]]
 (R [O q16 (.makeFunc (.fn 44) [] [t6,t7,t8]),N (.defer (K 21) [t9,t16])]
 (R [l q17 6 t3,l q18 2 t4,k q19 23 [t17,t18]]
 (R [m q20 t2,f q21 0 t4,L q22 t21,k q23 46 [t22],k q24 45 [t20,t23],k q25 24 [t24,n 2]]
 (R [l q26 6 t3,l q27 2 t4,k q28 47 [t26,t27],m q10 t28]
 (R [m q29 t10,f q30 1 t4,L q31 t30,m q32 t2,k q33 48 [t29,t31,t32],s 1 t8 t33]
 (R [m q34 t10,L q35 t8,f q37 1 t4,L q38 t37,L q39 t8,W q36 (.call (K 50) [t34,t35]) [⟨q39,.load none t8,none⟩,⟨q38,.load none t37,none⟩] [q39,q38,q37],k q40 49 [t36,t38,t39],g q41 [t40],b q42 .eql t41 (n 0),k q43 24 [t42,n 411]]
 (R [l q44 6 t3,l q45 2 t4,W q46 (.call (K 27) [t45]) [⟨q44,.load (some 6) t3,none⟩] [q44],B q47 [v,v,v,v,z,z,v,v] [(0,6,t44),(6,2,t46)],O q48 (.box none t47),m q11 t48]
 (Q (R [L q49 t8,g q50 [t49],m q51 (n 0)] (.block 0 (.loop
 (R [b q52 .lss t51 t50]
 (Q (C t52 .skip (.exit 0))
 (Q (.block 1
 (R [a q53 none 3 t49 t51,l q54 3 t53,h q13 none [e,v,v],s 3 t13 t54]
 (R [f q55 1 t13,L q56 t55,k q57 51 [t56]]
 (C t57
 (r [m q58 t11,l q59 3 t13,k q60 52 [t58,t59]]) .skip))))
 (r [b q61 .add t51 (n 1),m q51 t61])))))))
 (Q (R [L q62 t8,g q63 [t62],m q64 (n 0)] (.block 2 (.loop
 (R [b q65 .lss t64 t63]
 (Q (C t65 .skip (.exit 2))
 (Q (.block 3
 (R [a q66 none 3 t62 t64,l q67 3 t66,h q15 none [e,v,v],s 3 t15 t67]
 (R [f q68 2 t15,L q69 t68,k q70 51 [t69]]
 (C t70
 (r [m q71 t11,l q72 3 t15,k q73 53 [t71,t72]]) .skip))))
 (r [b q74 .add t64 (n 1),m q64 t74])))))))
 (R [m q75 t11,O q76 (.nilCheck t75),f q77 0 t76,l q78 6 t77,m q79 t11,O q80 (.nilCheck t79),f q81 6 t80,l q82 2 t81,L q83 t8,V (.store 6 t6 t78) [⟨q83,.load none t8,none⟩,⟨q82,.load (some 2) t81,none⟩] [q83,q82,q81,q80,q79],V (.store 2 t7 t82) [⟨q83,.load none t8,none⟩] [q83],s 1 t8 t83,s 1 t9 (n 0)] .ret))))))))))⟩
def c11 : AFunc := ⟨[q0,q1],[.cell q4 none,.cell q5 none],R [O q2 (.box none t0),O q3 (.box none t1),h q4 none [v],h q5 none [z]]
 (R [O q6 (.makeFunc (.fn 54) [] [t4]),N (.defer (K 21) [t5,t6])]
 (R [l q7 6 t2,l q8 2 t3,k q9 23 [t7,t8]]
 (R [l q10 6 t2,l q11 2 t3,k q12 47 [t10,t11],s 1 t4 t12,s 1 t5 (n 0)] .ret)))⟩
def c12 : AFunc := ⟨[q0,q1],[.tmp q4],R [m q4 F]
 (R [m q5 t0,m q6 t1,k q7 55 [t5,t6],m q4 t7] .ret)⟩
def c13 : AFunc := ⟨[q0,q1],[.cell q4 none],R [O q2 (.box none t0),O q3 (.box none t1),h q4 none [z]]
 (R [N (.defer (K 21) [t4,K 56])]
 (R [l q8 6 t2,l q9 2 t3,k q10 23 [t8,t9]]
 (Q (R [f q11 0 t3,L q12 t11,g q13 [t12],m q14 (n 0)] (.block 0 (.loop
 (R [b q15 .lss t14 t13]
 (Q (C t15 .skip (.exit 0))
 (Q (.block 1
 (R [a q16 none 25 t12 t14,l q17 25 t16,h q6 none Y5,s 25 t6 t17]
 (R [l q18 6 t2,l q19 25 t6,k q20 57 [t18,t19],m q7 t20]
 (r [m q21 t7,b q22 .eql t21 (n 0),m q23 t7,k q24 24 [t22,t23]]))))
 (r [b q25 .add t14 (n 1),m q14 t25])))))))
 (Q (R [l q26 6 t2,l q27 2 t3,f q30 1 t3,L q31 t30,W q28 (.call (K 47) [t26,t27]) [⟨q31,.load none t30,none⟩] [q31,q30],W q29 (.call (K 58) [t28]) [⟨q31,.load none t30,none⟩] [q31,q30],k q32 59 [t29,t31]] (.block 2 (.rangeFunc t32 [q33] .skip (.block 3
 (R [s 1 t4 (n 9)] .ret)))))
 (R [s 1 t4 (n 0)] .ret)))))⟩
def c14 : AFunc := ⟨[q0],[.tmp q2,.tmp q3],R [m q2 (.const v),m q3 (.const v)]
 (R [k q9 5 [n 0],B q10 [e,z,w,z,z,e] [(0,1,S [105,100]),(1,1,n 2),(3,3,t9)],h q4 none [e,z,w,z,z,e],s 6 t4 t10]
 (R [l q11 6 t4,B q12 [e,z,w,z,z,e] [(0,1,S [110]),(1,1,n 2),(2,1,T)],O q13 (.buildSlice [e,z,w,z,z,e,e,z,w,z,z,e] 2 [(0,6,t11),(6,6,t12)]),O q14 (.buildSlice [z] 1 [(0,1,n 0)]),B q15 Y17 [(0,1,S [97]),(1,1,n 1),(2,1,t13),(3,1,t14)],h q5 none Y17,s 4 t5 t15]
 (R [l q16 6 t4,B q17 [e,z,w,z,z,e] [(0,1,S [97]),(1,1,n 2),(2,1,T)],O q18 (.buildSlice [e,z,w,z,z,e,e,z,w,z,z,e] 2 [(0,6,t16),(6,6,t17)]),O q19 (.buildSlice [z] 1 [(0,1,n 0)]),B q20 Y17 [(0,1,S [98]),(1,1,n 1),(2,1,t18),(3,1,t19)],h q6 none Y17,s 4 t6 t20]
 (R [l q21 4 t5,B q26 [z,z,e] [],l q30 4 t6,B q35 [z,z,e] [],W q22 (.call (K 5) [n 1]) [⟨q30,.load (some 4) t6,none⟩,⟨q21,.load (some 4) t5,none⟩] [q35,q30,q26,q21],W q23 (.call (K 5) [n 5]) [⟨q30,.load (some 4) t6,none⟩,⟨q21,.load (some 4) t5,none⟩] [q35,q30,q26,q21],O q24 (.buildSlice [z,z,e,z,z,e] 2 [(0,3,t22),(3,3,t23)]),W q25 (.call (K 5) [n 2]) [⟨q30,.load (some 4) t6,none⟩,⟨q21,.load (some 4) t5,none⟩] [q24,q35,q30,q26,q21],O q27 (.buildSlice [z,z,e,z,z,e] 2 [(0,3,t25),(3,3,t26)]),O q28 (.buildSlice [v,v] 2 [(0,1,t24),(1,1,t27)]),B q29 Y16 [(0,4,t21),(4,1,t28)],W q31 (.call (K 5) [n 7]) [⟨q30,.load (some 4) t6,none⟩,⟨q21,.load (some 4) t5,none⟩] [q29,q28,q27,q24,q35,q30,q26,q21],W q32 (.call (K 5) [n 1]) [⟨q30,.load (some 4) t6,none⟩,⟨q21,.load (some 4) t5,none⟩] [q29,q28,q27,q24,q35,q30,q26,q21],O q33 (.buildSlice [z,z,e,z,z,e] 2 [(0,3,t31),(3,3,t32)]),W q34 (.call (K 5) [n 8]) [⟨q30,.load (some 4) t6,none⟩,⟨q21,.load (some 4) t5,none⟩] [q33,q29,q28,q27,q24,q35,q30,q26,q21],O q36 (.buildSlice [z,z,e,z,z,e] 2 [(0,3,t34),(3,3,t35)]),O q37 (.buildSlice [v,v] 2 [(0,1,t33),(1,1,t36)]),B q38 Y16 [(0,4,t30),(4,1,t37)],O q39 (.buildSlice [e,z,v,v,v,e,z,v,v,v] 2 [(0,5,t29),(5,5,t38)]),m q7 t39]
 (R [B q40 Y14 [(0,1,n 2),(1,1,n 1)],k q41 5 [n 0],B q42 Y14 [(0,1,n 1),(2,3,t41)],O q43 (.buildSlice [z,z,z,z,e,v,z,z,z,z,e,v] 2 [(0,6,t40),(6,6,t42)]),B q44 Y14 [(0,1,n 14),(5,1,t43)],h q8 none Y14,s 6 t8 t44]
 (R [m q45 t7,l q46 6 t8,B q47 Y10 [(0,1,S [107]),(1,1,S [97]),(2,1,n 1),(3,6,t46)],O q48 (.buildSlice [z] 1 [(0,1,n 1)]),m q49 t0,B q50 Y10 [(0,1,S [102]),(1,1,S [98]),(2,1,n 2),(9,1,t48),(10,1,S [97]),(11,1,t49)],O q51 (.buildSlice [e,e,z,z,z,z,z,e,v,v,e,z,e,e,z,z,z,z,z,e,v,v,e,z] 2 [(0,12,t47),(12,12,t50)]),m q2 t45,m q3 t51] .ret))))))⟩
def c15 : AFunc := ⟨[q0,q1],[.cell q4 none,.cell q5 none],R [O q3 (.box none t1),h q4 none [v],h q5 none [z]]
 (R [O q8 (.makeFunc (.fn 60) [] [t4]),N (.defer (K 21) [t5,t8])]
 (R [m q9 t0,L q10 t3,k q11 61 [t9,t10]]
 (R [m q12 t0,k q13 58 [t12],h q6 none [v,.map none],s 2 t6 t13]
 (Q (R [l q14 2 t6,L q15 t3,k q16 59 [t14,t15]] (.block 0 (.rangeFunc t16 [q17]
 (r [h q7 none [z,v],s 2 t7 t17]) (.block 1
 (r [L q18 t4,l q19 2 t6,L q20 t3,l q21 2 t7,W q22 (.call (K 62) [t19,t20,t21]) [⟨q18,.load none t4,none⟩] [q18],O q23 (.buildSlice [z,v] 1 [(0,2,t22)]),j q24 (.append 2 [z,v] false none) [t18,t23],s 1 t4 t24])))))
 (R [L q25 t4,s 1 t4 t25,s 1 t5 (n 0)] .ret)))))⟩
def c16 : AFunc := ⟨[q0,q1,q2],[.cell q6 none,.cell q7 none],R [h q6 none [v],h q7 none [z]]
 (R [O q8 (.makeFunc (.fn 63) [] [t6]),N (.defer (K 21) [t7,t8])]
 (R [m q9 t0,m q10 t1,k q11 61 [t9,t10]]
 (R [m q12 t2,m q13 t0,k q14 64 [t13],k q15 45 [t12,t14],k q16 24 [t15,n 2]]
 (R [m q17 t0,m q18 t1,m q19 t2,k q20 48 [t17,t18,t19],s 1 t6 t20,s 1 t7 (n 0)] .ret))))⟩
def c17 : AFunc := ⟨[q0,q1,q2],[.cell q6 none,.cell q7 none],R [h q6 none [v],h q7 none [z]]
 (R [O q8 (.makeFunc (.fn 65) [] [t6]),N (.defer (K 21) [t7,t8])]
 (R [m q9 t0,m q10 t1,k q11 61 [t9,t10]]
 (R [m q12 t2,m q13 t0,k q14 64 [t13],k q15 45 [t12,t14],k q16 24 [t15,n 2]]
 (R [m q17 t0,m q18 t2,k q19 50 [t17,t18],m q20 t1,m q21 t2,k q22 49 [t19,t20,t21],s 1 t6 t22,s 1 t7 (n 0)] .ret))))⟩
def c18 : AFunc := ⟨[q0,q1],[.cell q4 none,.cell q5 none],R [h q4 none [v],h q5 none [z]]
 (R [O q6 (.makeFunc (.fn 66) [] [t4]),N (.defer (K 21) [t5,t6])]
 (R [m q7 t0,k q8 67 [t7],m q9 t8,mt q10 t1 q9,mt q11 t0 q9,Gt q12 (.call (K 64) [t11]) q9,Gt q13 (.call (K 45) [t10,t12]) q9,p q14 t9 t13 F,k q15 24 [t14,n 2]]
 (R [m q16 t0,m q17 t1,k q18 50 [t16,t17],s 1 t4 t18,s 1 t5 (n 0)] .ret)))⟩
def c19 : AFunc := ⟨[q0,q1],[.tmp q4],R [m q4 F]
 (Q (R [m q6 t0,g q7 [t6],m q8 t1,g q9 [t8],b q10 .neq t7 t9]
 (C t10
 (R [m q4 F] .ret) .skip))
 (Q (R [m q5 (n 0)] (.block 0 (.loop
 (Q (R [m q11 t5,m q12 t0,g q13 [t12],b q14 .lss t11 t13]
 (C t14 .skip (.exit 0)))
 (Q (.block 1
 (R [m q17 t0,m q18 t5,a q19 none 2 t17 t18,f q20 0 t19,L q21 t20,m q22 t1,m q23 t5,a q24 none 2 t22 t23,f q25 0 t24,L q26 t25,b q27 .neq t21 t26,m q28 t27,mf q29 t0 q28,mf q30 t5 q28,Gf q31 (.indexAddr none 2 t29 t30) q28,Gf q32 (.fieldAddr 1 t31) q28,Gf q33 (.load none t32) q28,mf q34 t1 q28,mf q35 t5 q28,Gf q36 (.indexAddr none 2 t34 t35) q28,Gf q37 (.fieldAddr 1 t36) q28,Gf q38 (.load none t37) q28,Gf q39 (.call (K 12) [t33,t38]) q28,Gf q40 (.un .not t39) q28,p q41 t28 T t40]
 (C t41
 (R [m q4 F] .ret) .skip)))
 (r [m q15 t5,b q16 .add t15 (n 1),m q5 t16]))))))
 (R [m q4 T] .ret)))⟩
def c20 : AFunc := ⟨[q0,q1],[.tmp q4],R [m q4 (n 0)]
 (Q (R [m q5 t1,k q6 68 [t5],O q7 (.un .not t6),m q8 t7,mf q9 t0 q8,mf q10 t1 q8,Gf q11 (.call (K 69) [t9,t10]) q8,Gf q12 (.un .not t11) q8,p q13 t8 T t12]
 (C t13
 (R [m q4 (n 2)] .ret) .skip))
 (R [m q4 (n 0)] .ret))⟩
def c21 : AFunc := ⟨[q0,q1],[],R [O q7 .recover] (.block 0
 (R [O q9 (.eql false (.one .iface) t7 I)]
 (C t9
 (r [m q4 t7])
 (R [O q10 (.typeAssert 152 (.agg [z]) t7 true),x q11 t10 1,x q12 t10 0]
 (C t11
 (R [h q5 none [z],s 1 t5 t12]
 (R [m q13 t1,O q14 (.call t13 [])]
 (r [m q15 t0,f q16 0 t5,L q17 t16,O q18 (.nilCheck t15),s 1 t18 t17])))
 (R [m q6 t7]
 (r [m q8 t6,N (.panic t8)])))))))⟩
def c23 : AFunc := ⟨[q0,q1],[],R [O q2 (.box none t0),O q3 (.box none t1)]
 (Q (R [f q9 0 t3,L q10 t9,g q11 [t10],m q12 (n 0)] (.block 0 (.loop
 (R [b q13 .lss t12 t11]
 (Q (C t13 .skip (.exit 0))
 (Q (.block 1
 (R [a q14 none 25 t10 t12,l q15 25 t14,h q5 none Y5,s 25 t5 t15]
 (R [l q17 6 t2,l q18 25 t5,k q19 70 [t17,t18,.const v],m q16 t19,x q20 t16 0,x q21 t16 1,m q6 t20,m q7 t21]
 (r [m q22 t7,b q23 .neq t22 (n 2),k q24 24 [t23,n 2]]))))
 (r [b q25 .add t12 (n 1),m q12 t25])))))))
 (R [f q26 0 t3,L q27 t26,k q28 46 [t27],m q8 t28]
 (r [m q29 t8,k q30 68 [t29],m q31 t30,Gt q32 (.fieldAddr 1 t3) q31,Gt q33 (.load none t32) q31,mt q34 t8 q31,Gt q35 (.call (K 69) [t33,t34]) q31,p q36 t31 t35 F,k q37 24 [t36,n 2]])))⟩
def c24 : AFunc := ⟨[q0,q1],[],R [m q4 t0,O q5 (.un .not t4)]
 (C t5
 (r [m q6 t1,B q7 [z] [(0,1,t6)],O q8 (.makeInterface 152 t7),N (.panic t8)]) .skip)⟩
def c25 : AFunc := ⟨[q0],[.tmp q2],R [O q1 (.box none t0),m q2 (n 0)]
 (Q (R [l q3 4 t1,k q4 71 [t3],O q5 (.un .not t4)]
 (C t5
 (R [m q2 (n 2)] .ret) .skip))
 (R [m q2 (n 0)] .ret))⟩
def c26 : AFunc := ⟨[q0,q1],[.tmp q4],R [O q2 (.box none t0),O q3 (.box none t1),m q4 (n 0)]
 (R [f q5 0 t2,L q6 t5,O q7 (.makeFunc (.fn 72) [] [t3]),k q8 28 [t6,t7],m q4 t8] .ret)⟩
def c27 : AFunc := ⟨[q0],[.cell q2 (some 2)],R [O q1 (.box none t0),h q2 none [v,v]]
 (R [B q8 [v,v] [],h q3 none [v,v],s 2 t3 t8]
 (Q (R [f q9 0 t1,L q10 t9,g q11 [t10],m q12 (n 0)] (.block 0 (.loop
 (R [b q13 .lss t12 t11]
 (Q (C t13 .skip (.exit 0))
 (Q (.block 1
 (R [a q14 none 25 t10 t12,l q15 25 t14,h q5 none Y5,s 25 t5 t15]
 (r [f q16 0 t3,L q17 t16,l q18 25 t5,W q19 (.call (K 73) [t18]) [⟨q17,.load none t16,none⟩] [q17,q16],O q20 (.buildSlice Y5 1 [(0,25,t19)]),j q21 (.append 25 Y5 false none) [t17,t20],f q22 0 t3,s 1 t22 t21])))
 (r [b q23 .add t12 (n 1),m q12 t23])))))))
 (Q (R [f q24 1 t1,L q25 t24,g q26 [t25],m q27 (n 0)] (.block 2 (.loop
 (R [b q28 .lss t27 t26]
 (Q (C t28 .skip (.exit 2))
 (Q (.block 3
 (R [a q29 none 12 t25 t27,l q30 12 t29,h q7 none Y10,s 12 t7 t30]
 (r [f q31 1 t3,L q32 t31,l q33 12 t7,W q34 (.call (K 74) [t33]) [⟨q32,.load none t31,none⟩] [q32,q31],O q35 (.buildSlice Y10 1 [(0,12,t34)]),j q36 (.append 12 Y10 false none) [t32,t35],f q37 1 t3,s 1 t37 t36])))
 (r [b q38 .add t27 (n 1),m q27 t38])))))))
 (R [l q39 2 t3,s 2 t2 t39] .ret))))⟩
def c28 : AFunc := ⟨[q0,q1],[.tmp q4],R [m q4 (n 0)]
 (Q (R [m q6 t0,g q7 [t6],m q8 (n 0)] (.block 0 (.loop
 (R [b q9 .lss t8 t7]
 (Q (C t9 .skip (.exit 0))
 (Q (.block 1
 (R [m q10 t8,m q5 t10]
 (R [m q11 t1,m q12 t0,m q13 t5,a q14 none 25 t12 t13,l q15 25 t14,O q16 (.call t11 [t15])]
 (C t16
 (R [m q17 t5,m q4 t17] .ret) .skip))))
 (r [b q18 .add t8 (n 1),m q8 t18])))))))
 (R [m q4 (n (-1))] .ret))⟩
def c30 : AFunc := ⟨[q0],[.cell q2 (some 4)],R [O q1 (.box none t0),h q2 none Y17]
 (R [f q6 0 t1,l q7 5 t6,k q8 75 [t7],m q5 t8,x q9 t5 0,x q10 t5 1,h q3 none Y17,s 4 t3 t9,m q4 t10]
 (R [l q11 4 t3,s 4 t2 t11] .ret))⟩
def c31 : AFunc := ⟨[q0,q1,q2],[.tmp q6],R [m q6 (.const v)]
 (R [m q10 t0,m q11 t1,O q12 (.slice .slice 25 t10 (some t11) none none)]
 (R [m q13 t2,g q14 [t13],m q7 t14]
 (Q (R [m q15 t7,b q16 .eql t15 (n 0)]
 (C t16
 (R [m q17 t0,m q6 t17] .ret) .skip))
 (R [m q18 t0,g q19 [t18],m q8 t19]
 (Q (R [m q20 t1,m q21 t8,b q22 .eql t20 t21]
 (C t22
 (R [m q23 t0,m q24 t2,j q25 (.append 25 Y5 false none) [t23,t24],m q6 t25] .ret) .skip))
 (Q (R [m q26 t8,m q27 t7,b q28 .add t26 t27,m q29 t0,j q30 .cap [t29],b q31 .gtr t28 t30]
 (C t31
 (R [m q32 t0,m q33 t1,O q34 (.slice .slice 25 t32 none (some t33) none),m q35 t8,m q36 t7,b q37 .add t35 t36,m q38 t1,b q39 .sub t37 t38,j q40 (.append 25 Y5 true none) [t34,t39],m q9 t40]
 (R [m q41 t9,m q42 t1,O q43 (.slice .slice 25 t41 (some t42) none none),m q44 t2,j q45 (.copy 25) [t43,t44]]
 (R [m q46 t9,m q47 t1,m q48 t7,b q49 .add t47 t48,O q50 (.slice .slice 25 t46 (some t49) none none),m q51 t0,m q52 t1,O q53 (.slice .slice 25 t51 (some t52) none none),j q54 (.copy 25) [t50,t53]]
 (R [m q55 t9,m q6 t55] .ret)))) .skip))
 (R [m q56 t0,m q57 t8,m q58 t7,b q59 .add t57 t58,O q60 (.slice .slice 25 t56 none (some t59) none),m q0 t60]
 (Q (R [m q61 t2,m q62 t0,m q63 t1,m q64 t7,b q65 .add t63 t64,O q66 (.slice .slice 25 t62 (some t65) none none),k q67 76 [t61,t66],O q68 (.un .not t67)]
 (C t68
 (R [m q69 t0,m q70 t1,m q71 t7,b q72 .add t70 t71,O q73 (.slice .slice 25 t69 (some t72) none none),m q74 t0,m q75 t1,O q76 (.slice .slice 25 t74 (some t75) none none),j q77 (.copy 25) [t73,t76]]
 (R [m q78 t0,m q79 t1,O q80 (.slice .slice 25 t78 (some t79) none none),m q81 t2,j q82 (.copy 25) [t80,t81]]
 (R [m q83 t0,m q6 t83] .ret))) .skip))
 (R [m q84 t0,m q85 t8,O q86 (.slice .slice 25 t84 (some t85) none none),m q87 t2,j q88 (.copy 25) [t86,t87]]
 (R [m q89 t0,m q90 t1,O q91 (.slice .slice 25 t89 (some t90) none none),m q92 t7,k q93 77 [t91,t92]]
 (R [m q94 t0,m q6 t94] .ret)))))))))))⟩
def c32 : AFunc := ⟨[q0],[.cell q2 (some 4)],R [O q1 (.box none t0),h q2 none Y17]
 (R [f q3 2 t1,L q4 t3,f q6 3 t1,L q7 t6,W q5 (.call (K 78) [t4]) [⟨q7,.load none t6,none⟩] [q7,q6],f q9 2 t1,D q8 (.call (K 79) [t7]) [q9],s 1 t9 t5,f q10 3 t1,s 1 t10 t8]
 (R [l q11 4 t1,s 4 t2 t11] .ret))⟩
def c33 : AFunc := ⟨[q0,q1,q2],[.cell q6 (some 6),.cell q7 (some 25),.cell q8 none],R [O q3 (.box none t0),O q4 (.box none t1),h q6 none Y15,h q7 none Y5,h q8 none [z]]
 (R [O q10 (.makeFunc (.fn 81) [] [t6,t7]),N (.defer (K 80) [t8,t10])]
 (R [l q11 6 t3,l q12 25 t4,k q13 82 [t11,t12],m q9 t13]
 (R [m q14 t2,m q15 t9,O q16 (.call t14 [t15])]
 (R [m q17 t9,O q18 (.nilCheck t17),f q19 0 t18,f q20 0 t19,l q21 6 t20,m q22 t9,O q23 (.nilCheck t22),f q24 6 t23,l q25 25 t24,V (.store 6 t6 t21) [⟨q25,.load (some 25) t24,none⟩] [q25,q24,q23,q22],s 25 t7 t25,s 1 t8 (n 0)] .ret))))⟩
def c34 : AFunc := ⟨[q0,q1],[],R [l q8 11 t1,m q9 t0,O q10 (.nilCheck t9),f q11 31 t10,l q12 4 t11,k q13 36 [t8,t12],k q14 35 [t13,n 2]]
 (R [m q16 t0,O q17 (.nilCheck t16),f q18 35 t17,L q19 t18,f q20 0 t1,L q21 t20,O q22 (.lookup z (.one .str) t19 t21 true),m q15 t22,x q23 t15 0,x q24 t15 1,m q3 t23,m q4 t24]
 (R [m q25 t4,O q26 (.un .not t25),k q27 35 [t26,n 5]]
 (R [m q28 t0,O q29 (.nilCheck t28),f q30 6 t29,f q31 23 t30,L q32 t31,g q33 [t32],b q34 .lss t33 (n 8),k q35 35 [t34,n 3]]
 (R [m q37 t0,O q38 (.nilCheck t37),f q39 6 t38,f q40 23 t39,L q41 t40,f q42 0 t1,L q43 t42,k q44 37 [t41,t43,K 38],m q36 t44,x q45 t36 0,x q46 t36 1,m q5 t45,m q6 t46]
 (R [m q47 t0,O q48 (.nilCheck t47),f q49 0 t48,l q50 11 t1,m q51 t0,O q52 (.nilCheck t51),f q53 6 t52,f q54 0 t53,l q55 5 t54,m q56 t0,O q57 (.nilCheck t56),f q58 6 t57,f q59 5 t58,l q60 18 t59,h q7 none Y8,D q61 (.call (K 40) [t49,t50,t55,t60]) [q7],s 18 t7 t61]
 (R [m q62 t0,m q63 t0,O q64 (.nilCheck t63),f q65 6 t64,f q66 23 t65,L q67 t66,m q68 t5,l q69 11 t1,W q70 (.call (K 42) [t69]) [⟨q67,.load none t66,none⟩] [q68,q67,q66,q65,q64,q63,q62],O q71 (.buildSlice Y11 1 [(0,11,t70)]),D q72 (.call (K 41) [t67,t68,t71]) [q62],O q73 (.nilCheck t62),f q74 6 t73,f q75 23 t74,s 1 t75 t72]
 (r [m q76 t0,m q77 t0,O q78 (.nilCheck t77),f q79 6 t78,f q80 24 t79,L q81 t80,m q82 t5,l q83 18 t7,O q84 (.buildSlice Y8 1 [(0,18,t83)]),D q85 (.call (K 43) [t81,t82,t84]) [q76],O q86 (.nilCheck t76),f q87 6 t86,f q88 24 t87,s 1 t88 t85])))))))⟩
def c35 : AFunc := ⟨[q0,q1],[],R [m q4 t0,O q5 (.un .not t4)]
 (C t5
 (r [m q6 t1,B q7 [z] [(0,1,t6)],O q8 (.makeInterface 166 t7),N (.panic t8)]) .skip)⟩
def c36 : AFunc := ⟨[q0,q1],[.tmp q4],R [O q2 (.box none t0),O q3 (.box none t1),m q4 F]
 (Q (R [f q12 0 t2,L q13 t12,k q14 83 [t13],O q15 (.un .not t14),m q16 t15,Gf q17 (.fieldAddr 1 t2) q16,Gf q18 (.load none t17) q16,Gf q19 (.fieldAddr 0 t3) q16,Gf q20 (.load none t19) q16,Gf q21 (.bin .neq t18 t20) q16,p q22 t16 T t21,m q23 t22,Gf q24 (.fieldAddr 2 t2) q23,Gf q25 (.load none t24) q23,Gf q26 (.bi (.len .slice) [t25]) q23,Gf q27 (.bin .lss t26 (n 1)) q23,p q28 t23 T t27,m q29 t28,Gf q30 (.fieldAddr 2 t2) q29,Gf q31 (.load none t30) q29,Gf q32 (.bi (.len .slice) [t31]) q29,Gf q33 (.bin .gtr t32 (n 4)) q29,p q34 t29 T t33]
 (C t34
 (R [m q4 F] .ret) .skip))
 (R [l q35 4 t3,k q36 84 [t35],m q5 t36]
 (Q (R [f q37 2 t2,L q38 t37,g q39 [t38],m q40 (n 0)] (.block 0 (.loop
 (R [b q41 .lss t40 t39]
 (Q (C t41 .skip (.exit 0))
 (Q (.block 1
 (R [m q42 t40,a q43 none 6 t38 t40,l q44 6 t43,h q7 none Y14,m q6 t42,s 6 t7 t44]
 (R [l q46 6 t7,m q47 t5,k q48 85 [t46,t47,.const v],m q45 t48,x q49 t45 0,x q50 t45 1,m q8 t49,m q9 t50]
 (R [m q51 t9,b q52 .neq t51 (n 0),m q53 t52,Gf q54 (.fieldAddr 10 t2) q53,Gf q55 (.load none t54) q53,mf q56 t55 q53,mt q57 t6 q56,Gt q58 (.bin .eql t57 (n 0)) q56,Gf q59 (.pick t56 t58 F) q53,mf q60 t59 q53,mt q61 t8 q60,Gt q62 (.bin .neq t61 (n 3)) q60,Gf q63 (.pick t60 t62 F) q53,mf q64 t63 q53,mt q65 t8 q64,Gt q66 (.bin .neq t65 (n 0)) q64,Gf q67 (.pick t64 t66 F) q53,p q68 t53 T t67]
 (C t68
 (R [m q4 F] .ret) .skip)))))
 (r [b q69 .add t40 (n 1),m q40 t69])))))))
 (Q (R [l q70 11 t2,k q71 86 [t70],O q72 (.un .not t71)]
 (C t72
 (R [m q4 T] .ret) .skip))
 (R [f q74 3 t2,l q75 6 t74,m q76 t5,k q77 85 [t75,t76,.const v],m q73 t77,x q78 t73 0,x q79 t73 1,m q10 t78,m q11 t79]
 (R [m q80 t11,b q81 .eql t80 (n 0),m q82 t81,mt q83 t10 q82,Gt q84 (.bin .eql t83 (n 1)) q82,mt q85 t84 q82,mf q86 t10 q85,Gf q87 (.bin .eql t86 (n 0)) q85,Gt q88 (.pick t85 T t87) q82,p q89 t82 t88 F,m q4 t89] .ret))))))⟩
def c37 : AFunc := ⟨[q0,q1,q2],[.tmp q6,.tmp q7],R [m q6 (n 0),m q7 F]
 (R [m q12 t0,g q13 [t12],m q8 t13]
 (R [m q14 t8,m q9 (n 0),m q10 t14]
 (Q (.block 0 (.loop
 (Q (R [m q15 t9,m q16 t10,b q17 .lss t15 t16]
 (C t17 .skip (.exit 0))) (.block 1
 (R [m q18 t9,m q19 t10,b q20 .add t18 t19,O q21 (.convInt .u64 t20),b q22 .shr t21 (i .u64 1),O q23 (.convInt .i64 t22),m q11 t23]
 (R [m q24 t2,m q25 t0,m q26 t11,a q27 none 11 t25 t26,l q28 11 t27,m q29 t1,O q30 (.call t24 [t28,t29]),b q31 .lss t30 (n 0)]
 (C t31
 (r [m q32 t11,b q33 .add t32 (n 1),m q9 t33])
 (r [m q34 t11,m q10 t34]))))))))
 (R [m q35 t9,m q36 t9,m q37 t8,b q38 .lss t36 t37,m q39 t38,mt q40 t2 q39,mt q41 t0 q39,mt q42 t9 q39,Gt q43 (.indexAddr none 11 t41 t42) q39,Gt q44 (.load (some 11) t43) q39,mt q45 t1 q39,Gt q46 (.call t40 [t44,t45]) q39,Gt q47 (.bin .eql t46 (n 0)) q39,p q48 t39 t47 F,m q6 t35,m q7 t48] .ret))))⟩
def c39 : AFunc := ⟨[q0,q1],[.tmp q4],R [m q4 (n 0)]
 (R [m q7 t0,k q8 87 [t7],m q5 t8]
 (R [m q9 t1,k q10 87 [t9],m q6 t10]
 (Q (R [m q11 t5]
 (C t11
 (Q (R [m q12 t6]
 (C t12
 (R [m q4 (n 0)] .ret) .skip))
 (R [m q4 (n (-1))] .ret)) .skip))
 (Q (R [m q13 t6]
 (C t13
 (R [m q4 (n 1)] .ret) .skip))
 (Q (R [m q14 t0,m q15 t1,b q16 .lss t14 t15]
 (C t16
 (R [m q4 (n (-1))] .ret) .skip))
 (Q (R [m q17 t0,m q18 t1,b q19 .gtr t17 t18]
 (C t19
 (R [m q4 (n 1)] .ret) .skip))
 (R [m q4 (n 0)] .ret)))))))⟩
def c40 : AFunc := ⟨[q0,q1,q2,q3],[.cell q8 (some 18)],R [O q4 (.box none t0),O q5 (.box none t1),O q6 (.box none t2),O q7 (.box none t3),h q8 none Y8]
 (R [h q9 none Y8]
 (R [k q13 88 [],h q10 none [.nilFunc],s 1 t10 t13]
 (R [L q14 t4,O q15 (.nilCheck t14),f q16 0 t15,l q17 6 t16,B q18 Y15 [(0,6,t17)],O q19 (.box none t18),m q11 t19]
 (Q (R [m q20 t11,l q21 11 t5,l q22 5 t6,l q23 18 t7,k q24 89 [t20,t21,t22,t23]] (.block 0 (.rangeFunc t24 [q25]
 (r [h q12 none [e,e],s 2 t12 t25]) (.block 1
 (R [L q26 t10,f q27 0 t12,L q28 t27,O q29 (.call t26 [t28])]
 (r [L q30 t4,l q31 18 t9,f q32 0 t12,L q33 t32,f q34 1 t12,L q35 t34,k q36 90 [t30,t31,t33,t35],s 18 t9 t36]))))))
 (R [l q37 18 t9,s 18 t8 t37] .ret)))))⟩
def c41 : AFunc := ⟨[q0,q1,q2],[.tmp q6],R [m q6 (.const v)]
 (R [m q10 t0,m q11 t1,O q12 (.slice .slice 11 t10 (some t11) none none)]
 (R [m q13 t2,g q14 [t13],m q7 t14]
 (Q (R [m q15 t7,b q16 .eql t15 (n 0)]
 (C t16
 (R [m q17 t0,m q6 t17] .ret) .skip))
 (R [m q18 t0,g q19 [t18],m q8 t19]
 (Q (R [m q20 t1,m q21 t8,b q22 .eql t20 t21]
 (C t22
 (R [m q23 t0,m q24 t2,j q25 (.append 11 Y11 false none) [t23,t24],m q6 t25] .ret) .skip))
 (Q (R [m q26 t8,m q27 t7,b q28 .add t26 t27,m q29 t0,j q30 .cap [t29],b q31 .gtr t28 t30]
 (C t31
 (R [m q32 t0,m q33 t1,O q34 (.slice .slice 11 t32 none (some t33) none),m q35 t8,m q36 t7,b q37 .add t35 t36,m q38 t1,b q39 .sub t37 t38,j q40 (.append 11 Y11 true none) [t34,t39],m q9 t40]
 (R [m q41 t9,m q42 t1,O q43 (.slice .slice 11 t41 (some t42) none none),m q44 t2,j q45 (.copy 11) [t43,t44]]
 (R [m q46 t9,m q47 t1,m q48 t7,b q49 .add t47 t48,O q50 (.slice .slice 11 t46 (some t49) none none),m q51 t0,m q52 t1,O q53 (.slice .slice 11 t51 (some t52) none none),j q54 (.copy 11) [t50,t53]]
 (R [m q55 t9,m q6 t55] .ret)))) .skip))
 (R [m q56 t0,m q57 t8,m q58 t7,b q59 .add t57 t58,O q60 (.slice .slice 11 t56 none (some t59) none),m q0 t60]
 (Q (R [m q61 t2,m q62 t0,m q63 t1,m q64 t7,b q65 .add t63 t64,O q66 (.slice .slice 11 t62 (some t65) none none),k q67 91 [t61,t66],O q68 (.un .not t67)]
 (C t68
 (R [m q69 t0,m q70 t1,m q71 t7,b q72 .add t70 t71,O q73 (.slice .slice 11 t69 (some t72) none none),m q74 t0,m q75 t1,O q76 (.slice .slice 11 t74 (some t75) none none),j q77 (.copy 11) [t73,t76]]
 (R [m q78 t0,m q79 t1,O q80 (.slice .slice 11 t78 (some t79) none none),m q81 t2,j q82 (.copy 11) [t80,t81]]
 (R [m q83 t0,m q6 t83] .ret))) .skip))
 (R [m q84 t0,m q85 t8,O q86 (.slice .slice 11 t84 (some t85) none none),m q87 t2,j q88 (.copy 11) [t86,t87]]
 (R [m q89 t0,m q90 t1,O q91 (.slice .slice 11 t89 (some t90) none none),m q92 t7,k q93 92 [t91,t92]]
 (R [m q94 t0,m q6 t94] .ret)))))))))))⟩
def c42 : AFunc := ⟨[q0],[.cell q2 (some 11)],R [O q1 (.box none t0),h q2 none Y11]
 (R [f q6 2 t1,L q7 t6,m q3 t7]
 (R [f q8 2 t1,s 1 t8 (.const v)]
 (Q (R [m q9 t3,g q10 [t9],m q11 (n 0)] (.block 0 (.loop
 (R [b q12 .lss t11 t10]
 (Q (C t12 .skip (.exit 0))
 (Q (.block 1
 (R [a q13 none 6 t9 t11,l q14 6 t13,h q5 none Y14,s 6 t5 t14]
 (r [f q15 2 t1,L q16 t15,l q17 6 t5,W q18 (.call (K 93) [t17]) [⟨q16,.load none t15,none⟩] [q16,q15],O q19 (.buildSlice Y14 1 [(0,6,t18)]),j q20 (.append 6 Y14 false none) [t16,t19],f q21 2 t1,s 1 t21 t20])))
 (r [b q22 .add t11 (n 1),m q11 t22])))))))
 (R [f q23 3 t1,l q24 6 t23,k q25 93 [t24],f q26 3 t1,s 6 t26 t25]
 (R [l q27 11 t1,s 11 t2 t27] .ret)))))⟩
def c43 : AFunc := ⟨[q0,q1,q2],[.tmp q6],R [m q6 (.const v)]
 (R [m q10 t0,m q11 t1,O q12 (.slice .slice 18 t10 (some t11) none none)]
 (R [m q13 t2,g q14 [t13],m q7 t14]
 (Q (R [m q15 t7,b q16 .eql t15 (n 0)]
 (C t16
 (R [m q17 t0,m q6 t17] .ret) .skip))
 (R [m q18 t0,g q19 [t18],m q8 t19]
 (Q (R [m q20 t1,m q21 t8,b q22 .eql t20 t21]
 (C t22
 (R [m q23 t0,m q24 t2,j q25 (.append 18 Y8 false none) [t23,t24],m q6 t25] .ret) .skip))
 (Q (R [m q26 t8,m q27 t7,b q28 .add t26 t27,m q29 t0,j q30 .cap [t29],b q31 .gtr t28 t30]
 (C t31
 (R [m q32 t0,m q33 t1,O q34 (.slice .slice 18 t32 none (some t33) none),m q35 t8,m q36 t7,b q37 .add t35 t36,m q38 t1,b q39 .sub t37 t38,j q40 (.append 18 Y8 true none) [t34,t39],m q9 t40]
 (R [m q41 t9,m q42 t1,O q43 (.slice .slice 18 t41 (some t42) none none),m q44 t2,j q45 (.copy 18) [t43,t44]]
 (R [m q46 t9,m q47 t1,m q48 t7,b q49 .add t47 t48,O q50 (.slice .slice 18 t46 (some t49) none none),m q51 t0,m q52 t1,O q53 (.slice .slice 18 t51 (some t52) none none),j q54 (.copy 18) [t50,t53]]
 (R [m q55 t9,m q6 t55] .ret)))) .skip))
 (R [m q56 t0,m q57 t8,m q58 t7,b q59 .add t57 t58,O q60 (.slice .slice 18 t56 none (some t59) none),m q0 t60]
 (Q (R [m q61 t2,m q62 t0,m q63 t1,m q64 t7,b q65 .add t63 t64,O q66 (.slice .slice 18 t62 (some t65) none none),k q67 94 [t61,t66],O q68 (.un .not t67)]
 (C t68
 (R [m q69 t0,m q70 t1,m q71 t7,b q72 .add t70 t71,O q73 (.slice .slice 18 t69 (some t72) none none),m q74 t0,m q75 t1,O q76 (.slice .slice 18 t74 (some t75) none none),j q77 (.copy 18) [t73,t76]]
 (R [m q78 t0,m q79 t1,O q80 (.slice .slice 18 t78 (some t79) none none),m q81 t2,j q82 (.copy 18) [t80,t81]]
 (R [m q83 t0,m q6 t83] .ret))) .skip))
 (R [m q84 t0,m q85 t8,O q86 (.slice .slice 18 t84 (some t85) none none),m q87 t2,j q88 (.copy 18) [t86,t87]]
 (R [m q89 t0,m q90 t1,O q91 (.slice .slice 18 t89 (some t90) none none),m q92 t7,k q93 95 [t91,t92]]
 (R [m q94 t0,m q6 t94] .ret)))))))))))⟩
def c44 : AFunc := ⟨[q0,q1,q2],[],r [B q3 Y15 [],B q4 [v,v] [],s 6 t0 t3,s 2 t1 t4,s 1 t2 (.const v)]⟩
def c45 : AFunc := ⟨[q0,q1],[.tmp q4],R [m q4 F]
 (Q (R [m q9 t0,g q10 [t9],m q11 (n 0)] (.block 0 (.loop
 (R [b q12 .lss t11 t10]
 (Q (C t12 .skip (.exit 0))
 (Q (.block 1
 (R [m q13 t11,a q14 none 3 t9 t11,l q15 3 t14,h q6 none [e,v,v],m q5 t13,s 3 t6 t15]
 (R [m q17 t1,f q18 0 t6,L q19 t18,k q20 96 [t17,t19],m q16 t20,x q21 t16 0,x q22 t16 1,h q7 none Y17,s 4 t7 t21,m q8 t22]
 (Q (R [m q23 t8,O q24 (.un .not t23),m q25 t24,Gf q26 (.load (some 3) t6) q25,Gf q27 (.load (some 4) t7) q25,Gf q28 (.call (K 97) [t26,t27]) q25,Gf q29 (.un .not t28) q25,p q30 t25 T t29]
 (C t30
 (R [m q4 F] .ret) .skip))
 (R [m q31 t5,b q32 .gtr t31 (n 0),m q33 t32,mt q34 t0 q33,mt q35 t5 q33,Gt q36 (.bin .sub t35 (n 1)) q33,Gt q37 (.indexAddr none 3 t34 t36) q33,Gt q38 (.fieldAddr 0 t37) q33,Gt q39 (.load none t38) q33,Gt q40 (.fieldAddr 0 t6) q33,Gt q41 (.load none t40) q33,Gt q42 (.bin .gtr t39 t41) q33,mt q43 t42 q33,mf q44 t0 q43,mf q45 t5 q43,Gf q46 (.bin .sub t45 (n 1)) q43,Gf q47 (.indexAddr none 3 t44 t46) q43,Gf q48 (.fieldAddr 0 t47) q43,Gf q49 (.load none t48) q43,Gf q50 (.fieldAddr 0 t6) q43,Gf q51 (.load none t50) q43,Gf q52 (.bin .eql t49 t51) q43,mf q53 t52 q43,Gt q54 (.load (some 4) t7) q53,mt q55 t0 q53,mt q56 t5 q53,Gt q57 (.bin .sub t56 (n 1)) q53,Gt q58 (.indexAddr none 3 t55 t57) q53,Gt q59 (.load (some 3) t58) q53,Gt q61 (.load (some 3) t6) q53,⟨some q60,.call (K 99) [t59],some (q53,true),[⟨q61,.load (some 3) t6,some (q53,true)⟩,⟨q54,.load (some 4) t7,some (q53,true)⟩],[q61,q54]⟩,⟨some q62,.call (K 99) [t61],some (q53,true),[⟨q54,.load (some 4) t7,some (q53,true)⟩],[q54]⟩,Gt q63 (.call (K 98) [t54,t60,t62]) q53,Gt q64 (.bin .geq t63 (n 0)) q53,Gf q65 (.pick t53 t64 F) q43,Gt q66 (.pick t43 T t65) q33,p q67 t33 t66 F]
 (C t67
 (R [m q4 F] .ret) .skip))))))
 (r [b q68 .add t11 (n 1),m q11 t68])))))))
 (R [m q4 T] .ret))⟩
def c46 : AFunc := ⟨[q0],[.tmp q2],R [m q2 (.const v)]
 (R [m q3 (.const v)]
 (Q (R [m q6 t0,g q7 [t6],m q8 (n 0)] (.block 0 (.loop
 (R [b q9 .lss t8 t7]
 (Q (C t9 .skip (.exit 0))
 (Q (.block 1
 (R [a q10 none 25 t6 t8,l q11 25 t10,h q5 none Y5,s 25 t5 t11]
 (r [m q12 t3,l q13 25 t5,k q14 30 [t13],O q15 (.buildSlice Y17 1 [(0,4,t14)]),j q16 (.append 4 Y17 false none) [t12,t15],m q3 t16])))
 (r [b q17 .add t8 (n 1),m q8 t17])))))))
 (R [m q18 t3,m q2 t18] .ret)))⟩
def c47 : AFunc := ⟨[q0,q1],[.tmp q4],R [O q2 (.box none t0),O q3 (.box none t1),m q4 (.const v)]
 (R [m q5 (.const v)]
 (Q (R [f q14 0 t3,L q15 t14,g q16 [t15],m q17 (n 0)] (.block 0 (.loop
 (R [b q18 .lss t17 t16]
 (Q (C t18 .skip (.exit 0))
 (Q (.block 1
 (R [a q19 none 25 t15 t17,l q20 25 t19,h q7 none Y5,s 25 t7 t20]
 (R [l q21 25 t7,k q22 30 [t21],k q23 32 [t22],B q24 Y16 [(0,4,t23)],h q8 none Y16,s 5 t8 t24]
 (Q (R [l q25 6 t2,f q26 5 t7,l q27 18 t26,k q28 101 [t25,t27,S [],S [],n 20000],x q29 t28 0,x q30 t28 1,k q31 100 [t29,t30],g q32 [t31],m q33 (n 0)] (.block 2 (.loop
 (R [b q34 .lss t33 t32]
 (Q (C t34 .skip (.exit 2))
 (Q (.block 3
 (R [a q35 none 2 t31 t33,l q36 2 t35,h q10 none [e,e],s 2 t10 t36]
 (R [f q38 0 t7,l q39 5 t38,f q40 0 t10,L q41 t40,f q42 1 t10,L q43 t42,k q44 102 [t39,t41,t43],m q37 t44,x q45 t37 0,x q46 t37 1,m q11 t45,m q12 t46]
 (R [m q47 t12,b q48 .eql t47 (n 0),k q49 24 [t48,n 8]]
 (R [f q50 4 t8,L q51 t50,g q52 [t51],m q13 t52]
 (R [m q53 t13,b q54 .eql t53 (n 0),m q55 t54,Gf q56 (.fieldAddr 0 t8) q55,Gf q57 (.load (some 4) t56) q55,Gf q58 (.fieldAddr 4 t8) q55,Gf q59 (.load none t58) q55,mf q60 t13 q55,Gf q61 (.bin .sub t60 (n 1)) q55,Gf q62 (.indexAddr none 1 t59 t61) q55,Gf q63 (.load none t62) q55,mf q64 t11 q55,Gf q65 (.call (K 98) [t57,t63,t64]) q55,Gf q66 (.bin .lss t65 (n 0)) q55,p q67 t55 T t66,k q68 24 [t67,n 8]]
 (r [f q69 4 t8,L q70 t69,m q71 t11,O q72 (.buildSlice [v] 1 [(0,1,t71)]),j q73 (.append 1 [v] false none) [t70,t72],f q74 4 t8,s 1 t74 t73])))))))
 (r [b q75 .add t33 (n 1),m q33 t75])))))))
 (R [f q76 4 t8,L q77 t76,g q78 [t77],b q79 .leq t78 (n 2000),k q80 24 [t79,n 3]]
 (r [m q81 t5,l q82 5 t8,O q83 (.buildSlice Y16 1 [(0,5,t82)]),j q84 (.append 5 Y16 false none) [t81,t83],m q5 t84]))))))
 (r [b q85 .add t17 (n 1),m q17 t85])))))))
 (R [m q86 t5,m q4 t86] .ret)))⟩
def c48 : AFunc := ⟨[q0,q1,q2],[.tmp q6],R [m q6 (.const v)]
 (R [m q15 t0,m q16 t2,k q17 50 [t15,t16],k q18 58 [t17],m q19 t1,m q20 t2,m q21 t0,k q22 64 [t21],k q23 103 [t20,t22],B q24 [v,.map none,v,.map none] [(0,2,t18),(2,1,t19),(3,1,t23)],O q25 (.box none t24),m q7 t25]
 (R [m q26 t7,k q27 104 [t26],m q8 t27]
 (R [m q9 (.const v)]
 (Q (R [m q28 t7,O q29 (.nilCheck t28),f q30 0 t29,f q31 0 t30,L q32 t31,g q33 [t32],m q34 (n 0)] (.block 0 (.loop
 (R [b q35 .lss t34 t33]
 (Q (C t35 .skip (.exit 0))
 (Q (.block 1
 (R [a q36 none 5 t32 t34,l q37 5 t36,h q11 none Y16,s 5 t11 t37]
 (R [f q38 0 t11,l q39 4 t38,B q40 Y16 [(0,4,t39)],h q12 none Y16,s 5 t12 t40]
 (Q (R [f q41 4 t11,L q42 t41,g q43 [t42],m q44 (n 0)] (.block 2 (.loop
 (R [b q45 .lss t44 t43]
 (Q (C t45 .skip (.exit 2))
 (Q (.block 3
 (R [a q46 none 1 t42 t44,L q47 t46,m q14 t47]
 (Q (R [m q48 t8,f q49 0 t11,f q50 0 t49,L q51 t50,f q52 0 t11,l q53 4 t52,m q54 t14,W q55 (.call (K 106) [t53,t54]) [⟨q51,.load none t50,none⟩] [q51,q50,q49,q48],W q56 (.call (K 105) [t55]) [⟨q51,.load none t50,none⟩] [q51,q50,q49,q48],B q57 [e,e] [(0,1,t51),(1,1,t56)],O q58 (.lookup w (.agg [(0,.str),(1,.str)]) t48 t57 false)]
 (C t58 (.exit 3) .skip))
 (R [m q59 t7,f q60 0 t11,f q61 0 t60,L q62 t61,m q63 t14,k q64 107 [t59,t62,n 0,t63],O q65 (.un .not t64),k q66 24 [t65,n 410]]
 (r [f q67 4 t12,L q68 t67,m q69 t7,f q70 0 t11,f q71 0 t70,L q72 t71,m q73 t14,W q74 (.call (K 108) [t69,t72,t73]) [⟨q68,.load none t67,none⟩] [q68,q67],O q75 (.buildSlice [v] 1 [(0,1,t74)]),j q76 (.append 1 [v] false none) [t68,t75],f q77 4 t12,s 1 t77 t76])))))
 (r [b q78 .add t44 (n 1),m q44 t78])))))))
 (r [m q79 t9,l q80 5 t12,O q81 (.buildSlice Y16 1 [(0,5,t80)]),j q82 (.append 5 Y16 false none) [t79,t81],m q9 t82])))))
 (r [b q83 .add t34 (n 1),m q34 t83])))))))
 (R [m q84 t0,m q85 t9,k q86 109 [t84,t85],m q6 t86] .ret)))))⟩
def c49 : AFunc := ⟨[q0,q1,q2],[.tmp q6],R [O q4 (.box none t1),m q6 (.const v)]
 (R [m q18 t0,k q19 58 [t18],h q7 none [v,.map none],s 2 t7 t19]
 (R [m q20 t2,m q21 t0,k q22 64 [t21],k q23 103 [t20,t22],h q8 none [.map none],s 1 t8 t23]
 (R [O q24 .makeMap,h q9 none [.map none],s 1 t9 t24]
 (Q (R [m q25 t2,g q26 [t25],m q27 (n 0)] (.block 0 (.loop
 (R [b q28 .lss t27 t26]
 (Q (C t28 .skip (.exit 0))
 (Q (.block 1
 (R [a q29 none 3 t25 t27,l q30 3 t29,h q11 none [e,v,v],s 3 t11 t30]
 (R [f q31 2 t11,L q32 t31,k q33 51 [t32]]
 (C t33
 (r [L q34 t9,f q35 0 t11,L q36 t35,l q37 2 t7,f q38 0 t11,L q39 t38,f q42 2 t11,L q43 t42,W q40 (.call (K 110) [t37,t39]) [⟨q43,.load none t42,none⟩,⟨q36,.load none t35,none⟩,⟨q34,.load none t9,none⟩] [q43,q42,q36,q35,q34],O q41 (.field 0 (some 4) t40),W q44 (.call (K 106) [t41,t43]) [⟨q36,.load none t35,none⟩,⟨q34,.load none t9,none⟩] [q36,q35,q34],W q45 (.call (K 105) [t44]) [⟨q36,.load none t35,none⟩,⟨q34,.load none t9,none⟩] [q36,q35,q34],B q46 [e,e] [(0,1,t36),(1,1,t45)],N (.mapUpdate (.agg [(0,.str),(1,.str)]) t34 t46 T)]) .skip))))
 (r [b q47 .add t27 (n 1),m q27 t47])))))))
 (R [h q12 none [v]]
 (Q (R [l q48 2 t7,L q49 t4,k q50 59 [t48,t49]] (.block 2 (.rangeFunc t50 [q51]
 (r [h q13 none [z,v],s 2 t13 t51]) (.block 3
 (R [L q52 t4,f q53 0 t13,L q54 t53,a q55 none 12 t52 t54,l q56 12 t55,h q14 none Y10,s 12 t14 t56]
 (R [L q57 t9,f q58 1 t14,L q59 t58,l q60 2 t7,f q61 1 t14,L q62 t61,f q65 1 t13,L q66 t65,W q63 (.call (K 110) [t60,t62]) [⟨q66,.load none t65,none⟩,⟨q59,.load none t58,none⟩,⟨q57,.load none t9,none⟩] [q66,q65,q59,q58,q57],O q64 (.field 0 (some 4) t63),W q67 (.call (K 106) [t64,t66]) [⟨q59,.load none t58,none⟩,⟨q57,.load none t9,none⟩] [q59,q58,q57],W q68 (.call (K 105) [t67]) [⟨q59,.load none t58,none⟩,⟨q57,.load none t9,none⟩] [q59,q58,q57],B q69 [e,e] [(0,1,t59),(1,1,t68)],O q70 (.lookup w (.agg [(0,.str),(1,.str)]) t57 t69 false),m q15 t70]
 (Q (R [l q71 12 t14,k q72 111 [t71],m q73 t72,mt q74 t15 q73,Gt q75 (.un .not t74) q73,p q76 t73 t75 F]
 (C t76
 (R [l q78 12 t14,f q79 1 t13,L q80 t79,k q81 112 [t78,t80],m q77 t81,x q82 t77 0,x q83 t77 1,m q16 t82,m q17 t83]
 (r [m q84 t17,m q85 t84,Gt q86 (.load none t8) q85,Gt q87 (.fieldAddr 10 t14) q85,Gt q88 (.load none t87) q85,mt q89 t16 q85,⟨some q90,.call (K 105) [t89],some (q85,true),[⟨q88,.load none t87,some (q85,true)⟩,⟨q86,.load none t8,some (q85,true)⟩],[q88,q87,q86]⟩,Gt q91 (.build [e,e] [(0,1,t88),(1,1,t90)]) q85,Gt q92 (.lookup w (.agg [(0,.str),(1,.str)]) t86 t91 false) q85,p q93 t85 t92 F,m q15 t93])) .skip))
 (R [m q94 t15]
 (C t94
 (r [L q95 t12,l q96 2 t7,L q97 t4,l q98 2 t13,W q99 (.call (K 62) [t96,t97,t98]) [⟨q95,.load none t12,none⟩] [q95],O q100 (.buildSlice [z,v] 1 [(0,2,t99)]),j q101 (.append 2 [z,v] false none) [t95,t100],s 1 t12 t101]) .skip)))))))))
 (R [L q102 t12,m q6 t102] .ret)))))))⟩
def c50 : AFunc := ⟨[q0,q1],[.tmp q4],R [m q4 (.const v)]
 (R [m q5 (.const v)]
 (Q (R [m q21 t0,g q22 [t21],m q23 (n 0)] (.block 0 (.loop
 (R [b q24 .lss t23 t22]
 (Q (C t24 .skip (.exit 0))
 (Q (.block 1
 (R [a q25 none 5 t21 t23,l q26 5 t25,h q7 none Y16,s 5 t7 t26]
 (R [O q27 .makeMap,m q8 t27]
 (R [m q9 (.const v)]
 (R [m q10 (n 0)]
 (Q (R [m q28 t1,g q29 [t28],m q30 (n 0)] (.block 2 (.loop
 (R [b q31 .lss t30 t29]
 (Q (C t31 .skip (.exit 2))
 (Q (.block 3
 (R [a q32 none 3 t28 t30,l q33 3 t32,h q12 none [e,v,v],s 3 t12 t33]
 (Q (R [f q34 0 t12,L q35 t34,f q36 0 t7,f q37 0 t36,L q38 t37,b q39 .neq t35 t38]
 (C t39 (.exit 3) .skip))
 (R [m q40 t8,f q41 0 t7,l q42 4 t41,l q43 3 t12,l q47 3 t12,W q44 (.call (K 99) [t43]) [⟨q47,.load (some 3) t12,none⟩,⟨q42,.load (some 4) t41,none⟩] [q47,q42,q41,q40],W q45 (.call (K 106) [t42,t44]) [⟨q47,.load (some 3) t12,none⟩] [q47,q40],W q46 (.call (K 105) [t45]) [⟨q47,.load (some 3) t12,none⟩] [q47,q40],N (.mapUpdate (.one .str) t40 t46 t47)]
 (Q (R [f q48 2 t12,L q49 t48,k q50 51 [t49]]
 (C t50
 (r [m q51 t9,f q52 2 t12,L q53 t52,O q54 (.buildSlice [v] 1 [(0,1,t53)]),j q55 (.append 1 [v] false none) [t51,t54],m q9 t55]) .skip))
 (R [f q56 1 t12,L q57 t56,k q58 51 [t57]]
 (C t58
 (r [m q59 t10,b q60 .add t59 (n 1),m q10 t60]) .skip)))))))
 (r [b q61 .add t30 (n 1),m q30 t61])))))))
 (R [m q13 (.const v)]
 (Q (R [f q62 4 t7,L q63 t62,g q64 [t63],m q65 (n 0)] (.block 4 (.loop
 (R [b q66 .lss t65 t64]
 (Q (C t66 .skip (.exit 4))
 (Q (.block 5
 (R [a q67 none 1 t63 t65,L q68 t67,m q15 t68]
 (R [m q70 t8,f q71 0 t7,l q72 4 t71,m q73 t15,k q74 106 [t72,t73],k q75 105 [t74],O q76 (.lookup (.agg [e,v,v]) (.one .str) t70 t75 true),m q69 t76,x q77 t69 0,x q78 t69 1,h q16 none [e,v,v],s 3 t16 t77,m q17 t78]
 (Q (R [m q79 t17,O q80 (.un .not t79)]
 (C t80
 (R [m q81 t13,m q82 t15,O q83 (.buildSlice [v] 1 [(0,1,t82)]),j q84 (.append 1 [v] false none) [t81,t83],m q13 t84] (.exit 5)) .skip))
 (R [f q85 1 t16,L q86 t85,m q87 t15,k q88 113 [t86,t87],k q89 24 [t88,n 9]]
 (r [m q90 t10,b q91 .sub t90 (n 1),m q10 t91]))))))
 (r [b q92 .add t65 (n 1),m q65 t92])))))))
 (R [m q93 t10,b q94 .eql t93 (n 0),k q95 24 [t94,n 9]]
 (R [O q96 (.makeFunc (.fn 114) [] [t7]),m q18 t96]
 (R [m q97 t13,m q98 t9,m q99 t18,k q100 115 [t97,t98,t99,K 116],m q19 t100]
 (r [m q101 t5,f q102 0 t7,l q103 4 t102,k q104 32 [t103],m q105 t19,B q106 Y16 [(0,4,t104),(4,1,t105)],O q107 (.buildSlice Y16 1 [(0,5,t106)]),j q108 (.append 5 Y16 false none) [t101,t107],m q5 t108]))))))))))))
 (r [b q109 .add t23 (n 1),m q23 t109])))))))
 (R [m q20 (K 118)]
 (R [m q110 t5,m q111 t20,k q112 119 [t110,t111],O q113 (.un .not t112),k q114 24 [t113,n 3]]
 (R [m q115 t5,m q4 t115] .ret)))))⟩
def c51 : AFunc := ⟨[q0],[.tmp q2],R [m q2 F]
 (R [m q3 t0,g q4 [t3],b q5 .gtr t4 (n 0),m q2 t5] .ret)⟩
def c52 : AFunc := ⟨[q0,q1],[],R [O q3 (.box none t1)]
 (R [m q8 t0,O q9 (.nilCheck t8),f q10 6 t9,l q11 2 t10,f q12 0 t3,L q13 t12,k q14 26 [t11,t13],m q4 t14]
 (R [m q16 t0,O q17 (.nilCheck t16),f q18 0 t17,l q19 6 t18,m q20 t0,O q21 (.nilCheck t20),f q22 6 t21,f q23 0 t22,L q24 t23,m q25 t4,a q26 none 25 t24 t25,l q27 25 t26,m q28 t0,O q29 (.nilCheck t28),f q30 6 t29,f q31 0 t30,L q32 t31,m q33 t4,a q34 none 25 t32 t33,l q35 25 t34,f q37 1 t3,L q38 t37,h q5 none Y15,h q6 none Y5,W q36 (.call (K 30) [t35]) [⟨q38,.load none t37,none⟩,⟨q27,.load (some 25) t26,none⟩,⟨q24,.load none t23,none⟩,⟨q19,.load (some 6) t18,none⟩] [q6,q5,q38,q37,q27,q26,q25,q24,q23,q22,q21,q20,q19,q18,q17,q16],W q39 (.call (K 106) [t36,t38]) [⟨q27,.load (some 25) t26,none⟩,⟨q24,.load none t23,none⟩,⟨q19,.load (some 6) t18,none⟩] [q6,q5,q27,q26,q25,q24,q23,q22,q21,q20,q19,q18,q17,q16],D q40 (.call (K 120) [t19,t27,t39]) [q6,q5],m q15 t40,x q41 t15 0,x q42 t15 1,x q43 t15 2,E (.store 6 t5 t41) [q43,q42],E (.store 25 t6 t42) [q43],m q7 t43]
 (R [m q44 t7,b q45 .eql t44 (n 0),m q46 t7,k q47 24 [t45,t46]]
 (r [m q48 t0,m q49 t0,O q50 (.nilCheck t49),f q51 6 t50,f q52 0 t51,L q53 t52,m q54 t4,l q55 6 t5,l q56 25 t6,O q57 (.nilCheck t48),f q58 0 t57,V (.store 6 t58 t55) [⟨q56,.load (some 25) t6,none⟩] [q56,q54],a q59 none 25 t53 t54,s 25 t59 t56]))))⟩
def c53 : AFunc := ⟨[q0,q1],[],R [O q3 (.box none t1)]
 (R [m q8 t0,O q9 (.nilCheck t8),f q10 6 t9,l q11 2 t10,f q12 0 t3,L q13 t12,k q14 26 [t11,t13],m q4 t14]
 (R [m q16 t0,O q17 (.nilCheck t16),f q18 0 t17,l q19 6 t18,m q20 t0,O q21 (.nilCheck t20),f q22 6 t21,f q23 0 t22,L q24 t23,m q25 t4,a q26 none 25 t24 t25,l q27 25 t26,f q28 2 t3,L q29 t28,h q5 none Y15,h q6 none Y5,D q30 (.call (K 121) [t19,t27,t29]) [q6,q5],m q15 t30,x q31 t15 0,x q32 t15 1,x q33 t15 2,E (.store 6 t5 t31) [q33,q32],E (.store 25 t6 t32) [q33],m q7 t33]
 (R [m q34 t7,b q35 .eql t34 (n 0),m q36 t7,k q37 24 [t35,t36]]
 (r [m q38 t0,m q39 t0,O q40 (.nilCheck t39),f q41 6 t40,f q42 0 t41,L q43 t42,m q44 t4,l q45 6 t5,l q46 25 t6,O q47 (.nilCheck t38),f q48 0 t47,V (.store 6 t48 t45) [⟨q46,.load (some 25) t6,none⟩] [q46,q44],a q49 none 25 t43 t44,s 25 t49 t46]))))⟩
def c55 : AFunc := ⟨[q0,q1],[.tmp q4],R [m q4 F]
 (Q (R [m q6 t0,g q7 [t6],m q8 t1,g q9 [t8],b q10 .neq t7 t9]
 (C t10
 (R [m q4 F] .ret) .skip))
 (Q (R [m q5 (n 0)] (.block 0 (.loop
 (Q (R [m q11 t5,m q12 t0,g q13 [t12],b q14 .lss t11 t13]
 (C t14 .skip (.exit 0)))
 (Q (.block 1
 (R [m q17 t0,m q18 t5,a q19 none 3 t17 t18,l q20 3 t19,m q21 t1,m q22 t5,a q23 none 3 t21 t22,l q24 3 t23,O q25 (.eql true (.agg [(0,.int),(1,.int),(2,.str)]) t20 t24)]
 (C t25
 (R [m q4 F] .ret) .skip)))
 (r [m q15 t5,b q16 .add t15 (n 1),m q5 t16]))))))
 (R [m q4 T] .ret)))⟩
def c57 : AFunc := ⟨[q0,q1],[.cell q4 none],R [O q2 (.box none t0),O q3 (.box none t1),h q4 none [z]]
 (R [N (.defer (K 80) [t4,K 122])]
 (R [l q13 6 t2,l q14 25 t3,k q15 82 [t13,t14],m q5 t15]
 (Q (R [l q16 6 t2,f q17 5 t3,l q18 18 t17,k q19 101 [t16,t18,S [],S [],n 20000],x q20 t19 0,x q21 t19 1,k q22 123 [t20,t21],g q23 [t22],m q24 (n 0)] (.block 0 (.loop
 (R [b q25 .lss t24 t23]
 (Q (C t25 .skip (.exit 0))
 (Q (.block 1
 (R [a q26 none 2 t22 t24,l q27 2 t26,h q7 none [e,e],s 2 t7 t27]
 (R [f q29 0 t3,l q30 5 t29,f q31 0 t7,L q32 t31,f q33 1 t7,L q34 t33,k q35 102 [t30,t32,t34],m q28 t35,x q36 t28 0,x q37 t28 1,m q8 t36,m q9 t37]
 (R [m q38 t9,b q39 .eql t38 (n 0),k q40 35 [t39,n 8]]
 (R [m q42 t5,O q43 (.nilCheck t42),f q44 31 t43,l q45 4 t44,m q46 t8,k q47 124 [t45,t46],m q41 t47,x q48 t41 0,x q49 t41 1,m q10 t48,m q9 t49]
 (r [m q50 t9,b q51 .eql t50 (n 0),m q52 t51,mt q53 t10 q52,Gt q54 (.fieldAddr 0 t7) q52,Gt q55 (.load none t54) q52,Gt q56 (.bin .eql t53 t55) q52,p q57 t52 t56 F,k q58 35 [t57,n 8]]))))))
 (r [b q59 .add t24 (n 1),m q24 t59])))))))
 (Q (R [m q60 t5,O q61 (.nilCheck t60),f q62 6 t61,f q63 23 t62,L q64 t63,g q65 [t64],m q66 (n 0)] (.block 2 (.loop
 (R [b q67 .lss t66 t65]
 (Q (C t67 .skip (.exit 2))
 (Q (.block 3
 (R [m q68 t66,a q69 none 11 t64 t66,l q70 11 t69,h q12 none Y11,m q11 t68,s 11 t12 t70]
 (r [m q71 t5,O q72 (.nilCheck t71),f q73 0 t72,l q74 11 t12,f q75 0 t3,l q76 5 t75,f q77 5 t3,l q78 18 t77,m q79 t5,O q80 (.nilCheck t79),f q81 6 t80,f q82 24 t81,L q83 t82,m q84 t11,a q85 none 18 t83 t84,l q86 18 t85,k q87 125 [t73,t74,t76,t78,t86]])))
 (r [b q88 .add t66 (n 1),m q66 t88])))))))
 (R [s 1 t4 (n 0)] .ret)))))⟩
def c58 : AFunc := ⟨[q0],[.cell q2 (some 2)],R [h q2 none [v,.map none]]
 (R [m q8 t0,O q9 .makeMap,B q10 [v,.map none] [(0,1,t8),(1,1,t9)],h q3 none [v,.map none],s 2 t3 t10]
 (Q (R [m q11 t0,g q12 [t11],m q13 (n 0)] (.block 0 (.loop
 (R [b q14 .lss t13 t12]
 (Q (C t14 .skip (.exit 0))
 (Q (.block 1
 (R [a q15 none 5 t11 t13,l q16 5 t15,h q5 none Y16,s 5 t5 t16]
 (R [f q17 4 t5,L q18 t17,g q19 [t18],m q20 (n 0)] (.block 2 (.loop
 (R [b q21 .lss t20 t19]
 (Q (C t21 .skip (.exit 2))
 (Q (.block 3
 (R [a q22 none 1 t18 t20,L q23 t22,m q7 t23]
 (r [f q24 1 t3,L q25 t24,f q26 0 t5,f q27 0 t26,L q28 t27,f q29 0 t5,l q30 4 t29,m q31 t7,m q35 t7,W q32 (.call (K 106) [t30,t31]) [⟨q28,.load none t27,none⟩,⟨q25,.load none t24,none⟩] [q35,q28,q27,q26,q25,q24],W q33 (.call (K 105) [t32]) [⟨q28,.load none t27,none⟩,⟨q25,.load none t24,none⟩] [q35,q28,q27,q26,q25,q24],B q34 [e,e] [(0,1,t28),(1,1,t33)],N (.mapUpdate (.agg [(0,.str),(1,.str)]) t25 t34 t35)])))
 (r [b q36 .add t20 (n 1),m q20 t36])))))))))
 (r [b q37 .add t13 (n 1),m q13 t37])))))))
 (R [l q38 2 t3,s 2 t2 t38] .ret)))⟩
def c59 : AFunc := ⟨[q0,q1],[.tmp q4],R [O q2 (.box none t0),O q3 (.box none t1),m q4 (.const .nilFunc)]
 (R [O q5 (.makeFunc (.fn 126) [] [t3,t2]),m q4 t5] .ret)⟩
def c61 : AFunc := ⟨[q0,q1],[],r [m q4 t0,k q5 67 [t4],m q6 t5,mt q7 t1 q6,mt q8 t0 q6,Gt q9 (.call (K 64) [t8]) q6,Gt q10 (.call (K 69) [t7,t9]) q6,p q11 t6 t10 F,k q12 24 [t11,n 2]]⟩
def c62 : AFunc := ⟨[q0,q1,q2],[.cell q6 (some 2)],R [O q3 (.box none t0),O q5 (.box none t2),h q6 none [z,v]]
 (R [f q7 0 t5,L q8 t7,l q9 2 t3,m q10 t1,f q11 0 t5,L q12 t11,a q13 none 12 t10 t12,f q14 1 t13,L q15 t14,f q18 1 t5,L q19 t18,W q16 (.call (K 110) [t9,t15]) [⟨q19,.load none t18,none⟩,⟨q8,.load none t7,none⟩] [q19,q18,q8,q7],O q17 (.field 0 (some 4) t16),W q20 (.call (K 106) [t17,t19]) [⟨q8,.load none t7,none⟩] [q8,q7],B q21 [z,v] [(0,1,t8),(1,1,t20)],s 2 t6 t21] .ret)⟩
def c63 : AFunc := ⟨[q0],[],r [s 1 t0 (.const v)]⟩
def c64 : AFunc := ⟨[q0],[.tmp q2],R [m q2 (.const v)]
 (R [m q3 (.const v)]
 (Q (R [m q6 t0,g q7 [t6],m q8 (n 0)] (.block 0 (.loop
 (R [b q9 .lss t8 t7]
 (Q (C t9 .skip (.exit 0))
 (Q (.block 1
 (R [a q10 none 5 t6 t8,l q11 5 t10,h q5 none Y16,s 5 t5 t11]
 (r [m q12 t3,f q13 0 t5,l q14 4 t13,O q15 (.buildSlice Y17 1 [(0,4,t14)]),j q16 (.append 4 Y17 false none) [t12,t15],m q3 t16])))
 (r [b q17 .add t8 (n 1),m q8 t17])))))))
 (R [m q18 t3,m q2 t18] .ret)))⟩
def c66 : AFunc := ⟨[q0],[],r [s 1 t0 (.const v)]⟩
def c67 : AFunc := ⟨[q0],[.tmp q2],R [m q2 F]
 (Q (R [m q5 t0,g q6 [t5],m q7 (n 0)] (.block 0 (.loop
 (R [b q8 .lss t7 t6]
 (Q (C t8 .skip (.exit 0))
 (Q (.block 1
 (R [a q9 none 5 t5 t7,l q10 5 t9,h q4 none Y16,s 5 t4 t10]
 (R [f q11 4 t4,L q12 t11,g q13 [t12],b q14 .gtr t13 (n 2000)]
 (C t14
 (R [m q2 F] .ret) .skip))))
 (r [b q15 .add t7 (n 1),m q7 t15])))))))
 (R [m q16 t0,k q17 64 [t16],k q18 68 [t17],m q19 t18,mt q20 t0 q19,Gt q21 (.call (K 119) [t20,K 128]) q19,Gt q22 (.un .not t21) q19,p q23 t19 t22 F,m q2 t23] .ret))⟩
def c68 : AFunc := ⟨[q0],[.tmp q2],R [m q2 F]
 (Q (R [m q5 t0,g q6 [t5],m q7 (n 0)] (.block 0 (.loop
 (R [b q8 .lss t7 t6]
 (Q (C t8 .skip (.exit 0))
 (Q (.block 1
 (R [m q9 t7,a q10 none 4 t5 t7,l q11 4 t10,h q4 none Y17,m q3 t9,s 4 t4 t11]
 (R [l q12 4 t4,k q13 25 [t12],b q14 .neq t13 (n 0),m q15 t14,mf q16 t3 q15,Gf q17 (.bin .gtr t16 (n 0)) q15,mf q18 t17 q15,mt q19 t0 q18,mt q20 t3 q18,Gt q21 (.bin .sub t20 (n 1)) q18,Gt q22 (.indexAddr none 4 t19 t21) q18,Gt q23 (.fieldAddr 0 t22) q18,Gt q24 (.load none t23) q18,Gt q25 (.fieldAddr 0 t4) q18,Gt q26 (.load none t25) q18,Gt q27 (.bin .geq t24 t26) q18,Gf q28 (.pick t18 t27 F) q15,p q29 t15 T t28]
 (C t29
 (R [m q2 F] .ret) .skip))))
 (r [b q30 .add t7 (n 1),m q7 t30])))))))
 (R [m q31 t0,g q32 [t31],b q33 .leq t32 (n 40),m q2 t33] .ret))⟩
def c69 : AFunc := ⟨[q0,q1],[.tmp q4],R [m q4 F]
 (Q (R [m q7 t0,g q8 [t7],m q9 (n 0)] (.block 0 (.loop
 (R [b q10 .lss t9 t8]
 (Q (C t10 .skip (.exit 0))
 (Q (.block 1
 (R [m q11 t9,a q12 none 12 t7 t9,l q13 12 t12,h q6 none Y10,m q5 t11,s 12 t6 t13]
 (R [l q14 12 t6,m q15 t1,k q16 130 [t14,t15],O q17 (.un .not t16),m q18 t17,mf q19 t5 q18,Gf q20 (.bin .gtr t19 (n 0)) q18,mf q21 t20 q18,mt q22 t0 q21,mt q23 t5 q21,Gt q24 (.bin .sub t23 (n 1)) q21,Gt q25 (.indexAddr none 12 t22 t24) q21,Gt q26 (.load (some 12) t25) q21,Gt q27 (.load (some 12) t6) q21,Gt q28 (.call (K 131) [t26,t27]) q21,Gt q29 (.bin .geq t28 (n 0)) q21,Gf q30 (.pick t21 t29 F) q18,p q31 t18 T t30]
 (C t31
 (R [m q4 F] .ret) .skip))))
 (r [b q32 .add t9 (n 1),m q9 t32])))))))
 (R [m q33 t0,g q34 [t33],b q35 .leq t34 (n 40),m q4 t35] .ret))⟩
def c70 : AFunc := ⟨[q0,q1,q2],[.cell q6 none,.cell q7 none],R [O q3 (.box none t0),O q4 (.box none t1),h q6 none [v],h q7 none [z]]
 (R [O q8 (.makeFunc (.fn 132) [] [t6]),N (.defer (K 80) [t7,t8])]
 (R [l q10 6 t3,l q11 25 t4,k q12 82 [t10,t11],m q13 t2,k q14 133 [t12,t13],m q9 t14,x q15 t9 0,x q16 t9 1,s 1 t6 t15]
 (R [L q17 t6,s 1 t6 t17,s 1 t7 (n 0)] .ret)))⟩
def c71 : AFunc := ⟨[q0],[.tmp q2],R [O q1 (.box none t0),m q2 F]
 (Q (R [f q3 0 t1,L q4 t3,k q5 134 [t4],O q6 (.un .not t5),m q7 t6,Gf q8 (.fieldAddr 1 t1) q7,Gf q9 (.load none t8) q7,Gf q10 (.bin .lss t9 (n 1)) q7,p q11 t7 T t10,m q12 t11,Gf q13 (.fieldAddr 1 t1) q12,Gf q14 (.load none t13) q12,Gf q15 (.bin .gtr t14 (n 1099511627776)) q12,p q16 t12 T t15,m q17 t16,Gf q18 (.fieldAddr 2 t1) q17,Gf q19 (.load none t18) q17,Gf q20 (.bi (.len .slice) [t19]) q17,Gf q21 (.bin .lss t20 (n 1)) q17,p q22 t17 T t21,m q23 t22,Gf q24 (.fieldAddr 2 t1) q23,Gf q25 (.load none t24) q23,Gf q26 (.bi (.len .slice) [t25]) q23,Gf q27 (.bin .gtr t26 (n 16)) q23,p q28 t23 T t27,m q29 t28,Gf q30 (.fieldAddr 3 t1) q29,Gf q31 (.load none t30) q29,Gf q32 (.bi (.len .slice) [t31]) q29,Gf q33 (.bin .lss t32 (n 1)) q29,p q34 t29 T t33]
 (C t34
 (R [m q2 F] .ret) .skip))
 (Q (R [f q35 2 t1,L q36 t35,k q37 135 [t36,K 136],b q38 .geq t37 (n 0),m q39 t38,Gf q40 (.fieldAddr 2 t1) q39,Gf q41 (.load none t40) q39,Gf q42 (.call (K 138) [t41,K 139]) q39,Gf q43 (.un .not t42) q39,p q44 t39 T t43]
 (C t44
 (R [m q2 F] .ret) .skip))
 (R [f q45 3 t1,L q46 t45,k q47 140 [t46,K 141],m q48 t47,Gt q49 (.fieldAddr 3 t1) q48,Gt q50 (.load none t49) q48,Gt q51 (.makeFunc (.fn 143) [] [t1]) q48,Gt q52 (.call (K 142) [t50,t51]) q48,Gt q53 (.bin .lss t52 (n 0)) q48,p q54 t48 t53 F,m q2 t54] .ret)))⟩
def c72 : AFunc := ⟨[q0,q1],[.tmp q3],R [O q2 (.box none t0),m q3 F]
 (R [l q4 25 t2,L q7 t1,W q5 (.call (K 30) [t4]) [⟨q7,.load none t1,none⟩] [q7],O q6 (.field 0 none t5),b q8 .eql t6 t7,m q3 t8] .ret)⟩
def c73 : AFunc := ⟨[q0],[.cell q2 (some 25)],R [O q1 (.box none t0),h q2 none Y5]
 (R [f q9 0 t1,f q10 0 t9,l q11 4 t10,k q12 32 [t11],f q13 0 t1,f q14 0 t13,s 4 t14 t12]
 (R [f q15 0 t1,f q16 4 t15,L q17 t16,f q19 24 t1,L q20 t19,W q18 (.call (K 144) [t17]) [⟨q20,.load none t19,none⟩] [q20,q19],f q22 0 t1,f q23 4 t22,D q21 (.call (K 145) [t20]) [q23,q22],s 1 t23 t18,f q24 24 t1,s 1 t24 t21]
 (R [m q3 (.const v)]
 (Q (R [f q25 23 t1,L q26 t25,g q27 [t26],m q28 (n 0)] (.block 0 (.loop
 (R [b q29 .lss t28 t27]
 (Q (C t29 .skip (.exit 0))
 (Q (.block 1
 (R [a q30 none 11 t26 t28,l q31 11 t30,h q5 none Y11,s 11 t5 t31]
 (R [m q6 (.const v)]
 (Q (R [f q32 2 t5,L q33 t32,g q34 [t33],m q35 (n 0)] (.block 2 (.loop
 (R [b q36 .lss t35 t34]
 (Q (C t36 .skip (.exit 2))
 (Q (.block 3
 (R [a q37 none 6 t33 t35,l q38 6 t37,h q8 none Y14,s 6 t8 t38]
 (r [m q39 t6,l q40 6 t8,k q41 146 [t40],O q42 (.buildSlice Y14 1 [(0,6,t41)]),j q43 (.append 6 Y14 false none) [t39,t42],m q6 t43])))
 (r [b q44 .add t35 (n 1),m q35 t44])))))))
 (R [m q45 t6,f q46 3 t5,l q47 6 t46,k q48 146 [t47],f q49 2 t5,s 1 t49 t45,f q50 3 t5,s 6 t50 t48]
 (r [m q51 t3,l q52 11 t5,O q53 (.buildSlice Y11 1 [(0,11,t52)]),j q54 (.append 11 Y11 false none) [t51,t53],m q3 t54]))))))
 (r [b q55 .add t28 (n 1),m q28 t55])))))))
 (R [m q56 t3,f q57 23 t1,s 1 t57 t56]
 (R [l q58 25 t1,s 25 t2 t58] .ret))))))⟩
end A3.Y
namespace A3.Y
open Go
def c75 : AFunc := ⟨[q0],[.cell q2 (some 4),.cell q3 none],R [O q1 (.box none t0),h q2 none Y17,h q3 none [z]]
 (R [O q4 (.makeFunc (.fn 148) [] [t2]),N (.defer (K 147) [t3,t4])]
 (R [l q5 5 t1,k q6 149 [t5]]
 (R [l q7 5 t1,k q8 151 [t7],k q9 150 [t8],s 4 t2 t9,s 1 t3 (n 0)] .ret)))⟩
def c78 : AFunc := ⟨[q0],[.tmp q2],R [m q2 (.const v)]
 (Q (R [m q3 t0,O q4 (.eql false (.one .slice) t3 (.const v))]
 (C t4
 (R [m q2 (.const v)] .ret) .skip))
 (R [O q5 (.buildSlice [] 0 []),m q6 t0,j q7 (.append 6 [e,z,w,z,z,e] false none) [t5,t6],m q2 t7] .ret))⟩
def c79 : AFunc := ⟨[q0],[.tmp q2],R [m q2 (.const v)]
 (Q (R [m q3 t0,O q4 (.eql false (.one .slice) t3 (.const v))]
 (C t4
 (R [m q2 (.const v)] .ret) .skip))
 (R [O q5 (.buildSlice [] 0 []),m q6 t0,j q7 (.append 1 [z] false none) [t5,t6],m q2 t7] .ret))⟩
def c80 : AFunc := ⟨[q0,q1],[],R [O q7 .recover] (.block 0
 (R [O q9 (.eql false (.one .iface) t7 I)]
 (C t9
 (r [m q4 t7])
 (R [O q10 (.typeAssert 166 (.agg [z]) t7 true),x q11 t10 1,x q12 t10 0]
 (C t11
 (R [h q5 none [z],s 1 t5 t12]
 (R [m q13 t1,O q14 (.call t13 [])]
 (r [m q15 t0,f q16 0 t5,L q17 t16,O q18 (.nilCheck t15),s 1 t18 t17])))
 (R [m q6 t7]
 (r [m q8 t6,N (.panic t8)])))))))⟩
def c81 : AFunc := ⟨[q0,q1],[],r [B q2 Y15 [],B q3 Y5 [],s 6 t0 t2,s 25 t1 t3]⟩
def c82 : AFunc := ⟨[q0,q1],[.tmp q4],R [O q2 (.box none t0),O q3 (.box none t1),m q4 (.const (.ptr none))]
 (R [l q6 6 t2,f q7 24 t3,L q8 t7,f q10 5 t3,l q11 18 t10,O q12 (.buildSlice Y8 1 [(0,18,t11)]),W q9 (.call (K 145) [t8]) [⟨q11,.load (some 18) t10,none⟩,⟨q6,.load (some 6) t2,none⟩] [q12,q11,q10,q6],W q13 (.bi (.append 18 Y8 false none) [t9,t12]) [⟨q6,.load (some 6) t2,none⟩] [q6],k q14 153 [t6,t13]]
 (R [l q15 25 t3,k q16 154 [t15],m q5 t16]
 (R [m q17 t5,l q18 6 t2,O q19 (.nilCheck t17),f q20 0 t19,f q21 0 t20,s 6 t21 t18]
 (R [m q22 t5,m q4 t22] .ret))))⟩
def c83 : AFunc := ⟨[q0],[.tmp q2],R [m q2 F]
 (Q (R [m q5 t0,O q6 (.convBytes (some 5) t5),g q7 [t6],m q8 (n 0)] (.block 0 (.loop
 (R [b q9 .lss t8 t7]
 (Q (C t9 .skip (.exit 0))
 (Q (.block 1
 (R [a q10 none 1 t6 t8,L q11 t10,m q4 t11]
 (R [m q12 t4,b q13 .lss t12 (u 33),m q14 t13,mf q15 t4 q14,Gf q16 (.bin .gtr t15 (u 126)) q14,p q17 t14 T t16]
 (C t17
 (R [m q2 F] .ret) .skip))))
 (r [b q18 .add t8 (n 1),m q8 t18])))))))
 (R [m q19 t0,j q20 (.len .str) [t19],b q21 .geq t20 (n 1),m q22 t21,mt q23 t0 q22,Gt q24 (.bi (.len .str) [t23]) q22,Gt q25 (.bin .leq t24 (n 24)) q22,p q26 t22 t25 F,m q2 t26] .ret))⟩
def c84 : AFunc := ⟨[q0],[.tmp q2],R [O q1 (.box none t0),m q2 (.const v)]
 (R [m q3 (.const v)]
 (Q (R [f q6 2 t1,L q7 t6,g q8 [t7],m q9 (n 0)] (.block 0 (.loop
 (R [b q10 .lss t9 t8]
 (Q (C t10 .skip (.exit 0))
 (Q (.block 1
 (R [a q11 none 6 t7 t9,l q12 6 t11,h q5 none [e,z,w,z,z,e],s 6 t5 t12]
 (r [m q13 t3,f q14 1 t5,L q15 t14,O q16 (.buildSlice [z] 1 [(0,1,t15)]),j q17 (.append 1 [z] false none) [t13,t16],m q3 t17])))
 (r [b q18 .add t9 (n 1),m q9 t18])))))))
 (R [m q19 t3,m q2 t19] .ret)))⟩
def c85 : AFunc := ⟨[q0,q1,q2],[.cell q6 none,.cell q7 none],R [O q3 (.box none t0),O q4 (.box none t1),O q5 (.box none t2),h q6 none [z],h q7 none [z]]
 (R [O q12 (.makeFunc (.fn 156) [] [t6]),N (.defer (K 155) [t7,t12])]
 (R [k q13 157 [],h q8 none [.ptr none],s 1 t8 t13]
 (R [L q14 t8,l q15 6 t3,k q16 159 [t14,t15],k q17 158 [t16,n 2]]
 (Q (R [L q18 t4,L q19 t5,O q20 (.buildSlice [v,v] 2 [(0,1,t18),(1,1,t19)]),k q21 160 [t20],g q22 [t21],m q23 (n 0)] (.block 0 (.loop
 (R [b q24 .lss t23 t22]
 (Q (C t24 .skip (.exit 0))
 (Q (.block 1
 (R [a q25 none 1 t21 t23,L q26 t25,m q10 t26]
 (r [m q27 t10,k q28 161 [t27],k q29 158 [t28,n 1]])))
 (r [b q30 .add t23 (n 1),m q23 t30])))))))
 (R [h q11 none [.nilFunc]]
 (R [O q31 (.makeFunc (.fn 162) [] [t11,t4,t5,t8]),s 1 t11 t31]
 (R [L q32 t11,l q33 6 t3,O q34 (.call t32 [t33]),s 1 t6 t34,s 1 t7 (n 0)] .ret)))))))⟩
def c86 : AFunc := ⟨[q0],[.tmp q2],R [O q1 (.box none t0),m q2 F]
 (R [f q3 3 t1,l q4 6 t3,B q5 Y14 [],k q6 165 [t4,t5],O q7 (.un .not t6),m q2 t7] .ret)⟩
def c87 : AFunc := ⟨[q0],[.tmp q2],R [m q2 F]
 (R [m q3 t0,m q4 t0,b q5 .neq t3 t4,m q2 t5] .ret)⟩
def c88 : AFunc := ⟨[],[.tmp q0],R [m q0 (.const .nilFunc)]
 (R [O q2 .makeMap,h q1 none [.map none],s 1 t1 t2]
 (R [O q3 (.makeFunc (.fn 166) [] [t1]),m q0 t3] .ret))⟩
def c89 : AFunc := ⟨[q0,q1,q2,q3],[.tmp q8],R [O q4 (.box none t0),O q5 (.box none t1),O q6 (.box none t2),O q7 (.box none t3),m q8 (.const .nilFunc)]
 (R [O q9 (.makeFunc (.fn 167) [] [t6,t4,t7,t5]),m q8 t9] .ret)⟩
def c90 : AFunc := ⟨[q0,q1,q2,q3],[.cell q8 (some 18)],R [O q5 (.box none t1),h q8 none Y8]
 (R [m q12 t0,O q13 (.nilCheck t12),f q14 0 t13,l q15 6 t14,l q16 18 t5,m q17 t2,m q18 t3,h q9 none Y15,D q19 (.call (K 170) [t15,t16,t17,t18]) [q9],m q11 t19,x q20 t11 0,x q21 t11 1,x q22 t11 2,E (.store 6 t9 t20) [q22,q21],E (.store 18 t5 t21) [q22],m q10 t22]
 (R [m q23 t10,b q24 .eql t23 (n 0),m q25 t10,k q26 35 [t24,t25]]
 (R [m q27 t0,l q28 6 t9,O q29 (.nilCheck t27),f q30 0 t29,s 6 t30 t28]
 (R [l q31 18 t5,s 18 t8 t31] .ret))))⟩
def c93 : AFunc := ⟨[q0],[.cell q2 (some 6)],R [O q1 (.box none t0),h q2 none Y14]
 (R [f q6 5 t1,L q7 t6,m q3 t7]
 (R [f q8 5 t1,s 1 t8 (.const v)]
 (Q (R [m q9 t3,g q10 [t9],m q11 (n 0)] (.block 0 (.loop
 (R [b q12 .lss t11 t10]
 (Q (C t12 .skip (.exit 0))
 (Q (.block 1
 (R [a q13 none 6 t9 t11,l q14 6 t13,h q5 none Y14,s 6 t5 t14]
 (r [f q15 5 t1,L q16 t15,l q17 6 t5,W q18 (.call (K 93) [t17]) [⟨q16,.load none t15,none⟩] [q16,q15],O q19 (.buildSlice Y14 1 [(0,6,t18)]),j q20 (.append 6 Y14 false none) [t16,t19],f q21 5 t1,s 1 t21 t20])))
 (r [b q22 .add t11 (n 1),m q11 t22])))))))
 (R [l q23 6 t1,s 6 t2 t23] .ret))))⟩
def c96 : AFunc := ⟨[q0,q1],[.cell q4 (some 4),.tmp q5],R [O q3 (.box none t1),h q4 none Y17,m q5 F]
 (R [m q7 t0,O q8 (.makeFunc (.fn 174) [] [t3]),k q9 173 [t7,t8],m q6 t9]
 (Q (R [m q10 t6,b q11 .lss t10 (n 0)]
 (C t11
 (R [B q12 Y17 [],s 4 t4 t12,m q5 F] .ret) .skip))
 (R [m q13 t0,m q14 t6,a q15 none 4 t13 t14,l q16 4 t15,s 4 t4 t16,m q5 T] .ret)))⟩
def c97 : AFunc := ⟨[q0,q1],[.tmp q4],R [O q2 (.box none t0),O q3 (.box none t1),m q4 F]
 (Q (R [f q7 1 t2,L q8 t7,f q9 2 t2,L q10 t9,O q11 (.buildSlice [v,v] 2 [(0,1,t8),(1,1,t10)]),g q12 [t11],m q13 (n 0)] (.block 0 (.loop
 (R [b q14 .lss t13 t12]
 (Q (C t14 .skip (.exit 0))
 (Q (.block 1
 (R [a q15 none 1 t11 t13,L q16 t15,m q6 t16]
 (R [m q17 t6,k q18 51 [t17],m q19 t18,Gt q20 (.load (some 4) t3) q19,mt q21 t6 q19,Gt q22 (.call (K 175) [t20,t21]) q19,Gt q23 (.bin .neq t22 (n 0)) q19,p q24 t19 t23 F]
 (C t24
 (R [m q4 F] .ret) .skip))))
 (r [b q25 .add t13 (n 1),m q13 t25])))))))
 (Q (R [f q26 1 t2,L q27 t26,k q28 51 [t27],O q29 (.un .not t28),m q30 t29,Gf q31 (.fieldAddr 2 t2) q30,Gf q32 (.load none t31) q30,Gf q33 (.call (K 51) [t32]) q30,Gf q34 (.un .not t33) q30,p q35 t30 T t34]
 (C t35
 (R [f q36 1 t2,L q37 t36,k q38 51 [t37],m q39 t38,Gf q40 (.fieldAddr 2 t2) q39,Gf q41 (.load none t40) q39,Gf q42 (.call (K 51) [t41]) q39,p q43 t39 T t42,m q4 t43] .ret) .skip))
 (R [l q44 4 t3,f q45 1 t2,L q46 t45,f q47 2 t2,L q48 t47,k q49 98 [t44,t46,t48],b q50 .eql t49 (n 0),m q51 t50,Gt q52 (.fieldAddr 1 t2) q51,Gt q53 (.load none t52) q51,Gt q54 (.fieldAddr 2 t2) q51,Gt q55 (.load none t54) q51,Gt q56 (.call (K 113) [t53,t55]) q51,Gt q57 (.un .not t56) q51,p q58 t51 t57 F,m q4 t58] .ret)))⟩
def c98 : AFunc := ⟨[q0,q1,q2],[.tmp q6],R [O q3 (.box none t0),m q6 (n 0)]
 (R [l q10 4 t3,m q11 t1,m q12 t2,k q13 176 [t10,t11,t12],m q9 t13,x q14 t9 0,x q15 t9 1,m q7 t14,m q8 t15]
 (R [m q16 t7,m q6 t16] .ret))⟩
def c99 : AFunc := ⟨[q0],[.tmp q2],R [O q1 (.box none t0),m q2 (.const v)]
 (Q (R [f q3 2 t1,L q4 t3,k q5 51 [t4]]
 (C t5
 (R [f q6 2 t1,L q7 t6,m q2 t7] .ret) .skip))
 (R [f q8 1 t1,L q9 t8,m q2 t9] .ret))⟩
def c100 : AFunc := ⟨[q0,q1],[.tmp q4],R [m q4 (.const v)]
 (R [m q5 t1,b q6 .eql t5 (n 0),m q7 t1,k q8 24 [t6,t7]]
 (R [m q9 t0,m q4 t9] .ret))⟩
def c101 : AFunc := ⟨[q0,q1,q2,q3,q4],[.cell q10 none,.cell q11 none],R [O q5 (.box none t0),O q6 (.box none t1),h q10 none [v],h q11 none [z]]
 (R [O q15 (.makeFunc (.fn 177) [] [t11,t10]),N (.defer t15 [])]
 (R [N (.defer (K 178) [t11])]
 (R [l q16 6 t5,l q17 18 t6,O q18 (.buildSlice Y8 1 [(0,18,t17)]),k q19 179 [t16,t18],m q12 t19]
 (Q (R [m q20 t12,l q21 18 t6,m q22 t2,m q23 t3,m q24 t4,k q25 180 [t20,t21,t22,t23,t24],g q26 [t25],m q27 (n 0)] (.block 0 (.loop
 (R [b q28 .lss t27 t26]
 (Q (C t28 .skip (.exit 0))
 (Q (.block 1
 (R [a q29 none 22 t25 t27,l q30 22 t29,h q14 none Y7,s 22 t14 t30]
 (r [L q31 t10,f q32 0 t14,L q33 t32,m q34 t12,l q35 22 t14,W q36 (.call (K 181) [t34,t35]) [⟨q33,.load none t32,none⟩,⟨q31,.load none t10,none⟩] [q33,q32,q31],B q37 [e,e] [(0,1,t33),(1,1,t36)],O q38 (.buildSlice [e,e] 1 [(0,2,t37)]),j q39 (.append 2 [e,e] false none) [t31,t38],s 1 t10 t39])))
 (r [b q40 .add t27 (n 1),m q27 t40])))))))
 (R [L q41 t10,s 1 t10 t41,s 1 t11 (n 0)] .ret)))))⟩
def c102 : AFunc := ⟨[q0,q1,q2],[.cell q6 none,.cell q7 none],R [O q3 (.box none t0),h q6 none [v],h q7 none [z]]
 (R [O q8 (.makeFunc (.fn 182) [] [t6]),N (.defer (K 147) [t7,t8])]
 (R [l q9 5 t3,m q10 t1,m q11 t2,k q12 183 [t9,t10,t11],s 1 t6 t12,s 1 t7 (n 0)] .ret))⟩
def c103 : AFunc := ⟨[q0,q1],[.tmp q4],R [m q4 (.const (.map none))]
 (R [O q10 .makeMap,m q5 t10]
 (Q (R [m q11 t0,g q12 [t11],m q13 (n 0)] (.block 0 (.loop
 (R [b q14 .lss t13 t12]
 (Q (C t14 .skip (.exit 0))
 (Q (.block 1
 (R [a q15 none 3 t11 t13,l q16 3 t15,h q7 none [e,v,v],s 3 t7 t16]
 (R [f q17 2 t7,L q18 t17,k q19 51 [t18],O q20 (.un .not t19)]
 (C t20
 (R [m q22 t1,f q23 0 t7,L q24 t23,k q25 96 [t22,t24],m q21 t25,x q26 t21 0,x q27 t21 1,h q8 none Y17,s 4 t8 t26,m q9 t27]
 (r [m q28 t5,f q29 0 t7,L q30 t29,l q31 4 t8,f q32 1 t7,L q33 t32,W q34 (.call (K 106) [t31,t33]) [⟨q30,.load none t29,none⟩] [q30,q29,q28],W q35 (.call (K 105) [t34]) [⟨q30,.load none t29,none⟩] [q30,q29,q28],B q36 [e,e] [(0,1,t30),(1,1,t35)],N (.mapUpdate (.agg [(0,.str),(1,.str)]) t28 t36 T)])) .skip))))
 (r [b q37 .add t13 (n 1),m q13 t37])))))))
 (R [m q38 t5,m q4 t38] .ret)))⟩
def c104 : AFunc := ⟨[q0],[.tmp q2],R [m q2 (.const (.map none))]
 (R [O q10 .makeMap,m q3 t10]
 (Q .skip (.block 0 (.loop (.block 1
 (R [m q11 t3,j q12 (.len .map) [t11],m q4 t12]
 (Q (R [m q13 t0,O q14 (.nilCheck t13),f q15 0 t14,f q16 0 t15,L q17 t16,g q18 [t17],m q19 (n 0)] (.block 2 (.loop
 (R [b q20 .lss t19 t18]
 (Q (C t20 .skip (.exit 2))
 (Q (.block 3
 (R [a q21 none 5 t17 t19,l q22 5 t21,h q6 none Y16,s 5 t6 t22]
 (R [f q23 4 t6,L q24 t23,g q25 [t24],m q26 (n 0)] (.block 4 (.loop
 (R [b q27 .lss t26 t25]
 (Q (C t27 .skip (.exit 4))
 (Q (.block 5
 (R [a q28 none 1 t24 t26,L q29 t28,m q8 t29]
 (R [f q30 0 t6,f q31 0 t30,L q32 t31,f q33 0 t6,l q34 4 t33,m q35 t8,h q9 none [e,e],W q36 (.call (K 106) [t34,t35]) [⟨q32,.load none t31,none⟩] [q9,q32,q31,q30],W q37 (.call (K 105) [t36]) [⟨q32,.load none t31,none⟩] [q9,q32,q31,q30],B q38 [e,e] [(0,1,t32),(1,1,t37)],s 2 t9 t38]
 (R [m q39 t3,l q40 2 t9,O q41 (.lookup w (.agg [(0,.str),(1,.str)]) t39 t40 false),O q42 (.un .not t41),m q43 t42,mt q44 t0 q43,Gt q45 (.fieldAddr 0 t6) q43,Gt q46 (.fieldAddr 0 t45) q43,Gt q47 (.load none t46) q43,mt q48 t8 q43,Gt q49 (.call (K 107) [t44,t47,n 1,t48]) q43,p q50 t43 t49 F]
 (C t50
 (r [m q51 t3,l q52 2 t9,m q53 t0,O q54 (.nilCheck t53),f q55 3 t54,L q56 t55,l q57 2 t9,V (.mapUpdate (.agg [(0,.str),(1,.str)]) t51 t52 T) [⟨q57,.load (some 2) t9,none⟩] [q57],O q58 (.mapEntry (.agg [(0,.str),(1,.str)]) w t56 t57),x q59 t58 1,N (.entryStore t56 t59 T)]) .skip)))))
 (r [b q60 .add t26 (n 1),m q26 t60])))))))))
 (r [b q61 .add t19 (n 1),m q19 t61])))))))
 (Q (R [m q62 t3,j q63 (.len .map) [t62],m q64 t4,b q65 .gtr t63 t64]
 (C t65 (.exit 1) .skip))
 (R [m q66 t3,m q2 t66] .ret)))))))))⟩
def c105 : AFunc := ⟨[q0],[.tmp q2],R [m q2 (S [])]
 (R [m q3 (.const v)]
 (Q (R [m q6 t0,g q7 [t6],m q8 (n 0)] (.block 0 (.loop
 (R [b q9 .lss t8 t7]
 (Q (C t9 .skip (.exit 0))
 (Q (.block 1
 (R [a q10 none 3 t6 t8,l q11 3 t10,h q5 none [z,z,e],s 3 t5 t11]
 (R [m q12 t3,f q13 0 t5,L q14 t13,k q15 184 [t12,t14,n 10],m q3 t15]
 (R [m q16 t3,O q17 (.buildSlice [y] 1 [(0,1,u 32)]),f q19 1 t5,L q20 t19,W q18 (.bi (.append 1 [y] false (some 5)) [t16,t17]) [⟨q20,.load none t19,none⟩] [q20,q19],k q21 184 [t18,t20,n 10],m q3 t21]
 (R [m q22 t3,O q23 (.buildSlice [y] 1 [(0,1,u 32)]),f q25 2 t5,L q26 t25,j q27 (.len .str) [t26],W q24 (.bi (.append 1 [y] false (some 5)) [t22,t23]) [⟨q27,.bi (.len .str) [t26],none⟩,⟨q26,.load none t25,none⟩] [q27,q26,q25],k q28 184 [t24,t27,n 10],m q3 t28]
 (r [m q29 t3,O q30 (.buildSlice [y] 1 [(0,1,u 32)]),f q32 2 t5,L q33 t32,W q31 (.bi (.append 1 [y] false (some 5)) [t29,t30]) [⟨q33,.load none t32,none⟩] [q33,q32],j q34 (.append 1 [y] false (some 5)) [t31,t33],m q3 t34]))))))
 (r [b q35 .add t8 (n 1),m q8 t35])))))))
 (R [m q36 t3,O q37 (.convStr t36),m q2 t37] .ret)))⟩
def c106 : AFunc := ⟨[q0,q1],[.tmp q4],R [O q2 (.box none t0),m q4 (.const v)]
 (R [m q5 (.const v)]
 (Q (R [f q8 3 t2,L q9 t8,g q10 [t9],m q11 (n 0)] (.block 0 (.loop
 (R [b q12 .lss t11 t10]
 (Q (C t12 .skip (.exit 0))
 (Q (.block 1
 (R [a q13 none 1 t9 t11,L q14 t13,m q7 t14]
 (r [m q15 t5,m q16 t1,m q17 t7,a q18 none 3 t16 t17,l q19 3 t18,O q20 (.buildSlice [z,z,e] 1 [(0,3,t19)]),j q21 (.append 3 [z,z,e] false none) [t15,t20],m q5 t21])))
 (r [b q22 .add t11 (n 1),m q11 t22])))))))
 (R [m q23 t5,m q4 t23] .ret)))⟩
def c107 : AFunc := ⟨[q0,q1,q2,q3],[.tmp q8],R [O q4 (.box none t0),O q5 (.box none t1),O q6 (.box none t2),O q7 (.box none t3),m q8 F]
 (R [L q9 t4,O q10 (.nilCheck t9),f q11 2 t10,L q12 t11,O q13 (.makeFunc (.fn 186) [] [t4,t5,t6,t7]),k q14 185 [t12,t13],m q8 t14] .ret)⟩
def c108 : AFunc := ⟨[q0,q1,q2],[.tmp q6],R [m q6 (.const v)]
 (R [m q12 t2,k q13 117 [t12],m q7 t13]
 (Q (R [m q14 t0,O q15 (.nilCheck t14),f q16 2 t15,L q17 t16,g q18 [t17],m q19 (n 0)] (.block 0 (.loop
 (R [b q20 .lss t19 t18]
 (Q (C t20 .skip (.exit 0))
 (Q (.block 1
 (R [a q21 none 12 t17 t19,l q22 12 t21,h q9 none Y10,s 12 t9 t22]
 (Q (R [m q23 t0,l q24 12 t9,m q25 t1,m q26 t2,k q27 187 [t23,t24,t25,n 2,t26],O q28 (.un .not t27)]
 (C t28 (.exit 1) .skip))
 (R [f q29 9 t9,L q30 t29,g q31 [t30],m q32 (n 0)] (.block 2 (.loop
 (R [b q33 .lss t32 t31]
 (Q (C t33 .skip (.exit 2))
 (Q (.block 3
 (R [a q34 none 1 t30 t32,L q35 t34,m q11 t35]
 (r [m q36 t7,m q37 t11,B q38 [z,z,e] [],a q39 none 3 t36 t37,s 3 t39 t38])))
 (r [b q40 .add t32 (n 1),m q32 t40]))))))))))
 (r [b q41 .add t19 (n 1),m q19 t41])))))))
 (R [m q42 t7,m q6 t42] .ret)))⟩
def c109 : AFunc := ⟨[q0,q1],[.tmp q4],R [m q4 (.const v)]
 (R [m q5 (.const v)]
 (Q (R [m q9 t0,g q10 [t9],m q11 (n 0)] (.block 0 (.loop
 (R [b q12 .lss t11 t10]
 (Q (C t12 .skip (.exit 0))
 (Q (.block 1
 (R [m q13 t11,a q14 none 5 t9 t11,l q15 5 t14,h q7 none Y16,m q6 t13,s 5 t7 t15]
 (R [O q16 (.makeFunc (.fn 188) [] [t7]),m q8 t16]
 (r [m q17 t5,f q18 4 t7,L q19 t18,m q20 t1,m q21 t6,a q22 none 5 t20 t21,f q23 4 t22,L q24 t23,m q25 t8,O q26 (.makeFunc (.fn 190) [] [t7]),D q27 (.call (K 189) [t19,t24,t25,t26]) [q17],j q28 (.append 3 [e,v,v] false none) [t17,t27],m q5 t28]))))
 (r [b q29 .add t11 (n 1),m q11 t29])))))))
 (R [m q30 t5,m q4 t30] .ret)))⟩
def c110 : AFunc := ⟨[q0,q1],[.cell q4 (some 5)],R [O q2 (.box none t0),O q3 (.box none t1),h q4 none Y16]
 (R [f q6 0 t2,L q7 t6,O q8 (.makeFunc (.fn 192) [] [t3]),k q9 191 [t7,t8],m q5 t9]
 (Q (R [m q10 t5,b q11 .lss t10 (n 0)]
 (C t11
 (R [B q12 Y16 [],s 5 t4 t12] .ret) .skip))
 (R [f q13 0 t2,L q14 t13,m q15 t5,a q16 none 5 t14 t15,l q17 5 t16,s 5 t4 t17] .ret)))⟩
def c111 : AFunc := ⟨[q0],[.tmp q2],R [O q1 (.box none t0),m q2 F]
 (Q (R [l q3 12 t1,k q4 193 [t3]] (.block 0
 (R [O q5 (.typeAssert 289 (.agg Y10) t4 true),x q6 t5 1,x q7 t5 0]
 (C t6
 (R [m q2 T] .ret) .skip))))
 (R [m q2 F] .ret))⟩
def c112 : AFunc := ⟨[q0,q1],[.tmp q4,.tmp q5],R [O q2 (.box none t0),m q4 (.const v),m q5 F]
 (R [m q6 (.const v)]
 (Q (R [f q9 9 t2,L q10 t9,g q11 [t10],m q12 (n 0)] (.block 0 (.loop
 (R [b q13 .lss t12 t11]
 (Q (C t13 .skip (.exit 0))
 (Q (.block 1
 (R [a q14 none 1 t10 t12,L q15 t14,m q8 t15]
 (Q (R [m q16 t1,m q17 t8,a q18 none 3 t16 t17,f q19 0 t18,L q20 t19,b q21 .eql t20 (n 0)]
 (C t21
 (R [m q4 (.const v),m q5 F] .ret) .skip))
 (r [m q22 t6,m q23 t1,m q24 t8,a q25 none 3 t23 t24,l q26 3 t25,O q27 (.buildSlice [z,z,e] 1 [(0,3,t26)]),j q28 (.append 3 [z,z,e] false none) [t22,t27],m q6 t28]))))
 (r [b q29 .add t12 (n 1),m q12 t29])))))))
 (R [m q30 t6,m q4 t30,m q5 T] .ret)))⟩
def c113 : AFunc := ⟨[q0,q1],[.tmp q4],R [m q4 F]
 (Q (R [m q6 t0,g q7 [t6],m q8 t1,g q9 [t8],b q10 .neq t7 t9]
 (C t10
 (R [m q4 F] .ret) .skip))
 (Q (R [m q11 t0,g q12 [t11],m q13 (n 0)] (.block 0 (.loop
 (R [b q14 .lss t13 t12]
 (Q (C t14 .skip (.exit 0))
 (Q (.block 1
 (R [m q15 t13,m q5 t15]
 (R [m q16 t0,m q17 t5,a q18 none 3 t16 t17,l q19 3 t18,m q20 t1,m q21 t5,a q22 none 3 t20 t21,l q23 3 t22,O q24 (.eql true (.agg [(0,.int),(1,.int),(2,.str)]) t19 t23)]
 (C t24
 (R [m q4 F] .ret) .skip))))
 (r [b q25 .add t13 (n 1),m q13 t25])))))))
 (R [m q4 T] .ret)))⟩
def c114 : AFunc := ⟨[q0,q1,q2],[.tmp q5],R [m q5 (n 0)]
 (R [f q6 0 t2,l q7 4 t6,m q8 t0,m q9 t1,k q10 98 [t7,t8,t9],m q5 t10] .ret)⟩
def c115 : AFunc := ⟨[q0,q1,q2,q3],[.tmp q8],R [m q8 (.const v)]
 (R [h q9 none [v]]
 (R [O q12 (.makeFunc (.fn 194) [] [t9]),m q10 t12]
 (Q (.block 0 (.loop
 (Q (R [m q13 t0,g q14 [t13],b q15 .gtr t14 (n 0),m q16 t15,mf q17 t1 q16,Gf q18 (.bi (.len .slice) [t17]) q16,Gf q19 (.bin .gtr t18 (n 0)) q16,p q20 t16 T t19]
 (C t20 .skip (.exit 0))) (.block 1
 (R [m q11 (n 0)]
 (Q (.block 2
 (R [m q30 t0,g q31 [t30],b q32 .eql t31 (n 0),m q29 t32]
 (C t29
 (r [m q11 (n 1)])
 (R [m q34 t1,g q35 [t34],b q36 .eql t35 (n 0),m q33 t36]
 (C t33
 (r [m q11 (n (-1))])
 (r [m q21 t2,m q22 t0,a q23 none 1 t22 (n 0),L q24 t23,m q25 t1,a q26 none 1 t25 (n 0),L q27 t26,O q28 (.call t21 [t24,t27]),m q11 t28])))))) (.block 3
 (R [m q52 t11,b q53 .lss t52 (n 0),m q51 t53]
 (C t51
 (R [m q54 t10,m q55 t3,m q56 t0,a q57 none 1 t56 (n 0),O q58 (.call t55 [t57,.const (.ptr none)]),x q59 t58 0,x q60 t58 1,O q61 (.call t54 [t59,t60])]
 (r [m q62 t0,O q63 (.slice .slice 1 t62 (some (n 1)) none none),m q0 t63]))
 (R [m q65 t11,b q66 .gtr t65 (n 0),m q64 t66]
 (C t64
 (R [m q67 t10,m q68 t3,m q69 t1,a q70 none 1 t69 (n 0),O q71 (.call t68 [.const (.ptr none),t70]),x q72 t71 0,x q73 t71 1,O q74 (.call t67 [t72,t73])]
 (r [m q75 t1,O q76 (.slice .slice 1 t75 (some (n 1)) none none),m q1 t76]))
 (R [m q37 t10,m q38 t3,m q39 t0,a q40 none 1 t39 (n 0),m q41 t1,a q42 none 1 t41 (n 0),D q43 (.call t38 [t40,t42]) [q37],x q44 t43 0,x q45 t43 1,O q46 (.call t37 [t44,t45])]
 (r [m q47 t0,O q48 (.slice .slice 1 t47 (some (n 1)) none none),m q49 t1,O q50 (.slice .slice 1 t49 (some (n 1)) none none),m q0 t48,m q1 t50])))))))))))))
 (R [L q77 t9,m q8 t77] .ret))))⟩
def c116 : AFunc := ⟨[q0,q1],[.tmp q4,.tmp q5],R [m q4 (.const v),m q5 F]
 (Q (R [m q6 t0,O q7 (.eql true (.one .ptr) t6 (.const (.ptr none)))]
 (C t7
 (R [m q8 t0,O q9 (.nilCheck t8),L q10 t9,k q11 117 [t10],m q4 t11,m q5 T] .ret) .skip))
 (R [m q12 t1,O q13 (.nilCheck t12),L q14 t13,k q15 117 [t14],m q4 t15,m q5 T] .ret))⟩
def c117 : AFunc := ⟨[q0],[.tmp q2],R [m q2 (.const v)]
 (Q (R [m q3 t0,O q4 (.eql false (.one .slice) t3 (.const v))]
 (C t4
 (R [m q2 (.const v)] .ret) .skip))
 (R [O q5 (.buildSlice [] 0 []),m q6 t0,j q7 (.append 3 [z,z,e] false none) [t5,t6],m q2 t7] .ret))⟩
def c118 : AFunc := ⟨[q0],[.tmp q2],R [O q1 (.box none t0),m q2 F]
 (R [f q3 4 t1,L q4 t3,g q5 [t4],b q6 .gtr t5 (n 2000),m q2 t6] .ret)⟩
def c119 : AFunc := ⟨[q0,q1],[.tmp q4],R [m q4 F]
 (R [m q5 t0,m q6 t1,k q7 191 [t5,t6],b q8 .geq t7 (n 0),m q4 t8] .ret)⟩
def c120 : AFunc := ⟨[q0,q1,q2],[.cell q6 (some 6),.cell q7 (some 25),.tmp q8],R [O q3 (.box none t0),O q4 (.box none t1),O q5 (.box none t2),h q6 none Y15,h q7 none Y5,m q8 (n 0)]
 (R [l q9 6 t3,l q10 25 t4,O q11 (.makeFunc (.fn 195) [] [t5]),k q12 33 [t9,t10,t11],x q13 t12 0,x q14 t12 1,x q15 t12 2,s 6 t6 t13,s 25 t7 t14,m q8 t15] .ret)⟩
def c121 : AFunc := ⟨[q0,q1,q2],[.cell q6 (some 6),.cell q7 (some 25),.tmp q8],R [O q3 (.box none t0),O q4 (.box none t1),O q5 (.box none t2),h q6 none Y15,h q7 none Y5,m q8 (n 0)]
 (R [l q9 6 t3,l q10 25 t4,O q11 (.makeFunc (.fn 198) [] [t5]),k q12 33 [t9,t10,t11],x q13 t12 0,x q14 t12 1,x q15 t12 2,s 6 t6 t13,s 25 t7 t14,m q8 t15] .ret)⟩
def c123 : AFunc := ⟨[q0,q1],[.tmp q4],R [m q4 (.const v)]
 (R [m q5 t1,b q6 .eql t5 (n 0),m q7 t1,k q8 35 [t6,t7]]
 (R [m q9 t0,m q4 t9] .ret))⟩
def c124 : AFunc := ⟨[q0,q1],[.cell q4 none,.cell q5 none],R [O q2 (.box none t0),h q4 none [e],h q5 none [z]]
 (R [O q7 (.makeFunc (.fn 201) [] [t4]),N (.defer (K 147) [t5,t7])]
 (R [l q8 4 t2,k q9 202 [t8],m q6 t9]
 (R [m q10 t6,m q11 t1,k q12 204 [t10,t11],k q13 203 [t12,n 10]]
 (R [m q14 t6,m q15 t1,k q16 205 [t14,t15],s 1 t4 t16]
 (R [L q17 t4,j q18 (.len .str) [t17],b q19 .leq t18 (n 48),k q20 203 [t19,n 3]]
 (R [L q21 t4,s 1 t4 t21,s 1 t5 (n 0)] .ret))))))⟩
def c125 : AFunc := ⟨[q0,q1,q2,q3,q4],[],R [O q6 (.box none t1),O q7 (.box none t2),O q8 (.box none t3),O q9 (.box none t4)]
 (R [h q10 none [v]]
 (R [k q14 88 [],h q11 none [.nilFunc],s 1 t11 t14]
 (Q (R [m q15 t0,l q16 11 t6,l q17 5 t7,l q18 18 t8,k q19 89 [t15,t16,t17,t18]] (.block 0 (.rangeFunc t19 [q20]
 (r [h q12 none [e,e],s 2 t12 t20]) (.block 1
 (R [L q21 t11,f q22 0 t12,L q23 t22,O q24 (.call t21 [t23])]
 (r [L q25 t10,l q26 2 t12,O q27 (.buildSlice [e,e] 1 [(0,2,t26)]),j q28 (.append 2 [e,e] false none) [t25,t27],s 1 t10 t28]))))))
 (R [L q29 t10,k q30 206 [t29,K 207]]
 (R [m q31 t0,O q32 (.nilCheck t31),f q33 0 t32,l q34 6 t33,l q35 18 t9,k q36 101 [t34,t35,S [],S [],n 20000],x q37 t36 0,x q38 t36 1,k q39 123 [t37,t38],m q13 t39]
 (r [m q40 t13,L q41 t10,k q42 208 [t40,t41],k q43 35 [t42,n 9]]))))))⟩
def c126 : AFunc := ⟨[q0,q1,q2],[],R [L q8 t1,g q9 [t8],m q10 (n 0)] (.block 0 (.loop
 (R [b q11 .lss t10 t9]
 (Q (C t11 .skip (.exit 0))
 (Q (.block 1
 (R [m q12 t10,a q13 none 12 t8 t10,l q14 12 t13,h q5 none Y10,m q4 t12,s 12 t5 t14]
 (R [l q15 2 t2,f q16 1 t5,L q17 t16,k q18 110 [t15,t17],O q19 (.field 4 none t18),g q20 [t19],m q21 (n 0)] (.block 2 (.loop
 (R [b q22 .lss t21 t20]
 (Q (C t22 .skip (.exit 2))
 (Q (.block 3
 (R [a q23 none 1 t19 t21,L q24 t23,m q7 t24]
 (R [l q25 2 t2,l q26 12 t5,m q27 t7,k q28 127 [t25,t26,t27],O q29 (.un .not t28),m q30 t29,mt q31 t0 q30,mt q32 t4 q30,mt q33 t7 q30,Gt q34 (.build [z,v] [(0,1,t32),(1,1,t33)]) q30,Gt q35 (.call t31 [t34]) q30,Gt q36 (.un .not t35) q30,p q37 t30 t36 F]
 (C t37 .ret .skip))))
 (r [b q38 .add t21 (n 1),m q21 t38])))))))))
 (r [b q39 .add t10 (n 1),m q10 t39]))))))⟩
def c127 : AFunc := ⟨[q0,q1,q2],[.tmp q6],R [O q3 (.box none t0),O q4 (.box none t1),m q6 F]
 (Q (R [l q9 12 t4,k q10 111 [t9],O q11 (.un .not t10)]
 (C t11
 (R [l q12 12 t4,m q13 t2,k q14 209 [t12,t13],m q6 t14] .ret) .skip))
 (R [l q16 12 t4,m q17 t2,k q18 112 [t16,t17],m q15 t18,x q19 t15 0,x q20 t15 1,m q7 t19,m q8 t20]
 (R [m q21 t8,O q22 (.un .not t21),m q23 t22,Gf q24 (.load (some 2) t3) q23,Gf q25 (.fieldAddr 10 t4) q23,Gf q26 (.load none t25) q23,mf q27 t7 q23,Gf q28 (.call (K 210) [t24,t26,t27]) q23,p q29 t23 T t28,m q6 t29] .ret)))⟩
def c128 : AFunc := ⟨[q0],[.tmp q2],R [O q1 (.box none t0),m q2 F]
 (R [l q3 5 t1,k q4 129 [t3],O q5 (.un .not t4),m q2 t5] .ret)⟩
def c129 : AFunc := ⟨[q0],[.tmp q2],R [O q1 (.box none t0),m q2 F]
 (Q (R [f q5 4 t1,L q6 t5,g q7 [t6],m q8 (n 0)] (.block 0 (.loop
 (R [b q9 .lss t8 t7]
 (Q (C t9 .skip (.exit 0))
 (Q (.block 1
 (R [m q10 t8,a q11 none 1 t6 t8,L q12 t11,m q3 t10,m q4 t12]
 (Q (R [f q13 0 t1,l q14 4 t13,m q15 t4,k q16 175 [t14,t15],b q17 .neq t16 (n 0)]
 (C t17
 (R [m q2 F] .ret) .skip))
 (R [m q18 t3,b q19 .gtr t18 (n 0),m q20 t19,Gt q21 (.fieldAddr 0 t1) q20,Gt q22 (.load (some 4) t21) q20,Gt q23 (.fieldAddr 4 t1) q20,Gt q24 (.load none t23) q20,mt q25 t3 q20,Gt q26 (.bin .sub t25 (n 1)) q20,Gt q27 (.indexAddr none 1 t24 t26) q20,Gt q28 (.load none t27) q20,mt q29 t4 q20,Gt q30 (.call (K 98) [t22,t28,t29]) q20,Gt q31 (.bin .geq t30 (n 0)) q20,p q32 t20 t31 F]
 (C t32
 (R [m q2 F] .ret) .skip)))))
 (r [b q33 .add t8 (n 1),m q8 t33])))))))
 (R [m q2 T] .ret))⟩
def c130 : AFunc := ⟨[q0,q1],[.tmp q4],R [O q2 (.box none t0),m q4 F]
 (R [m q9 t1,f q10 1 t2,L q11 t10,k q12 96 [t9,t11],m q8 t12,x q13 t8 0,x q14 t8 1,h q5 none Y17,s 4 t5 t13,m q6 t14]
 (R [l q15 12 t2,k q16 193 [t15],m q7 t16]
 (R [m q17 t6,m q18 t17,Gt q19 (.fieldAddr 0 t2) q18,Gt q20 (.load none t19) q18,Gt q21 (.call (K 211) [t20]) q18,p q22 t18 t21 F,m q23 t22,mt q24 t7 q23,Gt q25 (.eql true (.one .iface) t24 I) q23,p q26 t23 t25 F,m q27 t26,mt q28 t7 q27,mt q29 t1 q27,Gt q30 (.invoke t28 [(289,639),(367,643)] [t29]) q27,p q31 t27 t30 F,m q4 t31] .ret)))⟩
def c131 : AFunc := ⟨[q0,q1],[.tmp q4],R [O q2 (.box none t0),O q3 (.box none t1),m q4 (n 0)]
 (R [f q5 1 t2,L q6 t5,f q7 1 t3,L q8 t7,f q10 0 t2,L q11 t10,f q12 0 t3,L q13 t12,W q9 (.call (K 39) [t6,t8]) [⟨q13,.load none t12,none⟩,⟨q11,.load none t10,none⟩] [q13,q12,q11,q10],k q14 39 [t11,t13],O q15 (.buildSlice [z,z] 2 [(0,1,t9),(1,1,t14)]),k q16 212 [t15],m q4 t16] .ret)⟩
def c132 : AFunc := ⟨[q0],[],r [s 1 t0 (.const v)]⟩
def c133 : AFunc := ⟨[q0,q1],[.tmp q4,.tmp q5],R [m q4 (.const v),m q5 (S [])]
 (R [m q11 t1,g q12 [t11],m q13 t0,O q14 (.nilCheck t13),f q15 31 t14,f q16 3 t15,L q17 t16,g q18 [t17],b q19 .eql t12 t18,k q20 35 [t19,n 1]]
 (R [m q22 t0,O q23 (.nilCheck t22),f q24 31 t23,l q25 4 t24,m q26 t1,k q27 213 [t25,t26],m q21 t27,x q28 t21 0,x q29 t21 1,x q30 t21 2,m q6 t28,m q7 t29,m q8 t30]
 (R [m q31 t8,b q32 .eql t31 (n 0),m q33 t8,k q34 35 [t32,t33]]
 (R [m q35 t0,O q36 (.nilCheck t35),f q37 0 t36,f q38 0 t37,l q39 6 t38,m q40 t0,O q41 (.nilCheck t40),f q42 6 t41,f q43 5 t42,l q44 18 t43,m q45 t6,k q46 200 [t39,t44,t45],x q47 t46 0,x q48 t46 1,k q49 214 [t47,t48],m q9 t49]
 (R [m q51 t0,O q52 (.nilCheck t51),f q53 6 t52,f q54 0 t53,l q55 5 t54,m q56 t6,m q57 t9,k q58 102 [t55,t56,t57],m q50 t58,x q59 t50 0,x q60 t50 1,m q10 t59,m q8 t60]
 (R [m q61 t8,b q62 .eql t61 (n 0),k q63 35 [t62,n 8]]
 (R [m q64 t10,m q65 t6,m q4 t64,m q5 t65] .ret)))))))⟩
def c134 : AFunc := ⟨[q0],[.tmp q2],R [m q2 F]
 (Q (R [m q5 t0,O q6 (.convBytes (some 5) t5),g q7 [t6],m q8 (n 0)] (.block 0 (.loop
 (R [b q9 .lss t8 t7]
 (Q (C t9 .skip (.exit 0))
 (Q (.block 1
 (R [a q10 none 1 t6 t8,L q11 t10,m q4 t11]
 (R [m q12 t4,b q13 .lss t12 (u 33),m q14 t13,mf q15 t4 q14,Gf q16 (.bin .gtr t15 (u 126)) q14,p q17 t14 T t16]
 (C t17
 (R [m q2 F] .ret) .skip))))
 (r [b q18 .add t8 (n 1),m q8 t18])))))))
 (R [m q19 t0,j q20 (.len .str) [t19],b q21 .geq t20 (n 1),m q22 t21,mt q23 t0 q22,Gt q24 (.bi (.len .str) [t23]) q22,Gt q25 (.bin .leq t24 (n 24)) q22,p q26 t22 t25 F,m q2 t26] .ret))⟩
def c135 : AFunc := ⟨[q0,q1],[.tmp q4],R [m q4 (n 0)]
 (R [m q5 t0,m q6 t1,k q7 215 [t5,t6],m q4 t7] .ret)⟩
def c136 : AFunc := ⟨[q0],[.tmp q2],R [O q1 (.box none t0),m q2 F]
 (R [l q3 6 t1,k q4 137 [t3],O q5 (.un .not t4),m q2 t5] .ret)⟩
def c137 : AFunc := ⟨[q0],[.tmp q2],R [O q1 (.box none t0),m q2 F]
 (R [f q3 0 t1,L q4 t3,k q5 134 [t4],m q6 t5,Gt q7 (.fieldAddr 1 t1) q6,Gt q8 (.load none t7) q6,Gt q9 (.bin .eql t8 (n 1)) q6,mt q10 t9 q6,Gf q11 (.fieldAddr 1 t1) q10,Gf q12 (.load none t11) q10,Gf q13 (.bin .eql t12 (n 2)) q10,Gt q14 (.pick t10 T t13) q6,mt q15 t14 q6,Gf q16 (.fieldAddr 1 t1) q15,Gf q17 (.load none t16) q15,Gf q18 (.bin .eql t17 (n 3)) q15,Gt q19 (.pick t15 T t18) q6,p q20 t6 t19 F,m q21 t20,Gt q22 (.load (some 6) t1) q21,Gt q23 (.fieldAddr 3 t1) q21,Gt q24 (.load (some 3) t23) q21,Gt q25 (.call (K 216) [t22,t24]) q21,p q26 t21 t25 F,m q2 t26] .ret)⟩
def c138 : AFunc := ⟨[q0,q1],[.tmp q4],R [m q4 F]
 (R [O q9 .makeMap,m q5 t9]
 (Q (R [m q10 t0,g q11 [t10],m q12 (n 0)] (.block 0 (.loop
 (R [b q13 .lss t12 t11]
 (Q (C t13 .skip (.exit 0))
 (Q (.block 1
 (R [a q14 none 6 t10 t12,l q15 6 t14,h q7 none [e,z,w,z,z,e],s 6 t7 t15]
 (R [m q16 t1,l q17 6 t7,O q18 (.call t16 [t17]),m q8 t18]
 (Q (R [m q19 t5,m q20 t8,O q21 (.lookup w (.one .str) t19 t20 false)]
 (C t21
 (R [m q4 F] .ret) .skip))
 (r [m q22 t5,m q23 t8,N (.mapUpdate (.one .str) t22 t23 T)])))))
 (r [b q24 .add t12 (n 1),m q12 t24])))))))
 (R [m q4 T] .ret)))⟩
def c139 : AFunc := ⟨[q0],[.tmp q2],R [O q1 (.box none t0),m q2 (S [])]
 (R [f q3 0 t1,L q4 t3,m q2 t4] .ret)⟩
def c140 : AFunc := ⟨[q0,q1],[.tmp q4],R [m q4 F]
 (R [O q9 .makeMap,m q5 t9]
 (Q (R [m q10 t0,g q11 [t10],m q12 (n 0)] (.block 0 (.loop
 (R [b q13 .lss t12 t11]
 (Q (C t13 .skip (.exit 0))
 (Q (.block 1
 (R [a q14 none 1 t10 t12,L q15 t14,m q7 t15]
 (R [m q16 t1,m q17 t7,O q18 (.call t16 [t17]),m q8 t18]
 (Q (R [m q19 t5,m q20 t8,O q21 (.lookup w (.one .int) t19 t20 false)]
 (C t21
 (R [m q4 F] .ret) .skip))
 (r [m q22 t5,m q23 t8,N (.mapUpdate (.one .int) t22 t23 T)])))))
 (r [b q24 .add t12 (n 1),m q12 t24])))))))
 (R [m q4 T] .ret)))⟩
def c141 : AFunc := ⟨[q0],[.tmp q2],R [m q2 (n 0)]
 (R [m q3 t0,m q2 t3] .ret)⟩
def c142 : AFunc := ⟨[q0,q1],[.tmp q4],R [m q4 (n 0)]
 (R [m q5 t0,m q6 t1,k q7 217 [t5,t6],m q4 t7] .ret)⟩
def c143 : AFunc := ⟨[q0,q1],[.tmp q3],R [m q3 F]
 (R [m q4 t0,b q5 .lss t4 (n 0),m q6 t5,mf q7 t0 q6,Gf q8 (.fieldAddr 2 t1) q6,Gf q9 (.load none t8) q6,Gf q10 (.bi (.len .slice) [t9]) q6,Gf q11 (.bin .geq t7 t10) q6,p q12 t6 T t11,m q13 t12,Gf q14 (.fieldAddr 2 t1) q13,Gf q15 (.load none t14) q13,mf q16 t0 q13,Gf q17 (.indexAddr none 6 t15 t16) q13,Gf q18 (.fieldAddr 2 t17) q13,Gf q19 (.load none t18) q13,p q20 t13 T t19,m q3 t20] .ret)⟩
def c144 : AFunc := ⟨[q0],[.tmp q2],R [m q2 (.const v)]
 (Q (R [m q3 t0,O q4 (.eql false (.one .slice) t3 (.const v))]
 (C t4
 (R [m q2 (.const v)] .ret) .skip))
 (R [O q5 (.buildSlice [] 0 []),m q6 t0,j q7 (.append 8 [z,z,e,z,w,z,z,e] false none) [t5,t6],m q2 t7] .ret))⟩
def c145 : AFunc := ⟨[q0],[.tmp q2],R [m q2 (.const v)]
 (Q (R [m q3 t0,O q4 (.eql false (.one .slice) t3 (.const v))]
 (C t4
 (R [m q2 (.const v)] .ret) .skip))
 (R [O q5 (.buildSlice [] 0 []),m q6 t0,j q7 (.append 18 Y8 false none) [t5,t6],m q2 t7] .ret))⟩
def c146 : AFunc := ⟨[q0],[.cell q2 (some 6)],R [O q1 (.box none t0),h q2 none Y14]
 (R [m q3 (.const v)]
 (Q (R [f q6 5 t1,L q7 t6,g q8 [t7],m q9 (n 0)] (.block 0 (.loop
 (R [b q10 .lss t9 t8]
 (Q (C t10 .skip (.exit 0))
 (Q (.block 1
 (R [a q11 none 6 t7 t9,l q12 6 t11,h q5 none Y14,s 6 t5 t12]
 (r [m q13 t3,l q14 6 t5,k q15 146 [t14],O q16 (.buildSlice Y14 1 [(0,6,t15)]),j q17 (.append 6 Y14 false none) [t13,t16],m q3 t17])))
 (r [b q18 .add t9 (n 1),m q9 t18])))))))
 (R [m q19 t3,f q20 5 t1,s 1 t20 t19]
 (R [l q21 6 t1,s 6 t2 t21] .ret))))⟩
def c147 : AFunc := ⟨[q0,q1],[],R [O q7 .recover] (.block 0
 (R [O q9 (.eql false (.one .iface) t7 I)]
 (C t9
 (r [m q4 t7])
 (R [O q10 (.typeAssert 311 (.agg [z]) t7 true),x q11 t10 1,x q12 t10 0]
 (C t11
 (R [h q5 none [z],s 1 t5 t12]
 (R [m q13 t1,O q14 (.call t13 [])]
 (r [m q15 t0,f q16 0 t5,L q17 t16,O q18 (.nilCheck t15),s 1 t18 t17])))
 (R [m q6 t7]
 (r [m q8 t6,N (.panic t8)])))))))⟩
def c149 : AFunc := ⟨[q0],[],R [O q1 (.box none t0)]
 (r [l q2 5 t1,k q3 218 [t2],b q4 .eql t3 (n 0),k q5 203 [t4,n 2]])⟩
def c150 : AFunc := ⟨[q0],[.cell q2 (some 4)],R [O q1 (.box none t0),h q2 none Y17]
 (R [f q3 2 t1,L q4 t3,f q6 3 t1,L q7 t6,W q5 (.call (K 78) [t4]) [⟨q7,.load none t6,none⟩] [q7,q6],f q9 2 t1,D q8 (.call (K 79) [t7]) [q9],s 1 t9 t5,f q10 3 t1,s 1 t10 t8]
 (R [l q11 4 t1,s 4 t2 t11] .ret))⟩
def c151 : AFunc := ⟨[q0],[.cell q2 (some 4)],R [O q1 (.box none t0),h q2 none Y17]
 (R [h q3 none Y17]
 (Q (R [l q6 5 t1,k q7 219 [t6]] (.block 0 (.rangeFunc t7 [q8,q9]
 (r [h q5 none Y17,s 4 t5 t9]) (.block 1
 (r [l q10 4 t5,s 4 t3 t10])))))
 (R [l q11 4 t3,s 4 t2 t11] .ret)))⟩
def c153 : AFunc := ⟨[q0,q1],[],R [O q2 (.box none t0)]
 (R [l q6 6 t2,k q7 221 [t6],b q8 .eql t7 (n 0),k q9 35 [t8,n 2]]
 (R [m q10 t1,g q11 [t10],m q12 (n 0)] (.block 0 (.loop
 (R [b q13 .lss t12 t11]
 (Q (C t13 .skip (.exit 0))
 (Q (.block 1
 (R [a q14 none 18 t10 t12,l q15 18 t14,h q5 none Y8,s 18 t5 t15]
 (r [l q16 18 t5,k q17 222 [t16],k q18 35 [t17,n 2]])))
 (r [b q19 .add t12 (n 1),m q12 t19]))))))))⟩
def c154 : AFunc := ⟨[q0],[.tmp q2],R [O q1 (.box none t0),m q2 (.const (.ptr none))]
 (R [l q8 25 t1,f q9 0 t1,l q10 5 t9,O q12 .makeMap,W q11 (.call (K 168) [t10]) [⟨q8,.load (some 25) t1,none⟩] [q12,q8],B q13 [v,v,v,v,z,z,e,z,v,v,v,z,z,y,y,y,y,y,y,y,y,y,y,y,y,y,y,y,y,v,v,e,z,v,v,.map none] [(6,25,t8),(31,4,t11),(35,1,t12)],O q14 (.box none t13),m q3 t14]
 (R [f q15 23 t1,L q16 t15,g q17 [t16],b q18 .leq t17 (n 8),m q19 t18,Gt q20 (.fieldAddr 24 t1) q19,Gt q21 (.load none t20) q19,Gt q22 (.bi (.len .slice) [t21]) q19,Gt q23 (.fieldAddr 23 t1) q19,Gt q24 (.load none t23) q19,Gt q25 (.bi (.len .slice) [t24]) q19,Gt q26 (.bin .eql t22 t25) q19,p q27 t19 t26 F,k q28 35 [t27,n 2]]
 (Q (R [f q29 23 t1,L q30 t29,g q31 [t30],m q32 (n 0)] (.block 0 (.loop
 (R [b q33 .lss t32 t31]
 (Q (C t33 .skip (.exit 0))
 (Q (.block 1
 (R [m q34 t32,a q35 none 11 t30 t32,l q36 11 t35,h q5 none Y11,m q4 t34,s 11 t5 t36]
 (R [l q37 11 t5,m q38 t3,O q39 (.nilCheck t38),f q40 31 t39,l q41 4 t40,k q42 36 [t37,t41],m q43 t42,mt q44 t4 q43,Gt q45 (.bin .eql t44 (n 0)) q43,mt q46 t45 q43,Gf q47 (.fieldAddr 23 t1) q46,Gf q48 (.load none t47) q46,mf q49 t4 q46,Gf q50 (.bin .sub t49 (n 1)) q46,Gf q51 (.indexAddr none 11 t48 t50) q46,Gf q52 (.fieldAddr 0 t51) q46,Gf q53 (.load none t52) q46,Gf q54 (.fieldAddr 0 t5) q46,Gf q55 (.load none t54) q46,Gf q56 (.bin .lss t53 t55) q46,Gt q57 (.pick t46 T t56) q43,p q58 t43 t57 F,k q59 35 [t58,n 2]]
 (r [m q60 t3,O q61 (.nilCheck t60),f q62 35 t61,L q63 t62,f q64 0 t5,L q65 t64,m q66 t4,N (.mapUpdate (.one .str) t63 t65 t66)]))))
 (r [b q67 .add t32 (n 1),m q32 t67])))))))
 (R [m q68 t3,m q69 t3,f q70 24 t1,L q71 t70,k q72 145 [t71],O q73 (.nilCheck t68),f q74 6 t73,f q75 23 t74,s 1 t75 (.const v),O q76 (.nilCheck t69),f q77 6 t76,f q78 24 t77,s 1 t78 t72]
 (Q (R [f q79 23 t1,L q80 t79,g q81 [t80],m q82 (n 0)] (.block 2 (.loop
 (R [b q83 .lss t82 t81]
 (Q (C t83 .skip (.exit 2))
 (Q (.block 3
 (R [a q84 none 11 t80 t82,l q85 11 t84,h q7 none Y11,s 11 t7 t85]
 (r [m q86 t3,m q87 t3,O q88 (.nilCheck t87),f q89 6 t88,f q90 23 t89,L q91 t90,l q92 11 t7,W q93 (.call (K 42) [t92]) [⟨q91,.load none t90,none⟩] [q91,q90,q89,q88,q87,q86],O q94 (.buildSlice Y11 1 [(0,11,t93)]),D q95 (.bi (.append 11 Y11 false none) [t91,t94]) [q86],O q96 (.nilCheck t86),f q97 6 t96,f q98 23 t97,s 1 t98 t95])))
 (r [b q99 .add t82 (n 1),m q82 t99])))))))
 (R [m q100 t3,m q2 t100] .ret))))))⟩
def c155 : AFunc := ⟨[q0,q1],[],R [O q7 .recover] (.block 0
 (R [O q9 (.eql false (.one .iface) t7 I)]
 (C t9
 (r [m q4 t7])
 (R [O q10 (.typeAssert 320 (.agg [z]) t7 true),x q11 t10 1,x q12 t10 0]
 (C t11
 (R [h q5 none [z],s 1 t5 t12]
 (R [m q13 t1,O q14 (.call t13 [])]
 (r [m q15 t0,f q16 0 t5,L q17 t16,O q18 (.nilCheck t15),s 1 t18 t17])))
 (R [m q6 t7]
 (r [m q8 t6,N (.panic t8)])))))))⟩
def c157 : AFunc := ⟨[],[.tmp q0],R [m q0 (.const (.ptr none))]
 (R [B q1 Y13 [(0,1,n 0),(1,1,n 0)],B q2 Y13 [(0,1,n 0),(1,1,n 0)],B q3 Y13 [(0,1,n 0),(1,1,n 0)],B q4 Y13 [(0,1,n 1),(1,1,n 1),(2,1,n 1),(3,1,n 2),(4,1,n 2),(5,1,K 223)],B q5 Y13 [(0,1,n 2),(1,1,n 2),(2,1,n 1),(3,1,n 2),(4,1,n 2),(5,1,K 224)],B q6 Y13 [(0,1,n 2),(1,1,n 2),(2,1,n 1),(3,1,n 2),(4,1,n 2),(5,1,K 225)],B q7 Y13 [(0,1,n 2),(1,1,n 2),(2,1,n 1),(3,1,n 2),(4,1,n 2),(5,1,K 226)],B q8 Y13 [(0,1,n 2),(1,1,n 2),(2,1,n 1),(3,1,n 2),(4,1,n 2),(5,1,K 227)],B q9 Y13 [(0,1,n 2),(1,1,n 2),(2,1,n 1),(3,1,n 2),(4,1,n 2),(5,1,K 228)],k q10 229 [K 230],B q11 Y13 [(0,1,n 2),(1,1,n 2),(2,1,n 1),(3,1,n (-1)),(4,1,n 1),(5,1,t10)],k q12 229 [K 231],B q13 Y13 [(0,1,n 2),(1,1,n 2),(2,1,n 1),(3,1,n (-1)),(4,1,n 1),(5,1,t12)],k q14 229 [K 232],B q15 Y13 [(0,1,n 2),(1,1,n 2),(2,1,n 1),(3,1,n (-1)),(4,1,n 1),(5,1,t14)],k q16 229 [K 233],B q17 Y13 [(0,1,n 2),(1,1,n 2),(2,1,n 1),(3,1,n (-1)),(4,1,n 1),(5,1,t16)],k q18 229 [K 234],B q19 Y13 [(0,1,n 2),(1,1,n 2),(2,1,n 1),(3,1,n (-1)),(4,1,n 1),(5,1,t18)],k q20 229 [K 235],B q21 Y13 [(0,1,n 2),(1,1,n 2),(2,1,n 1),(3,1,n (-1)),(4,1,n 1),(5,1,t20)],B q22 Y13 [(0,1,n 1),(1,1,n 50),(2,1,n 1),(3,1,n 1),(4,1,n 1)],B q23 Y13 [(0,1,n 1),(1,1,n 50),(2,1,n 1),(3,1,n 1),(4,1,n 1)],B q24 Y13 [(0,1,n 1),(1,1,n 1),(2,1,n 1),(3,1,n 1),(4,1,n 1),(5,1,K 236)],B q25 Y13 [(0,1,n 1),(1,1,n 1),(2,1,n 1),(3,1,n 0),(4,1,n 1)],B q26 Y13 [(0,1,n 3),(1,1,n 41),(2,1,n 2),(3,1,n (-1)),(4,1,n (-1))],B q27 Y13 [(0,1,n 1),(1,1,n 20),(2,1,n 1),(3,1,n (-1)),(4,1,n (-1))],B q28 Y13 [(0,1,n 2),(1,1,n 50),(2,1,n 1),(3,1,n (-1)),(4,1,n 1)],B q29 Y13 [(0,1,n 1),(1,1,n 20),(2,1,n 1),(3,1,n 3),(4,1,n 3),(5,1,K 238)],B q30 Y13 [(0,1,n 1),(1,1,n 1),(2,1,n 1),(3,1,n 3),(4,1,n 2),(5,1,K 239)],B q31 Y13 [(0,1,n 3),(1,1,n 3),(2,1,n 1),(3,1,n 0),(4,1,n 3),(5,1,K 241)],B q32 Y13 [(0,1,n 1),(1,1,n 1),(2,1,n 1),(3,1,n 3),(4,1,n 3),(5,1,K 242)],B q33 Y13 [(0,1,n 1),(1,1,n 1),(2,1,n 1),(3,1,n 3),(4,1,n 3),(5,1,K 243)],B q34 Y13 [(0,1,n 1),(1,1,n 1),(2,1,n 1),(3,1,n 3),(4,1,n 3),(5,1,K 244)],B q35 Y13 [(0,1,n 2),(1,1,n 2),(2,1,n 1),(3,1,n 3),(4,1,n 2),(5,1,K 245)],B q36 Y13 [(0,1,n 2),(1,1,n 2),(2,1,n 1),(3,1,n 3),(4,1,n 1),(5,1,K 246)],B q37 Y13 [(0,1,n 1),(1,1,n 1),(2,1,n 1),(3,1,n 0),(4,1,n 3),(5,1,K 248)],B q38 Y13 [(0,1,n 1),(1,1,n 1),(2,1,n 1),(3,1,n 3),(4,1,n 2),(5,1,K 249)],B q39 [z,z,z,z,z,.nilFunc,z,z,z,z,z,.nilFunc,z,z,z,z,z,.nilFunc,z,z,z,z,z,.nilFunc,z,z,z,z,z,.nilFunc,z,z,z,z,z,.nilFunc,z,z,z,z,z,.nilFunc,z,z,z,z,z,.nilFunc,z,z,z,z,z,.nilFunc,z,z,z,z,z,.nilFunc,z,z,z,z,z,.nilFunc,z,z,z,z,z,.nilFunc,z,z,z,z,z,.nilFunc,z,z,z,z,z,.nilFunc,z,z,z,z,z,.nilFunc,z,z,z,z,z,.nilFunc,z,z,z,z,z,.nilFunc,z,z,z,z,z,.nilFunc,z,z,z,z,z,.nilFunc,z,z,z,z,z,.nilFunc,z,z,z,z,z,.nilFunc,z,z,z,z,z,.nilFunc,z,z,z,z,z,.nilFunc,z,z,z,z,z,.nilFunc,z,z,z,z,z,.nilFunc,z,z,z,z,z,.nilFunc,z,z,z,z,z,.nilFunc,z,z,z,z,z,.nilFunc,z,z,z,z,z,.nilFunc,z,z,z,z,z,.nilFunc,z,z,z,z,z,.nilFunc,z,z,z,z,z,.nilFunc,z,z,z,z,z,.nilFunc] [(6,6,t1),(12,6,t2),(18,6,t3),(24,6,t4),(30,6,t5),(36,6,t6),(42,6,t7),(48,6,t8),(54,6,t9),(60,6,t11),(66,6,t13),(72,6,t15),(78,6,t17),(84,6,t19),(90,6,t21),(96,6,t22),(102,6,t23),(108,6,t24),(114,6,t25),(120,6,t26),(126,6,t27),(132,6,t28),(138,6,t29),(144,6,t30),(150,6,t31),(156,6,t32),(162,6,t33),(168,6,t34),(174,6,t35),(180,6,t36),(186,6,t37),(192,6,t38)],O q40 (.box none t39),m q0 t40] .ret)⟩
def c158 : AFunc := ⟨[q0,q1],[],R [m q4 t0,O q5 (.un .not t4)]
 (C t5
 (r [m q6 t1,B q7 [z] [(0,1,t6)],O q8 (.makeInterface 320 t7),N (.panic t8)]) .skip)⟩
def c159 : AFunc := ⟨[q0,q1],[.tmp q4],R [O q2 (.box none t0),O q3 (.box none t1),m q4 F]
 (R [h q5 none [z],s 1 t5 (n 0)]
 (R [h q6 none [.nilFunc]]
 (R [O q7 (.makeFunc (.fn 250) [] [t5,t2,t6]),s 1 t6 t7]
 (R [L q8 t6,l q9 6 t3,O q10 (.call t8 [t9,n 1]),m q4 t10] .ret))))⟩
def c160 : AFunc := ⟨[q0],[.tmp q2],R [m q2 (.const v)]
 (R [m q3 (n 0)]
 (Q (R [m q9 t0,g q10 [t9],m q11 (n 0)] (.block 0 (.loop
 (R [b q12 .lss t11 t10]
 (Q (C t12 .skip (.exit 0))
 (Q (.block 1
 (R [a q13 none 1 t9 t11,L q14 t13,m q5 t14]
 (R [m q15 t3,m q16 t5,g q17 [t16],b q18 .add t15 t17,m q3 t18]
 (R [m q19 t3,b q20 .lss t19 (n 0)]
 (C t20
 (r [O q21 (.makeInterface 9 (S [108,101,110,32,111,117,116,32,111,102,32,114,97,110,103,101])),N (.panic t21)]) .skip)))))
 (r [b q22 .add t11 (n 1),m q11 t22])))))))
 (R [m q23 t3,k q24 253 [.const v,t23],m q6 t24]
 (Q (R [m q25 t0,g q26 [t25],m q27 (n 0)] (.block 2 (.loop
 (R [b q28 .lss t27 t26]
 (Q (C t28 .skip (.exit 2))
 (Q (.block 3
 (R [a q29 none 1 t25 t27,L q30 t29,m q8 t30]
 (r [m q31 t6,m q32 t8,j q33 (.append 1 [z] false none) [t31,t32],m q6 t33])))
 (r [b q34 .add t27 (n 1),m q27 t34])))))))
 (R [m q35 t6,m q2 t35] .ret)))))⟩
def c161 : AFunc := ⟨[q0],[.tmp q2],R [m q2 F]
 (R [m q3 t0,b q4 .eql t3 (n 1),m q5 t4,mf q6 t0 q5,Gf q7 (.bin .eql t6 (n 2)) q5,p q8 t5 T t7,m q9 t8,mf q10 t0 q9,Gf q11 (.bin .eql t10 (n 3)) q9,p q12 t9 T t11,m q2 t12] .ret)⟩
def c162 : AFunc := ⟨[q0,q1,q2,q3,q4],[.tmp q6],R [O q5 (.box none t0),m q6 (n 0)]
 (R [f q9 5 t5,L q10 t9,L q11 t1,k q12 163 [t10,t11],m q7 t12]
 (Q (R [f q13 0 t5,L q14 t13] (.block 0
 (R [b q16 .eql t14 (n 1),m q15 t16]
 (C t15
 (R [f q17 2 t5,f q18 0 t17,L q19 t18,m q6 t19] .ret)
 (R [b q21 .eql t14 (n 2),m q20 t21]
 (C t20
 (R [f q22 1 t5,L q23 t22,L q24 t2,g q25 [t24],b q26 .lss t23 t25,k q27 158 [t26,n 4]]
 (R [L q28 t2,f q29 1 t5,L q30 t29,a q31 none 1 t28 t30,L q32 t31,m q6 t32] .ret))
 (R [b q34 .eql t14 (n 3),m q33 t34]
 (C t33
 (R [f q35 1 t5,L q36 t35,L q37 t3,g q38 [t37],b q39 .lss t36 t38,k q40 158 [t39,n 4]]
 (R [L q41 t3,f q42 1 t5,L q43 t42,a q44 none 1 t41 t43,L q45 t44,m q6 t45] .ret)) .skip))))))))
 (R [L q46 t4,l q47 6 t5,m q48 t7,k q49 164 [t46,t47,t48],m q8 t49]
 (Q (R [L q50 t4,f q51 0 t5,L q52 t51,O q53 (.nilCheck t50),a q54 (some 33) 6 t53 t52,f q55 4 t54,L q56 t55,b q57 .eql t56 (n (-1))]
 (C t57
 (R [m q58 t8,m q6 t58] .ret) .skip))
 (R [L q59 t4,f q60 0 t5,L q61 t60,O q62 (.nilCheck t59),a q63 (some 33) 6 t62 t61,f q64 4 t63,L q65 t64,m q6 t65] .ret)))))⟩
def c163 : AFunc := ⟨[q0,q1],[.tmp q4],R [m q4 (.const v)]
 (R [m q5 (.const v)]
 (Q (R [m q8 t0,g q9 [t8],m q10 (n 0)] (.block 0 (.loop
 (R [b q11 .lss t10 t9]
 (Q (C t11 .skip (.exit 0))
 (Q (.block 1
 (R [a q12 none 6 t8 t10,l q13 6 t12,h q7 none Y14,s 6 t7 t13]
 (r [m q14 t5,m q15 t1,l q16 6 t7,O q17 (.call t15 [t16]),O q18 (.buildSlice [z] 1 [(0,1,t17)]),j q19 (.append 1 [z] false none) [t14,t18],m q5 t19])))
 (r [b q20 .add t10 (n 1),m q10 t20])))))))
 (R [m q21 t5,m q4 t21] .ret)))⟩
def c164 : AFunc := ⟨[q0,q1,q2],[.tmp q6],R [O q4 (.box none t1),m q6 (n 0)]
 (R [m q16 t0,f q17 0 t4,L q18 t17,O q19 (.nilCheck t16),a q20 (some 33) 6 t19 t18,f q21 3 t20,L q22 t21,m q7 t22]
 (Q (R [f q23 0 t4,L q24 t23] (.block 0
 (R [b q26 .eql t24 (n 20),m q25 t26]
 (C t25
 (R [m q8 (.const v)]
 (Q (R [m q27 t2,g q28 [t27],m q29 (n 0)] (.block 1 (.loop
 (R [b q30 .lss t29 t28]
 (Q (C t30 .skip (.exit 1))
 (Q (.block 2
 (R [m q31 t29,a q32 none 1 t27 t29,L q33 t32,m q9 t31,m q10 t33]
 (R [m q34 t9,b q35 .rem t34 (n 2),b q36 .eql t35 (n 0),m q37 t36,mt q38 t9 q37,mt q39 t2 q37,Gt q40 (.bi (.len .slice) [t39]) q37,Gt q41 (.bin .sub t40 (n 1)) q37,Gt q42 (.bin .lss t38 t41) q37,p q43 t37 t42 F]
 (C t43
 (r [m q44 t10,b q45 .eql t44 (n 0),m q46 t45,mf q47 t10 q46,Gf q48 (.bin .eql t47 (n 1)) q46,p q49 t46 T t48,k q50 158 [t49,n 10]])
 (r [m q51 t8,m q52 t10,O q53 (.buildSlice [z] 1 [(0,1,t52)]),j q54 (.append 1 [z] false none) [t51,t53],m q8 t54])))))
 (r [b q55 .add t29 (n 1),m q29 t55])))))))
 (R [m q56 t8,k q57 254 [t56],m q6 t57] .ret)))
 (R [b q59 .eql t24 (n 25),m q58 t59]
 (C t58
 (Q (R [m q60 t2,g q61 [t60],m q62 (n 0)] (.block 3 (.loop
 (R [b q63 .lss t62 t61]
 (Q (C t63 .skip (.exit 3))
 (Q (.block 4
 (R [m q64 t62,a q65 none 1 t60 t62,L q66 t65,m q11 t64,m q12 t66]
 (R [m q13 (n 2)]
 (Q (R [m q67 t11,b q68 .eql t67 (n 0)]
 (C t68
 (r [m q13 (n 3)]) .skip))
 (r [m q69 t12,b q70 .eql t69 (n 0),m q71 t70,mf q72 t12 q71,mf q73 t13 q71,Gf q74 (.bin .eql t72 t73) q71,p q75 t71 T t74,k q76 158 [t75,n 10]])))))
 (r [b q77 .add t62 (n 1),m q62 t77])))))))
 (R [m q6 (n 0)] .ret)) .skip))))))
 (Q (R [m q78 t7,b q79 .eql t78 (n (-1))]
 (C t79
 (R [m q80 t2,k q81 254 [t80],m q6 t81] .ret) .skip))
 (Q (R [m q82 t2,g q83 [t82],m q84 (n 0)] (.block 5 (.loop
 (R [b q85 .lss t84 t83]
 (Q (C t85 .skip (.exit 5))
 (Q (.block 6
 (R [a q86 none 1 t82 t84,L q87 t86,m q15 t87]
 (r [m q88 t7,b q89 .eql t88 (n 0),m q90 t89,mf q91 t15 q90,Gf q92 (.bin .eql t91 (n 0)) q90,p q93 t90 T t92,m q94 t93,mf q95 t15 q94,mf q96 t7 q94,Gf q97 (.bin .eql t95 t96) q94,p q98 t94 T t97,k q99 158 [t98,n 10]])))
 (r [b q100 .add t84 (n 1),m q84 t100])))))))
 (R [m q6 (n 0)] .ret)))))⟩
def c165 : AFunc := ⟨[q0,q1],[.tmp q4],R [O q2 (.box none t0),O q3 (.box none t1),m q4 F]
 (R [f q5 0 t2,L q6 t5,f q7 0 t3,L q8 t7,b q9 .eql t6 t8,m q10 t9,Gt q11 (.fieldAddr 1 t2) q10,Gt q12 (.load none t11) q10,Gt q13 (.fieldAddr 1 t3) q10,Gt q14 (.load none t13) q10,Gt q15 (.bin .eql t12 t14) q10,p q16 t10 t15 F,m q17 t16,Gt q18 (.fieldAddr 2 t2) q17,Gt q19 (.load (some 3) t18) q17,Gt q20 (.fieldAddr 2 t3) q17,Gt q21 (.load (some 3) t20) q17,Gt q22 (.eql false (.agg [(0,.int),(1,.int),(2,.str)]) t19 t21) q17,p q23 t17 t22 F,m q24 t23,Gt q25 (.fieldAddr 5 t2) q24,Gt q26 (.load none t25) q24,Gt q27 (.fieldAddr 5 t3) q24,Gt q28 (.load none t27) q24,Gt q29 (.call (K 255) [t26,t28,K 165]) q24,p q30 t24 t29 F,m q4 t30] .ret)⟩
def c166 : AFunc := ⟨[q0,q1],[],R [L q3 t1,m q4 t0,O q5 (.lookup w (.one .str) t3 t4 false),O q6 (.un .not t5),k q7 35 [t6,n 340]]
 (r [L q8 t1,m q9 t0,N (.mapUpdate (.one .str) t8 t9 T)])⟩
def c167 : AFunc := ⟨[q0,q1,q2,q3,q4],[],R [l q13 5 t1,k q14 168 [t13],h q6 none Y17,s 4 t6 t14]
 (R [L q15 t2,O q16 (.nilCheck t15),f q17 0 t16,l q18 6 t17,l q19 18 t3,m q25 (n 0),D q20 (.call (K 101) [t18,t19,S [],S [],n 20000]) [q25],x q21 t20 0,x q22 t20 1,D q23 (.call (K 123) [t21,t22]) [q25],g q24 [t23]] (.block 0 (.loop
 (R [b q26 .lss t25 t24]
 (Q (C t26 .skip (.exit 0))
 (Q (.block 1
 (R [a q27 none 2 t23 t25,l q28 2 t27,h q8 none [e,e],s 2 t8 t28]
 (R [l q30 5 t1,f q31 0 t8,L q32 t31,f q33 1 t8,L q34 t33,k q35 102 [t30,t32,t34],m q29 t35,x q36 t29 0,x q37 t29 1,m q9 t36,m q10 t37]
 (R [m q38 t10,b q39 .eql t38 (n 0),k q40 35 [t39,n 8]]
 (R [l q41 11 t4,l q42 4 t6,m q43 t9,k q44 169 [t41,t42,t43],g q45 [t44],m q46 (n 0)] (.block 2 (.loop
 (R [b q47 .lss t46 t45]
 (Q (C t47 .skip (.exit 2))
 (Q (.block 3
 (R [a q48 none 2 t44 t46,l q49 2 t48,h q12 none [e,e],s 2 t12 t49]
 (R [m q50 t0,l q51 2 t12,O q52 (.call t50 [t51]),O q53 (.un .not t52)]
 (C t53 .ret .skip))))
 (r [b q54 .add t46 (n 1),m q46 t54])))))))))))
 (r [b q55 .add t25 (n 1),m q25 t55])))))))⟩
def c168 : AFunc := ⟨[q0],[.cell q2 (some 4)],R [O q1 (.box none t0),h q2 none Y17]
 (R [l q3 5 t1,k q4 218 [t3],b q5 .eql t4 (n 0),k q6 35 [t5,n 2]]
 (R [l q7 5 t1,k q8 75 [t7],x q9 t8 0,x q10 t8 1,k q11 256 [t9,t10],s 4 t2 t11] .ret))⟩
def c169 : AFunc := ⟨[q0,q1,q2],[.tmp q6],R [O q3 (.box none t0),O q4 (.box none t1),m q6 (.const v)]
 (Q (R [m q11 t2,g q12 [t11],b q13 .eql t12 (n 0)]
 (C t13
 (R [m q6 (.const v)] .ret) .skip))
 (R [l q14 4 t4,m q15 t2,k q16 175 [t14,t15],b q17 .eql t16 (n 0),k q18 35 [t17,n 10]]
 (R [l q19 4 t4,m q20 t2,k q21 124 [t19,t20],x q22 t21 0,x q23 t21 1,k q24 214 [t22,t23],h q7 none [e],s 1 t7 t24]
 (R [h q8 none [v]]
 (Q (R [l q25 11 t3,m q26 t2,k q27 257 [t25,t26]] (.block 0 (.rangeFunc t27 [q28]
 (r [m q9 t28]) (.block 1
 (R [m q29 t9,k q30 258 [t29],m q10 t30]
 (Q (R [f q31 9 t3,L q32 t31,O q33 (.un .not t32),m q34 t33,mf q35 t9 q34,Gf q36 (.call (K 259) [t35,K 260]) q34,p q37 t34 T t36]
 (C t37
 (r [m q38 t10,L q39 t7,b q40 .add t38 t39,m q10 t40]) .skip))
 (R [m q41 t10,j q42 (.len .str) [t41],b q43 .leq t42 (n 48),k q44 35 [t43,n 3]]
 (r [L q45 t8,m q46 t10,L q47 t7,B q48 [e,e] [(0,1,t46),(1,1,t47)],O q49 (.buildSlice [e,e] 1 [(0,2,t48)]),j q50 (.append 2 [e,e] false none) [t45,t49],s 1 t8 t50]))))))))
 (R [L q51 t8,k q52 206 [t51,K 261]]
 (R [L q53 t8,m q6 t53] .ret)))))))⟩
def c170 : AFunc := ⟨[q0,q1,q2,q3],[.cell q8 (some 6),.cell q9 (some 18),.cell q10 none],R [O q4 (.box none t0),O q5 (.box none t1),h q8 none Y15,h q9 none Y8,h q10 none [z]]
 (R [N (.defer (K 178) [t10])]
 (R [l q14 6 t4,l q15 18 t5,O q16 (.buildSlice Y8 1 [(0,18,t15)]),k q17 179 [t14,t16],m q11 t17]
 (R [m q19 t11,l q20 18 t5,m q21 t2,k q22 262 [t19,t20,t21],m q18 t22,x q23 t18 0,x q24 t18 1,h q12 none Y7,s 22 t12 t23,m q13 t24]
 (R [m q25 t3,j q26 (.len .str) [t25],b q27 .leq t26 (n 4000),k q28 263 [t27,n 1]]
 (R [m q29 t13,O q30 (.un .not t29),m q31 t30,Gf q32 (.fieldAddr 4 t12) q31,Gf q33 (.load none t32) q31,Gf q34 (.bin .eql t33 (n 0)) q31,p q35 t31 T t34,k q36 263 [t35,n 10]]
 (Q (R [m q37 t13]
 (C t37
 (r [m q38 t11,l q39 22 t12,k q40 264 [t38,t39]]) .skip))
 (R [m q41 t11,l q42 18 t5,m q43 t11,m q44 t2,m q45 t3,W q46 (.call (K 266) [t43,t44,t45]) [⟨q42,.load (some 18) t5,none⟩] [q42,q41],k q47 265 [t41,t42,t46],s 18 t9 t47]
 (R [m q48 t11,O q49 (.nilCheck t48),f q50 0 t49,l q51 6 t50,l q52 18 t9,V (.store 6 t8 t51) [⟨q52,.load (some 18) t9,none⟩] [q52],s 18 t9 t52,s 1 t10 (n 0)] .ret))))))))⟩
def c173 : AFunc := ⟨[q0,q1],[.tmp q4],R [m q4 (n 0)]
 (Q (R [m q6 t0,g q7 [t6],m q8 (n 0)] (.block 0 (.loop
 (R [b q9 .lss t8 t7]
 (Q (C t9 .skip (.exit 0))
 (Q (.block 1
 (R [m q10 t8,m q5 t10]
 (R [m q11 t1,m q12 t0,m q13 t5,a q14 none 4 t12 t13,l q15 4 t14,O q16 (.call t11 [t15])]
 (C t16
 (R [m q17 t5,m q4 t17] .ret) .skip))))
 (r [b q18 .add t8 (n 1),m q8 t18])))))))
 (R [m q4 (n (-1))] .ret))⟩
def c174 : AFunc := ⟨[q0,q1],[.tmp q3],R [O q2 (.box none t0),m q3 F]
 (R [f q4 0 t2,L q5 t4,L q6 t1,b q7 .eql t5 t6,m q3 t7] .ret)⟩
def c175 : AFunc := ⟨[q0,q1],[.cell q4 none],R [O q2 (.box none t0),h q4 none [z]]
 (R [N (.defer (K 147) [t4,K 269])]
 (R [l q5 4 t2,k q6 202 [t5],m q7 t1,k q8 204 [t6,t7],k q9 203 [t8,n 10]]
 (R [s 1 t4 (n 0)] .ret)))⟩
def c176 : AFunc := ⟨[q0,q1,q2],[.cell q6 none,.cell q7 none],R [O q3 (.box none t0),h q6 none [z],h q7 none [z]]
 (R [O q9 (.makeFunc (.fn 270) [] [t6]),N (.defer (K 147) [t7,t9])]
 (R [l q10 4 t3,k q11 202 [t10],m q8 t11]
 (R [m q12 t8,m q13 t1,k q14 204 [t12,t13],k q15 203 [t14,n 10]]
 (R [m q16 t8,m q17 t2,k q18 204 [t16,t17],k q19 203 [t18,n 10]]
 (R [m q20 t8,m q21 t1,k q22 205 [t20,t21],m q23 t8,m q24 t2,k q25 205 [t23,t24],k q26 271 [t22,t25],s 1 t6 t26,s 1 t7 (n 0)] .ret)))))⟩
def c177 : AFunc := ⟨[q0,q1],[],R [L q2 t0,b q3 .neq t2 (n 0)]
 (C t3
 (r [s 1 t1 (.const v)]) .skip)⟩
def c178 : AFunc := ⟨[q0],[],R [O q5 .recover] (.block 0
 (R [O q7 (.eql false (.one .iface) t5 I)]
 (C t7
 (r [m q2 t5])
 (R [O q8 (.typeAssert 348 (.agg [z]) t5 true),x q9 t8 1,x q10 t8 0]
 (C t9
 (R [h q3 none [z],s 1 t3 t10]
 (r [m q11 t0,f q12 0 t3,L q13 t12,O q14 (.nilCheck t11),s 1 t14 t13]))
 (R [m q4 t5]
 (r [m q6 t4,N (.panic t6)])))))))⟩
def c179 : AFunc := ⟨[q0,q1],[.tmp q4],R [O q2 (.box none t0),m q4 (.const (.ptr none))]
 (R [l q10 6 t2,k q11 221 [t10],b q12 .eql t11 (n 0),k q13 263 [t12,n 2]]
 (R [l q14 6 t2,B q15 Y15 [(0,6,t14)],O q16 (.box none t15),m q5 t16]
 (R [m q17 t5,f q18 0 t2,L q19 t18,k q20 272 [t19],O q21 (.nilCheck t17),f q22 0 t21,f q23 0 t22,s 1 t23 t20]
 (R [m q24 t5,m q25 t5,m q26 t5,f q27 1 t2,L q28 t27,f q30 2 t2,L q31 t30,f q33 3 t2,L q34 t33,W q29 (.call (K 79) [t28]) [⟨q34,.load none t33,none⟩,⟨q31,.load none t30,none⟩] [q34,q33,q31,q30,q26,q25,q24],W q32 (.call (K 79) [t31]) [⟨q34,.load none t33,none⟩] [q34,q33,q26,q25,q24],D q35 (.call (K 79) [t34]) [q26,q25,q24],O q36 (.nilCheck t24),f q37 0 t36,f q38 1 t37,E (.store 1 t38 t29) [q26,q25],O q39 (.nilCheck t25),f q40 0 t39,f q41 2 t40,E (.store 1 t41 t32) [q26],O q42 (.nilCheck t26),f q43 0 t42,f q44 3 t43,s 1 t44 t35]
 (Q (R [m q45 t1,g q46 [t45],m q47 (n 0)] (.block 0 (.loop
 (R [b q48 .lss t47 t46]
 (Q (C t48 .skip (.exit 0))
 (Q (.block 1
 (R [a q49 none 18 t45 t47,l q50 18 t49,h q7 none Y8,s 18 t7 t50]
 (r [l q51 18 t7,B q52 Y8 [],O q53 (.eql false (.agg [(0,.int),(1,.int),(2,.int),(3,.int),(4,.int),(5,.int),(6,.int),(7,.int),(8,.int),(9,.int),(10,.int),(11,.int),(12,.int),(13,.int),(14,.int),(15,.int),(16,.int),(17,.int)]) t51 t52),m q54 t53,Gf q55 (.fieldAddr 0 t7) q54,Gf q56 (.load none t55) q54,Gf q57 (.bin .geq t56 (n 2)) q54,mf q58 t57 q54,Gt q59 (.fieldAddr 0 t7) q58,Gt q60 (.load none t59) q58,Gt q61 (.bin .lss t60 (n 4096)) q58,Gf q62 (.pick t58 t61 F) q54,mf q63 t62 q54,Gt q64 (.fieldAddr 1 t7) q63,Gt q65 (.load none t64) q63,Gt q66 (.bin .geq t65 (n 1)) q63,Gf q67 (.pick t63 t66 F) q54,mf q68 t67 q54,Gt q69 (.fieldAddr 1 t7) q68,Gt q70 (.load none t69) q68,Gt q71 (.bin .leq t70 (n 2147483647)) q68,Gf q72 (.pick t68 t71 F) q54,p q73 t54 T t72,k q74 263 [t73,n 2]])))
 (r [b q75 .add t47 (n 1),m q47 t75])))))))
 (Q (R [m q76 t1,g q77 [t76],m q78 (n 0)] (.block 2 (.loop
 (R [b q79 .lss t78 t77]
 (Q (C t79 .skip (.exit 2))
 (Q (.block 3
 (R [a q80 none 18 t76 t78,l q81 18 t80,h q9 none Y8,s 18 t9 t81]
 (R [f q82 0 t9,L q83 t82,b q84 .neq t83 (n 0)]
 (C t84
 (R [f q85 0 t9,L q86 t85,m q87 t5,O q88 (.nilCheck t87),f q89 0 t88,f q90 0 t89,L q91 t90,g q92 [t91],b q93 .lss t86 t92,k q94 263 [t93,n 8]]
 (r [m q95 t5,f q96 0 t9,L q97 t96,m q98 t5,O q99 (.nilCheck t98),f q100 0 t99,f q101 0 t100,L q102 t101,f q103 0 t9,L q104 t103,a q105 none 10 t102 t104,f q106 4 t105,L q107 t106,k q108 273 [t95,t97,t107]])) .skip))))
 (r [b q109 .add t78 (n 1),m q78 t109])))))))
 (R [m q110 t5,m q4 t110] .ret)))))))⟩
def c180 : AFunc := ⟨[q0,q1,q2,q3,q4],[.tmp q10],R [O q6 (.box none t1),m q10 (.const v)]
 (R [m q19 t2,j q20 (.len .str) [t19],b q21 .leq t20 (n 48),m q22 t21,mt q23 t3 q22,Gt q24 (.bi (.len .str) [t23]) q22,Gt q25 (.bin .leq t24 (n 48)) q22,p q26 t22 t25 F,m q27 t26,mt q28 t4 q27,Gt q29 (.bin .geq t28 (n 0)) q27,p q30 t27 t29 F,m q31 t30,mt q32 t4 q31,Gt q33 (.bin .leq t32 (n 20000)) q31,p q34 t31 t33 F,k q35 263 [t34,n 1]]
 (Q (R [f q36 0 t6,L q37 t36,b q38 .eql t37 (n 0),m q39 t38,mf q40 t4 q39,Gf q41 (.bin .eql t40 (n 0)) q39,p q42 t39 T t41]
 (C t42
 (R [m q10 (.const v)] .ret) .skip))
 (R [m q11 (.const v)]
 (R [O q43 .makeMap,m q12 t43]
 (R [f q44 0 t6,L q45 t44,m q46 t0,O q47 (.nilCheck t46),f q48 0 t47,f q49 0 t48,L q50 t49,f q51 0 t6,L q52 t51,a q53 none 10 t50 t52,f q54 4 t53,L q55 t54,B q56 [z,z] [(0,1,t45),(1,1,t55)],O q57 (.buildSlice [z,z] 1 [(0,2,t56)]),m q13 t57]
 (Q .skip
 (Q (.block 0 (.loop
 (Q (R [m q58 t13,g q59 [t58],b q60 .gtr t59 (n 0)]
 (C t60 .skip (.exit 0))) (.block 1
 (R [m q61 t13,m q62 t13,g q63 [t62],b q64 .sub t63 (n 1),a q65 none 2 t61 t64,l q66 2 t65,h q14 none [z,z],s 2 t14 t66]
 (R [m q67 t13,m q68 t13,g q69 [t68],b q70 .sub t69 (n 1),O q71 (.slice .slice 2 t67 none (some t70) none),m q13 t71]
 (R [m q72 t12,f q73 0 t14,L q74 t73,k q75 274 [t72,t74]]
 (R [m q76 t0,f q77 0 t14,L q78 t77,f q79 1 t14,L q80 t79,k q81 273 [t76,t78,t80],m q15 t81]
 (Q (R [f q82 1 t14,L q83 t82,b q84 .gtr t83 (n 0)]
 (C t84
 (Q (R [m q85 t15,g q86 [t85],b q87 .sub t86 (n 1),m q16 t87] (.block 2 (.loop
 (Q (R [m q88 t16,b q89 .geq t88 (n 0)]
 (C t89 .skip (.exit 2)))
 (Q (.block 3
 (R [m q92 t3,b q93 .eql t92 (S []),m q94 t93,mf q95 t15 q94,mf q96 t16 q94,Gf q97 (.indexAddr none 22 t95 t96) q94,Gf q98 (.fieldAddr 0 t97) q94,Gf q99 (.load none t98) q94,mf q100 t3 q94,Gf q101 (.bin .lss t99 t100) q94,p q102 t94 T t101,m q103 t102,mt q104 t16 q103,Gt q105 (.bin .add t104 (n 1)) q103,mt q106 t15 q103,Gt q107 (.bi (.len .slice) [t106]) q103,Gt q108 (.bin .eql t105 t107) q103,mt q109 t108 q103,mf q110 t2 q109,mf q111 t15 q109,mf q112 t16 q109,Gf q113 (.bin .add t112 (n 1)) q109,Gf q114 (.indexAddr none 22 t111 t113) q109,Gf q115 (.fieldAddr 0 t114) q109,Gf q116 (.load none t115) q109,Gf q117 (.bin .lss t110 t116) q109,Gt q118 (.pick t109 T t117) q103,p q119 t103 t118 F]
 (C t119
 (r [m q120 t13,m q121 t15,m q122 t16,a q123 none 22 t121 t122,f q124 4 t123,L q125 t124,f q126 1 t14,L q127 t126,b q128 .sub t127 (n 1),B q129 [z,z] [(0,1,t125),(1,1,t128)],O q130 (.buildSlice [z,z] 1 [(0,2,t129)]),j q131 (.append 2 [z,z] false none) [t120,t130],m q13 t131]) .skip)))
 (r [m q90 t16,b q91 .sub t90 (n 1),m q16 t91])))))) (.exit 1)) .skip))
 (R [m q132 t15,g q133 [t132],m q134 (n 0)] (.block 4 (.loop
 (R [b q135 .lss t134 t133]
 (Q (C t135 .skip (.exit 4))
 (Q (.block 5
 (R [a q136 none 22 t132 t134,l q137 22 t136,h q18 none Y7,s 22 t18 t137]
 (Q (R [f q138 0 t18,L q139 t138,m q140 t2,b q141 .lss t139 t140,m q142 t141,mf q143 t3 q142,Gf q144 (.bin .neq t143 (S [])) q142,mf q145 t144 q142,Gt q146 (.fieldAddr 0 t18) q145,Gt q147 (.load none t146) q145,mt q148 t3 q145,Gt q149 (.bin .geq t147 t148) q145,Gf q150 (.pick t145 t149 F) q142,p q151 t142 T t150]
 (C t151 (.exit 5) .skip))
 (R [m q152 t11,l q153 22 t18,O q154 (.buildSlice Y7 1 [(0,22,t153)]),j q155 (.append 22 Y7 false none) [t152,t154],m q11 t155]
 (R [m q156 t11,g q157 [t156],m q158 t4,b q159 .eql t157 t158]
 (C t159 (.exit 0) .skip))))))
 (r [b q160 .add t134 (n 1),m q134 t160]))))))))))))))))
 (R [m q161 t11,m q10 t161] .ret))))))))⟩
def c181 : AFunc := ⟨[q0,q1],[.tmp q4],R [O q3 (.box none t1),m q4 (S [])]
 (R [f q7 4 t3,L q8 t7,b q9 .eql t8 (n 0),k q10 263 [t9,n 10]]
 (Q (R [f q11 2 t3,L q12 t11,b q13 .eql t12 (n 0)]
 (C t13
 (R [f q14 1 t3,L q15 t14,m q4 t15] .ret) .skip))
 (R [m q17 t0,l q18 22 t3,k q19 275 [t17,t18],m q16 t19,x q20 t16 0,x q21 t16 1,m q5 t20,m q6 t21]
 (R [m q22 t6,f q24 6 t3,l q25 16 t24,W q23 (.call (K 276) [t22]) [⟨q25,.load (some 16) t24,none⟩] [q25,q24],O q26 (.eql false (.agg [(0,.int),(1,.int),(2,.int),(3,.int),(4,.int),(5,.int),(6,.int),(7,.int),(8,.int),(9,.int),(10,.int),(11,.int),(12,.int),(13,.int),(14,.int),(15,.int)]) t23 t25),k q27 263 [t26,n 8]]
 (R [m q28 t6,m q4 t28] .ret)))))⟩
def c183 : AFunc := ⟨[q0,q1,q2],[.cell q6 none],R [O q3 (.box none t0),O q4 (.box none t1),O q5 (.box none t2),h q6 none [v]]
 (R [l q11 5 t3,k q12 149 [t11]]
 (R [L q14 t5,k q15 277 [t14],m q13 t15,x q16 t13 0,x q17 t13 1,h q7 none [z],s 1 t7 t16,m q8 t17]
 (Q (R [l q18 5 t3,k q19 219 [t18]] (.block 0 (.rangeFunc t19 [q20,q21]
 (R [m q9 t20]
 (r [h q10 none Y17,s 4 t10 t21])) (.block 1
 (R [f q22 1 t10,L q23 t22,L q24 t7,b q25 .eql t23 t24]
 (C t25
 (R [l q26 4 t10,L q28 t4,L q29 t5,f q31 4 t3,L q32 t31,m q33 t9,O q34 (.slice .slice 8 t32 (some t33) none none),W q27 (.call (K 279) [t26]) [⟨q32,.load none t31,none⟩,⟨q29,.load none t5,none⟩,⟨q28,.load none t4,none⟩] [q34,q33,q32,q31,q29,q28],W q30 (.call (K 280) [t27,t28,t29]) [⟨q32,.load none t31,none⟩] [q34,q33,q32,q31],k q35 278 [t30,t34],s 1 t6 t35] .ret) .skip))))))
 (R [k q36 203 [F,n 8]]
 (R [s 1 t6 (.const v)] .ret)))))⟩
def c184 : AFunc := ⟨[q0,q1,q2],[.tmp q6],R [m q6 (.const v)]
 (R [m q7 t0,m q8 t1,m q9 t2,k q10 281 [t7,t8,t9],m q6 t10] .ret)⟩
def c185 : AFunc := ⟨[q0,q1],[.tmp q4],R [m q4 F]
 (R [m q5 t0,m q6 t1,k q7 282 [t5,t6],b q8 .geq t7 (n 0),m q4 t8] .ret)⟩
def c186 : AFunc := ⟨[q0,q1,q2,q3,q4],[.tmp q6],R [O q5 (.box none t0),m q6 F]
 (R [L q7 t1,l q8 12 t5,L q9 t2,L q10 t3,L q11 t4,k q12 187 [t7,t8,t9,t10,t11],m q6 t12] .ret)⟩
def c187 : AFunc := ⟨[q0,q1,q2,q3,q4],[.tmp q10],R [O q6 (.box none t1),m q10 F]
 (Q (R [l q13 12 t6,k q14 111 [t13],O q15 (.un .not t14),m q16 t15,Gf q17 (.fieldAddr 1 t6) q16,Gf q18 (.load none t17) q16,mf q19 t2 q16,Gf q20 (.bin .neq t18 t19) q16,p q21 t16 T t20,m q22 t21,Gf q23 (.fieldAddr 11 t6) q22,Gf q24 (.load none t23) q22,mf q25 t3 q22,Gf q26 (.bin .neq t24 t25) q22,p q27 t22 T t26]
 (C t27
 (R [m q10 F] .ret) .skip))
 (R [l q29 12 t6,m q30 t4,k q31 112 [t29,t30],m q28 t31,x q32 t28 0,x q33 t28 1,m q11 t32,m q12 t33]
 (R [m q34 t12,m q35 t34,mt q36 t0 q35,Gt q37 (.nilCheck t36) q35,Gt q38 (.fieldAddr 3 t37) q35,Gt q39 (.load none t38) q35,Gt q40 (.fieldAddr 10 t6) q35,Gt q41 (.load none t40) q35,mt q42 t11 q35,⟨some q43,.call (K 105) [t42],some (q35,true),[⟨q41,.load none t40,some (q35,true)⟩,⟨q39,.load none t38,some (q35,true)⟩],[q41,q40,q39,q38,q37,q36]⟩,Gt q44 (.build [e,e] [(0,1,t41),(1,1,t43)]) q35,Gt q45 (.lookup w (.agg [(0,.str),(1,.str)]) t39 t44 false) q35,p q46 t35 t45 F,m q10 t46] .ret)))⟩
def c188 : AFunc := ⟨[q0,q1,q2],[.tmp q5],R [m q5 (n 0)]
 (R [f q6 0 t2,l q7 4 t6,m q8 t0,m q9 t1,k q10 98 [t7,t8,t9],m q5 t10] .ret)⟩
def c189 : AFunc := ⟨[q0,q1,q2,q3],[.tmp q8],R [m q8 (.const v)]
 (R [h q9 none [v]]
 (R [O q12 (.makeFunc (.fn 283) [] [t9]),m q10 t12]
 (Q (.block 0 (.loop
 (Q (R [m q13 t0,g q14 [t13],b q15 .gtr t14 (n 0),m q16 t15,mf q17 t1 q16,Gf q18 (.bi (.len .slice) [t17]) q16,Gf q19 (.bin .gtr t18 (n 0)) q16,p q20 t16 T t19]
 (C t20 .skip (.exit 0))) (.block 1
 (R [m q11 (n 0)]
 (Q (.block 2
 (R [m q30 t0,g q31 [t30],b q32 .eql t31 (n 0),m q29 t32]
 (C t29
 (r [m q11 (n 1)])
 (R [m q34 t1,g q35 [t34],b q36 .eql t35 (n 0),m q33 t36]
 (C t33
 (r [m q11 (n (-1))])
 (r [m q21 t2,m q22 t0,a q23 none 1 t22 (n 0),L q24 t23,m q25 t1,a q26 none 1 t25 (n 0),L q27 t26,O q28 (.call t21 [t24,t27]),m q11 t28])))))) (.block 3
 (R [m q52 t11,b q53 .lss t52 (n 0),m q51 t53]
 (C t51
 (R [m q54 t10,m q55 t3,m q56 t0,a q57 none 1 t56 (n 0),O q58 (.call t55 [t57,.const (.ptr none)]),x q59 t58 0,x q60 t58 1,O q61 (.call t54 [t59,t60])]
 (r [m q62 t0,O q63 (.slice .slice 1 t62 (some (n 1)) none none),m q0 t63]))
 (R [m q65 t11,b q66 .gtr t65 (n 0),m q64 t66]
 (C t64
 (R [m q67 t10,m q68 t3,m q69 t1,a q70 none 1 t69 (n 0),O q71 (.call t68 [.const (.ptr none),t70]),x q72 t71 0,x q73 t71 1,O q74 (.call t67 [t72,t73])]
 (r [m q75 t1,O q76 (.slice .slice 1 t75 (some (n 1)) none none),m q1 t76]))
 (R [m q37 t10,m q38 t3,m q39 t0,a q40 none 1 t39 (n 0),m q41 t1,a q42 none 1 t41 (n 0),D q43 (.call t38 [t40,t42]) [q37],x q44 t43 0,x q45 t43 1,O q46 (.call t37 [t44,t45])]
 (r [m q47 t0,O q48 (.slice .slice 1 t47 (some (n 1)) none none),m q49 t1,O q50 (.slice .slice 1 t49 (some (n 1)) none none),m q0 t48,m q1 t50])))))))))))))
 (R [L q77 t9,m q8 t77] .ret))))⟩
def c190 : AFunc := ⟨[q0,q1,q2],[.cell q5 (some 3),.tmp q6],R [h q5 none [e,v,v],m q6 F]
 (R [f q8 0 t2,f q9 0 t8,L q10 t9,B q11 [e,v,v] [(0,1,t10)],h q7 none [e,v,v],s 3 t7 t11]
 (Q (R [m q12 t0,O q13 (.eql true (.one .ptr) t12 (.const (.ptr none)))]
 (C t13
 (r [m q14 t0,O q15 (.nilCheck t14),L q16 t15,k q17 117 [t16],f q18 1 t7,s 1 t18 t17]) .skip))
 (Q (R [m q19 t1,O q20 (.eql true (.one .ptr) t19 (.const (.ptr none)))]
 (C t20
 (r [m q21 t1,O q22 (.nilCheck t21),L q23 t22,k q24 117 [t23],f q25 2 t7,s 1 t25 t24]) .skip))
 (R [l q26 3 t7,m q27 t0,O q28 (.eql false (.one .ptr) t27 (.const (.ptr none))),m q29 t28,mf q30 t1 q29,Gf q31 (.eql false (.one .ptr) t30 (.const (.ptr none))) q29,p q32 t29 T t31,m q33 t32,mf q34 t0 q33,Gf q35 (.nilCheck t34) q33,Gf q36 (.load none t35) q33,mf q37 t1 q33,Gf q38 (.nilCheck t37) q33,Gf q39 (.load none t38) q33,⟨some q40,.call (K 113) [t36,t39],some (q33,false),[⟨q26,.load (some 3) t7,none⟩],[q26]⟩,Gf q41 (.un .not t40) q33,p q42 t33 T t41,E (.store 3 t5 t26) [q42,q41],m q6 t42] .ret))))⟩
def c191 : AFunc := ⟨[q0,q1],[.tmp q4],R [m q4 (n 0)]
 (Q (R [m q6 t0,g q7 [t6],m q8 (n 0)] (.block 0 (.loop
 (R [b q9 .lss t8 t7]
 (Q (C t9 .skip (.exit 0))
 (Q (.block 1
 (R [m q10 t8,m q5 t10]
 (R [m q11 t1,m q12 t0,m q13 t5,a q14 none 5 t12 t13,l q15 5 t14,O q16 (.call t11 [t15])]
 (C t16
 (R [m q17 t5,m q4 t17] .ret) .skip))))
 (r [b q18 .add t8 (n 1),m q8 t18])))))))
 (R [m q4 (n (-1))] .ret))⟩
def c192 : AFunc := ⟨[q0,q1],[.tmp q3],R [O q2 (.box none t0),m q3 F]
 (R [f q4 0 t2,f q5 0 t4,L q6 t5,L q7 t1,b q8 .eql t6 t7,m q3 t8] .ret)⟩
def c193 : AFunc := ⟨[q0],[.tmp q2],R [O q1 (.box none t0),m q2 I]
 (Q (R [f q3 2 t1,L q4 t3] (.block 0
 (R [b q6 .eql t4 (n 1),m q5 t6]
 (C t5
 (R [l q7 12 t1,B q8 Y10 [(0,12,t7)],O q9 (.makeInterface 367 t8),m q2 t9] .ret)
 (R [b q11 .eql t4 (n 2),m q10 t11]
 (C t10
 (R [l q12 12 t1,B q13 Y10 [(0,12,t12)],O q14 (.makeInterface 289 t13),m q2 t14] .ret) .skip))))))
 (R [m q2 I] .ret))⟩
def c194 : AFunc := ⟨[q0,q1,q2],[],R [m q5 t1]
 (C t5
 (r [L q6 t2,m q7 t0,O q8 (.buildSlice [v] 1 [(0,1,t7)]),j q9 (.append 1 [v] false none) [t6,t8],s 1 t2 t9]) .skip)⟩
def c195 : AFunc := ⟨[q0,q1],[],R [m q6 t0,L q7 t1,k q8 133 [t6,t7],m q5 t8,x q9 t5 0,x q10 t5 1,m q3 t9,m q4 t10]
 (R [m q11 t0,m q12 t3,k q13 196 [t11,t12,.const v]]
 (r [m q14 t0,m q15 t0,O q16 (.nilCheck t15),f q17 0 t16,m q18 t0,O q19 (.nilCheck t18),f q20 6 t19,f q21 5 t20,l q22 18 t21,m q23 t4,D q24 (.call (K 197) [t17,t22,t23]) [q14],O q25 (.nilCheck t14),f q26 6 t25,f q27 5 t26,s 18 t27 t24]))⟩
def c196 : AFunc := ⟨[q0,q1,q2],[],R [m q9 t0,O q10 (.nilCheck t9),f q11 6 t10,f q12 23 t11,L q13 t12,g q14 [t13],m q15 (n 0)] (.block 0 (.loop
 (R [b q16 .lss t15 t14]
 (Q (C t16 .skip (.exit 0))
 (Q (.block 1
 (R [m q17 t15,a q18 none 11 t13 t15,l q19 11 t18,h q7 none Y11,m q6 t17,s 11 t7 t19]
 (R [l q20 11 t7,m q21 t0,O q22 (.nilCheck t21),f q23 31 t22,l q24 4 t23,m q25 t1,k q26 169 [t20,t24,t25],m q8 t26]
 (r [m q27 t0,O q28 (.nilCheck t27),f q29 6 t28,f q30 24 t29,L q31 t30,m q32 t6,m q33 t0,O q34 (.nilCheck t33),f q35 0 t34,m q36 t0,O q37 (.nilCheck t36),f q38 6 t37,f q39 24 t38,L q40 t39,m q41 t6,a q42 none 18 t40 t41,l q43 18 t42,m q44 t8,l q45 11 t7,m q46 t0,O q47 (.nilCheck t46),f q48 31 t47,l q49 4 t48,m q50 t2,W q51 (.call (K 169) [t45,t49,t50]) [⟨q43,.load (some 18) t42,none⟩,⟨q40,.load none t39,none⟩,⟨q31,.load none t30,none⟩] [q44,q43,q42,q41,q40,q39,q38,q37,q36,q35,q34,q33,q32,q31,q30,q29,q28,q27],W q52 (.call (K 285) [t44,t51]) [⟨q43,.load (some 18) t42,none⟩,⟨q40,.load none t39,none⟩,⟨q31,.load none t30,none⟩] [q43,q42,q41,q40,q39,q38,q37,q36,q35,q34,q33,q32,q31,q30,q29,q28,q27],W q53 (.call (K 284) [t35,t43,t52]) [⟨q31,.load none t30,none⟩] [q32,q31,q30,q29,q28,q27],a q54 none 18 t31 t32,s 18 t54 t53]))))
 (r [b q55 .add t15 (n 1),m q15 t55]))))))⟩
end A3.Y
