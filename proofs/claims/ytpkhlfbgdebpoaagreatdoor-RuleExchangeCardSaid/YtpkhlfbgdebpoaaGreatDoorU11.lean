/- The compiled functions, second part. -/
import Derived.Test.YtpkhlfbgdebpoaaGreatDoorU10
namespace A3.Y
open Go
def c197 : AFunc := ⟨[q0,q1,q2],[.cell q6 (some 18)],R [O q4 (.box none t1),h q6 none Y8]
 (R [m q10 t0,O q11 (.nilCheck t10),f q12 0 t11,l q13 6 t12,l q14 18 t4,m q15 t2,h q7 none Y15,D q16 (.call (K 286) [t13,t14,t15]) [q7],m q9 t16,x q17 t9 0,x q18 t9 1,x q19 t9 2,E (.store 6 t7 t17) [q19,q18],E (.store 18 t4 t18) [q19],m q8 t19]
 (R [m q20 t8,b q21 .eql t20 (n 0),m q22 t8,k q23 35 [t21,t22]]
 (R [m q24 t0,l q25 6 t7,O q26 (.nilCheck t24),f q27 0 t26,s 6 t27 t25]
 (R [l q28 18 t4,s 18 t6 t28] .ret))))⟩
def c198 : AFunc := ⟨[q0,q1],[],R [m q8 t0,L q9 t1,k q10 199 [t8,t9],m q7 t10,x q11 t7 0,x q12 t7 1,m q3 t11,m q4 t12]
 (R [m q14 t0,O q15 (.nilCheck t14),f q16 0 t15,f q17 0 t16,l q18 6 t17,m q19 t0,O q20 (.nilCheck t19),f q21 6 t20,f q22 5 t21,l q23 18 t22,m q24 t3,k q25 200 [t18,t23,t24],m q13 t25,x q26 t13 0,x q27 t13 1,m q5 t26,m q6 t27]
 (R [m q28 t6,b q29 .neq t28 (n 0),k q30 35 [t29,n 5]]
 (R [m q31 t6,b q32 .eql t31 (n 4),m q33 t6,k q34 35 [t32,t33]]
 (R [m q35 t0,L q36 t1,k q37 196 [t35,.const v,t36]]
 (r [m q38 t0,m q39 t0,O q40 (.nilCheck t39),f q41 0 t40,m q42 t0,O q43 (.nilCheck t42),f q44 6 t43,f q45 5 t44,l q46 18 t45,m q47 t3,m q48 t4,D q49 (.call (K 90) [t41,t46,t47,t48]) [q38],O q50 (.nilCheck t38),f q51 6 t50,f q52 5 t51,s 18 t52 t49])))))⟩
def c199 : AFunc := ⟨[q0,q1],[.tmp q4,.tmp q5],R [m q4 (S []),m q5 (S [])]
 (R [m q10 t0,O q11 (.nilCheck t10),f q12 31 t11,l q13 4 t12,m q14 t1,k q15 287 [t13,t14],m q9 t15,x q16 t9 0,x q17 t9 1,x q18 t9 2,m q6 t16,m q7 t17,m q8 t18]
 (R [m q19 t8,b q20 .eql t19 (n 0),m q21 t8,k q22 35 [t20,t21]]
 (R [m q23 t6,m q24 t7,m q4 t23,m q5 t24] .ret)))⟩
def c200 : AFunc := ⟨[q0,q1,q2],[.tmp q6,.cell q7 none],R [O q3 (.box none t0),O q4 (.box none t1),m q6 (S []),h q7 none [z]]
 (R [N (.defer (K 178) [t7])]
 (R [l q9 6 t3,l q10 18 t4,O q11 (.buildSlice Y8 1 [(0,18,t10)]),k q12 179 [t9,t11],m q8 t12]
 (R [m q13 t8,m q14 t8,l q15 18 t4,m q16 t2,k q17 288 [t14,t15,t16],k q18 181 [t13,t17],m q6 t18,s 1 t7 (n 0)] .ret)))⟩
def c202 : AFunc := ⟨[q0],[.tmp q2],R [O q1 (.box none t0),m q2 (.const (.ptr none))]
 (R [l q3 4 t1,k q4 71 [t3],k q5 203 [t4,n 2]]
 (R [l q6 4 t1,k q7 279 [t6],m q2 t7] .ret))⟩
def c203 : AFunc := ⟨[q0,q1],[],R [m q4 t0,O q5 (.un .not t4)]
 (C t5
 (r [m q6 t1,B q7 [z] [(0,1,t6)],O q8 (.makeInterface 311 t7),N (.panic t8)]) .skip)⟩
def c204 : AFunc := ⟨[q0,q1],[.tmp q4],R [m q4 F]
 (Q (R [m q7 t1,g q8 [t7],m q9 t0,O q10 (.nilCheck t9),f q11 0 t10,f q12 2 t11,L q13 t12,g q14 [t13],b q15 .neq t8 t14]
 (C t15
 (R [m q4 F] .ret) .skip))
 (Q (R [m q16 t1,g q17 [t16],m q18 (n 0)] (.block 0 (.loop
 (R [b q19 .lss t18 t17]
 (Q (C t19 .skip (.exit 0))
 (Q (.block 1
 (R [m q20 t18,a q21 none 3 t16 t18,l q22 3 t21,h q6 none [z,z,e],m q5 t20,s 3 t6 t22]
 (R [m q23 t0,O q24 (.nilCheck t23),f q25 0 t24,f q26 2 t25,L q27 t26,m q28 t5,a q29 none 6 t27 t28,l q30 6 t29,l q31 3 t6,k q32 216 [t30,t31],O q33 (.un .not t32)]
 (C t33
 (R [m q4 F] .ret) .skip))))
 (r [b q34 .add t18 (n 1),m q18 t34])))))))
 (R [m q4 T] .ret)))⟩
def c205 : AFunc := ⟨[q0,q1],[.tmp q4],R [m q4 (S [])]
 (R [m q5 (.const v)]
 (Q (R [m q8 t0,O q9 (.nilCheck t8),f q10 0 t9,f q11 3 t10,L q12 t11,g q13 [t12],m q14 (n 0)] (.block 0 (.loop
 (R [b q15 .lss t14 t13]
 (Q (C t15 .skip (.exit 0))
 (Q (.block 1
 (R [a q16 none 1 t12 t14,L q17 t16,m q7 t17]
 (r [m q18 t5,m q19 t1,m q20 t7,a q21 none 3 t19 t20,l q22 3 t21,O q23 (.buildSlice [z,z,e] 1 [(0,3,t22)]),j q24 (.append 3 [z,z,e] false none) [t18,t23],m q5 t24])))
 (r [b q25 .add t14 (n 1),m q14 t25])))))))
 (R [m q26 t5,k q27 289 [t26],m q4 t27] .ret)))⟩
def c206 : AFunc := ⟨[q0,q1],[],R [m q5 t0,g q6 [t5],m q4 t6]
 (r [m q7 t0,m q8 t4,m q9 t4,O q10 (.convInt .u64 t9),k q11 291 [t10],m q12 t1,k q13 290 [t7,n 0,t8,t11,t12]])⟩
def c207 : AFunc := ⟨[q0,q1],[.tmp q4],R [O q2 (.box none t0),O q3 (.box none t1),m q4 (n 0)]
 (R [f q5 0 t2,L q6 t5,f q7 0 t3,L q8 t7,k q9 39 [t6,t8],m q4 t9] .ret)⟩
def c208 : AFunc := ⟨[q0,q1],[.tmp q4],R [m q4 F]
 (Q (R [m q6 t0,g q7 [t6],m q8 t1,g q9 [t8],b q10 .neq t7 t9]
 (C t10
 (R [m q4 F] .ret) .skip))
 (Q (R [m q11 t0,g q12 [t11],m q13 (n 0)] (.block 0 (.loop
 (R [b q14 .lss t13 t12]
 (Q (C t14 .skip (.exit 0))
 (Q (.block 1
 (R [m q15 t13,m q5 t15]
 (R [m q16 t0,m q17 t5,a q18 none 2 t16 t17,l q19 2 t18,m q20 t1,m q21 t5,a q22 none 2 t20 t21,l q23 2 t22,O q24 (.eql true (.agg [(0,.str),(1,.str)]) t19 t23)]
 (C t24
 (R [m q4 F] .ret) .skip))))
 (r [b q25 .add t13 (n 1),m q13 t25])))))))
 (R [m q4 T] .ret)))⟩
def c209 : AFunc := ⟨[q0,q1],[.tmp q4],R [O q2 (.box none t0),m q4 F]
 (R [f q8 3 t2,l q9 6 t8,m q10 t1,k q11 292 [t9,t10,.const v],m q7 t11,x q12 t7 0,x q13 t7 1,h q5 none [z,z,e],s 3 t5 t12,m q6 t13]
 (R [m q14 t6,b q15 .eql t14 (n 0),m q16 t15,Gt q17 (.fieldAddr 0 t5) q16,Gt q18 (.load none t17) q16,Gt q19 (.bin .eql t18 (n 0)) q16,mt q20 t19 q16,Gf q21 (.fieldAddr 1 t5) q20,Gf q22 (.load none t21) q20,Gf q23 (.bin .eql t22 (n 1)) q20,Gt q24 (.pick t20 T t23) q16,p q25 t16 t24 F,m q4 t25] .ret))⟩
def c210 : AFunc := ⟨[q0,q1,q2],[.tmp q6],R [O q3 (.box none t0),m q6 F]
 (R [f q10 1 t3,L q11 t10,m q12 t1,m q13 t2,W q14 (.call (K 105) [t13]) [⟨q11,.load none t10,none⟩] [q12,q11,q10],B q15 [e,e] [(0,1,t12),(1,1,t14)],O q16 (.lookup v (.agg [(0,.str),(1,.str)]) t11 t15 true),m q9 t16,x q17 t9 0,x q18 t9 1,m q7 t17,m q8 t18]
 (R [m q19 t8,m q6 t19] .ret))⟩
def c211 : AFunc := ⟨[q0],[.tmp q2],R [m q2 F]
 (Q (R [m q5 t0,O q6 (.convBytes (some 5) t5),g q7 [t6],m q8 (n 0)] (.block 0 (.loop
 (R [b q9 .lss t8 t7]
 (Q (C t9 .skip (.exit 0))
 (Q (.block 1
 (R [a q10 none 1 t6 t8,L q11 t10,m q4 t11]
 (R [m q12 t4,b q13 .lss t12 (u 33),m q14 t13,mf q15 t4 q14,Gf q16 (.bin .gtr t15 (u 126)) q14,p q17 t14 T t16]
 (C t17
 (R [m q2 F] .ret) .skip))))
 (r [b q18 .add t8 (n 1),m q8 t18])))))))
 (R [m q19 t0,j q20 (.len .str) [t19],b q21 .geq t20 (n 1),m q22 t21,mt q23 t0 q22,Gt q24 (.bi (.len .str) [t23]) q22,Gt q25 (.bin .leq t24 (n 24)) q22,p q26 t22 t25 F,m q2 t26] .ret))⟩
def c212 : AFunc := ⟨[q0],[.tmp q2],R [m q2 (n 0)]
 (R [m q3 (n 0)]
 (Q (R [m q6 t0,g q7 [t6],m q8 (n 0)] (.block 0 (.loop
 (R [b q9 .lss t8 t7]
 (Q (C t9 .skip (.exit 0))
 (Q (.block 1
 (R [a q10 none 1 t6 t8,L q11 t10,m q5 t11]
 (R [m q12 t5,m q13 t3,b q14 .neq t12 t13]
 (C t14
 (R [m q15 t5,m q2 t15] .ret) .skip))))
 (r [b q16 .add t8 (n 1),m q8 t16])))))))
 (R [m q17 t3,m q2 t17] .ret)))⟩
def c213 : AFunc := ⟨[q0,q1],[.cell q4 none,.cell q5 none,.cell q6 none],R [O q2 (.box none t0),h q4 none [e],h q5 none [e],h q6 none [z]]
 (R [O q10 (.makeFunc (.fn 293) [] [t4,t5]),N (.defer (K 147) [t6,t10])]
 (R [l q11 4 t2,k q12 202 [t11],m q7 t12]
 (R [m q13 t1,g q14 [t13],m q15 t7,O q16 (.nilCheck t15),f q17 0 t16,f q18 3 t17,L q19 t18,g q20 [t19],b q21 .leq t14 t20,k q22 203 [t21,n 1]]
 (Q (R [m q23 t1,g q24 [t23],m q25 (n 0)] (.block 0 (.loop
 (R [b q26 .lss t25 t24]
 (Q (C t26 .skip (.exit 0))
 (Q (.block 1
 (R [m q27 t25,a q28 none 3 t23 t25,l q29 3 t28,h q9 none [z,z,e],m q8 t27,s 3 t9 t29]
 (r [m q30 t7,O q31 (.nilCheck t30),f q32 0 t31,f q33 2 t32,L q34 t33,m q35 t7,O q36 (.nilCheck t35),f q37 0 t36,f q38 3 t37,L q39 t38,m q40 t8,a q41 none 1 t39 t40,L q42 t41,a q43 none 6 t34 t42,l q44 6 t43,l q45 3 t9,k q46 216 [t44,t45],k q47 203 [t46,n 1]])))
 (r [b q48 .add t25 (n 1),m q25 t48])))))))
 (Q (R [m q49 t1,g q50 [t49],b q51 .eql t50 (n 0)]
 (C t51
 (R [s 1 t4 (S []),s 1 t5 (S []),s 1 t6 (n 0)] .ret) .skip))
 (R [m q52 t1,k q53 289 [t52],s 1 t4 t53]
 (R [L q54 t4,j q55 (.len .str) [t54],b q56 .leq t55 (n 48),k q57 203 [t56,n 3]]
 (R [L q59 t4,k q60 294 [t59],m q58 t60,x q61 t58 0,x q62 t58 1,s 1 t5 t61]
 (R [L q63 t4,L q64 t5,V (.store 1 t4 t63) [⟨q64,.load none t5,none⟩] [q64],s 1 t5 t64,s 1 t6 (n 0)] .ret)))))))))⟩
def c214 : AFunc := ⟨[q0,q1],[.tmp q4],R [m q4 (S [])]
 (R [m q5 t1,b q6 .eql t5 (n 0),m q7 t1,k q8 35 [t6,t7]]
 (R [m q9 t0,m q4 t9] .ret))⟩
def c215 : AFunc := ⟨[q0,q1],[.tmp q4],R [m q4 (n 0)]
 (Q (R [m q6 t0,g q7 [t6],m q8 (n 0)] (.block 0 (.loop
 (R [b q9 .lss t8 t7]
 (Q (C t9 .skip (.exit 0))
 (Q (.block 1
 (R [m q10 t8,m q5 t10]
 (R [m q11 t1,m q12 t0,m q13 t5,a q14 none 6 t12 t13,l q15 6 t14,O q16 (.call t11 [t15])]
 (C t16
 (R [m q17 t5,m q4 t17] .ret) .skip))))
 (r [b q18 .add t8 (n 1),m q8 t18])))))))
 (R [m q4 (n (-1))] .ret))⟩
def c216 : AFunc := ⟨[q0,q1],[.tmp q4],R [O q2 (.box none t0),O q3 (.box none t1),m q4 F]
 (Q (R [l q5 3 t3,k q6 252 [t5],b q7 .neq t6 (n 0)]
 (C t7
 (R [m q4 F] .ret) .skip))
 (Q (R [f q8 0 t3,L q9 t8,b q10 .eql t9 (n 0)]
 (C t10
 (R [f q11 2 t2,L q12 t11,m q4 t12] .ret) .skip))
 (R [f q13 0 t3,L q14 t13,f q15 1 t2,L q16 t15,b q17 .eql t14 t16,m q18 t17,Gt q19 (.fieldAddr 2 t3) q18,Gt q20 (.load none t19) q18,Gt q21 (.bi (.len .str) [t20]) q18,Gt q22 (.bin .leq t21 (n 1000)) q18,p q23 t18 t22 F,m q4 t23] .ret)))⟩
def c217 : AFunc := ⟨[q0,q1],[.tmp q4],R [m q4 (n 0)]
 (Q (R [m q6 t0,g q7 [t6],m q8 (n 0)] (.block 0 (.loop
 (R [b q9 .lss t8 t7]
 (Q (C t9 .skip (.exit 0))
 (Q (.block 1
 (R [m q10 t8,m q5 t10]
 (R [m q11 t1,m q12 t0,m q13 t5,a q14 none 1 t12 t13,L q15 t14,O q16 (.call t11 [t15])]
 (C t16
 (R [m q17 t5,m q4 t17] .ret) .skip))))
 (r [b q18 .add t8 (n 1),m q8 t18])))))))
 (R [m q4 (n (-1))] .ret))⟩
def c218 : AFunc := ⟨[q0],[.tmp q2],R [O q1 (.box none t0),m q2 (n 0)]
 (Q (R [f q3 0 t1,l q4 4 t3,k q5 71 [t4],O q6 (.un .not t5),m q7 t6,Gf q8 (.fieldAddr 4 t1) q7,Gf q9 (.load none t8) q7,Gf q10 (.bi (.len .slice) [t9]) q7,Gf q11 (.bin .geq t10 (n 50)) q7,p q12 t7 T t11,m q13 t12,Gf q14 (.load (some 5) t1) q13,Gf q15 (.call (K 295) [t14]) q13,Gf q16 (.un .not t15) q13,p q17 t13 T t16]
 (C t17
 (R [m q2 (n 2)] .ret) .skip))
 (R [m q2 (n 0)] .ret))⟩
def c219 : AFunc := ⟨[q0],[.tmp q2],R [O q1 (.box none t0),m q2 (.const .nilFunc)]
 (R [O q3 (.makeFunc (.fn 296) [] [t1]),m q2 t3] .ret)⟩
def c221 : AFunc := ⟨[q0],[.tmp q2],R [O q1 (.box none t0),m q2 (n 0)]
 (R [f q9 0 t1,L q10 t9,g q11 [t10],m q3 t11]
 (Q (R [m q12 t3,b q13 .lss t12 (n 2),m q14 t13,mf q15 t3 q14,Gf q16 (.bin .gtr t15 (n 4096)) q14,p q17 t14 T t16,m q18 t17,Gf q19 (.fieldAddr 4 t1) q18,Gf q20 (.load none t19) q18,Gf q21 (.bin .lss t20 (n 0)) q18,p q22 t18 T t21,m q23 t22,Gf q24 (.fieldAddr 4 t1) q23,Gf q25 (.load none t24) q23,Gf q26 (.bin .gtr t25 (n 1099511627776)) q23,p q27 t23 T t26,m q28 t27,Gf q29 (.fieldAddr 5 t1) q28,Gf q30 (.load none t29) q28,Gf q31 (.bin .lss t30 (n 0)) q28,p q32 t28 T t31,m q33 t32,Gf q34 (.fieldAddr 5 t1) q33,Gf q35 (.load none t34) q33,Gf q36 (.bin .gtr t35 (n 255)) q33,p q37 t33 T t36]
 (C t37
 (R [m q2 (n 2)] .ret) .skip))
 (R [m q38 t3,O q39 (.makeSlice [w] t38 t38),m q4 t39]
 (Q (R [f q40 1 t1,L q41 t40,f q42 2 t1,L q43 t42,f q44 3 t1,L q45 t44,O q46 (.buildSlice [v,v,v] 3 [(0,1,t41),(1,1,t43),(2,1,t45)]),g q47 [t46],m q48 (n 0)] (.block 0 (.loop
 (R [b q49 .lss t48 t47]
 (Q (C t49 .skip (.exit 0))
 (Q (.block 1
 (R [a q50 none 1 t46 t48,L q51 t50,m q6 t51]
 (R [m q52 t6,g q53 [t52],m q54 (n 0)] (.block 2 (.loop
 (R [b q55 .lss t54 t53]
 (Q (C t55 .skip (.exit 2))
 (Q (.block 3
 (R [m q56 t54,a q57 none 1 t52 t54,L q58 t57,m q7 t56,m q8 t58]
 (Q (R [m q59 t8,b q60 .lss t59 (n 2),m q61 t60,mf q62 t8 q61,mf q63 t3 q61,Gf q64 (.bin .geq t62 t63) q61,p q65 t61 T t64,m q66 t65,mf q67 t4 q66,mf q68 t8 q66,Gf q69 (.indexAddr none 1 t67 t68) q66,Gf q70 (.load none t69) q66,p q71 t66 T t70,m q72 t71,mf q73 t7 q72,Gf q74 (.bin .gtr t73 (n 0)) q72,mf q75 t74 q72,mt q76 t8 q75,mt q77 t6 q75,mt q78 t7 q75,Gt q79 (.bin .sub t78 (n 1)) q75,Gt q80 (.indexAddr none 1 t77 t79) q75,Gt q81 (.load none t80) q75,Gt q82 (.bin .leq t76 t81) q75,Gf q83 (.pick t75 t82 F) q72,p q84 t72 T t83]
 (C t84
 (R [m q2 (n 2)] .ret) .skip))
 (r [m q85 t4,m q86 t8,a q87 none 1 t85 t86,s 1 t87 T]))))
 (r [b q88 .add t54 (n 1),m q54 t88])))))))))
 (r [b q89 .add t48 (n 1),m q48 t89])))))))
 (R [m q2 (n 0)] .ret)))))⟩
def c222 : AFunc := ⟨[q0],[.tmp q2],R [O q1 (.box none t0),m q2 F]
 (R [l q3 18 t1,B q4 Y8 [],O q5 (.eql false (.agg [(0,.int),(1,.int),(2,.int),(3,.int),(4,.int),(5,.int),(6,.int),(7,.int),(8,.int),(9,.int),(10,.int),(11,.int),(12,.int),(13,.int),(14,.int),(15,.int),(16,.int),(17,.int)]) t3 t4),m q6 t5,Gf q7 (.fieldAddr 0 t1) q6,Gf q8 (.load none t7) q6,Gf q9 (.bin .geq t8 (n 2)) q6,mf q10 t9 q6,Gt q11 (.fieldAddr 0 t1) q10,Gt q12 (.load none t11) q10,Gt q13 (.bin .lss t12 (n 4096)) q10,Gf q14 (.pick t10 t13 F) q6,mf q15 t14 q6,Gt q16 (.fieldAddr 1 t1) q15,Gt q17 (.load none t16) q15,Gt q18 (.bin .geq t17 (n 1)) q15,Gf q19 (.pick t15 t18 F) q6,mf q20 t19 q6,Gt q21 (.fieldAddr 1 t1) q20,Gt q22 (.load none t21) q20,Gt q23 (.bin .leq t22 (n 2147483647)) q20,Gf q24 (.pick t20 t23 F) q6,p q25 t6 T t24,m q2 t25] .ret)⟩
def c229 : AFunc := ⟨[q0],[.tmp q2],R [O q1 (.box none t0),m q2 (.const .nilFunc)]
 (R [O q3 (.makeFunc (.fn 298) [] [t1]),m q2 t3] .ret)⟩
def c234 : AFunc := ⟨[q0],[.tmp q2],R [m q2 F]
 (R [m q3 t0,b q4 .gtr t3 (n 0),m q2 t4] .ret)⟩
def c237 : AFunc := ⟨[q0],[.cell q2 (some 3)],R [h q2 none [z,z,e]]
 (R [B q4 [z,z,e] [(0,1,n 1)],h q3 none [z,z,e],s 3 t3 t4]
 (Q (R [m q5 t0]
 (C t5
 (r [f q6 1 t3,s 1 t6 (n 1)]) .skip))
 (R [l q7 3 t3,s 3 t2 t7] .ret)))⟩
def c250 : AFunc := ⟨[q0,q1,q2,q3,q4],[.tmp q7],R [O q5 (.box none t0),m q7 F]
 (R [L q13 t2,b q14 .add t13 (n 1),s 1 t2 t14]
 (Q (R [L q15 t2,b q16 .gtr t15 (n 300),m q17 t16,mf q18 t1 q17,Gf q19 (.bin .gtr t18 (n 30)) q17,p q20 t17 T t19,m q21 t20,Gf q22 (.fieldAddr 0 t5) q21,Gf q23 (.load none t22) q21,Gf q24 (.call (K 251) [t23]) q21,Gf q25 (.un .not t24) q21,p q26 t21 T t25]
 (C t26
 (R [m q7 F] .ret) .skip))
 (R [L q27 t3,f q28 0 t5,L q29 t28,O q30 (.nilCheck t27),a q31 (some 33) 6 t30 t29,f q32 5 t5,L q33 t32,g q34 [t33],m q8 t31,m q9 t34]
 (Q (R [m q35 t9,m q36 t8,O q37 (.nilCheck t36),f q38 0 t37,L q39 t38,b q40 .lss t35 t39,m q41 t40,mf q42 t9 q41,mf q43 t8 q41,Gf q44 (.nilCheck t43) q41,Gf q45 (.fieldAddr 1 t44) q41,Gf q46 (.load none t45) q41,Gf q47 (.bin .gtr t42 t46) q41,p q48 t41 T t47,m q49 t48,mf q50 t9 q49,mf q51 t8 q49,Gf q52 (.nilCheck t51) q49,Gf q53 (.fieldAddr 0 t52) q49,Gf q54 (.load none t53) q49,Gf q55 (.bin .gtr t50 t54) q49,mf q56 t55 q49,mt q57 t9 q56,mt q58 t8 q56,Gt q59 (.nilCheck t58) q56,Gt q60 (.fieldAddr 0 t59) q56,Gt q61 (.load none t60) q56,Gt q62 (.bin .sub t57 t61) q56,mt q63 t8 q56,Gt q64 (.nilCheck t63) q56,Gt q65 (.fieldAddr 2 t64) q56,Gt q66 (.load none t65) q56,Gt q67 (.bin .rem t62 t66) q56,Gt q68 (.bin .neq t67 (n 0)) q56,Gf q69 (.pick t56 t68 F) q49,p q70 t49 T t69]
 (C t70
 (R [m q7 F] .ret) .skip))
 (Q (R [f q71 0 t5,L q72 t71,b q73 .eql t72 (n 1),m q74 t73,Gt q75 (.fieldAddr 2 t5) q74,Gt q76 (.load (some 3) t75) q74,Gt q77 (.call (K 252) [t76]) q74,Gt q78 (.bin .neq t77 (n 0)) q74,p q79 t74 t78 F,m q80 t79,Gf q81 (.fieldAddr 0 t5) q80,Gf q82 (.load none t81) q80,Gf q83 (.bin .neq t82 (n 1)) q80,mf q84 t83 q80,Gt q85 (.fieldAddr 2 t5) q84,Gt q86 (.load (some 3) t85) q84,Gt q87 (.build [z,z,e] []) q84,Gt q88 (.eql true (.agg [(0,.int),(1,.int),(2,.str)]) t86 t87) q84,Gf q89 (.pick t84 t88 F) q80,p q90 t80 T t89]
 (C t90
 (R [m q7 F] .ret) .skip))
 (Q (R [f q91 0 t5,L q92 t91,b q93 .eql t92 (n 2),m q94 t93,Gf q95 (.fieldAddr 0 t5) q94,Gf q96 (.load none t95) q94,Gf q97 (.bin .eql t96 (n 3)) q94,p q98 t94 T t97,m q10 t98]
 (R [m q99 t10,m q100 t99,Gt q101 (.fieldAddr 1 t5) q100,Gt q102 (.load none t101) q100,Gt q103 (.bin .lss t102 (n 0)) q100,mt q104 t103 q100,Gf q105 (.fieldAddr 1 t5) q104,Gf q106 (.load none t105) q104,Gf q107 (.bin .gtr t106 (n 999)) q104,Gt q108 (.pick t104 T t107) q100,p q109 t100 t108 F,m q110 t109,mf q111 t10 q110,Gf q112 (.un .not t111) q110,mf q113 t112 q110,Gt q114 (.fieldAddr 1 t5) q113,Gt q115 (.load none t114) q113,Gt q116 (.bin .neq t115 (n 0)) q113,Gf q117 (.pick t113 t116 F) q110,p q118 t110 T t117]
 (C t118
 (R [m q7 F] .ret) .skip)))
 (Q (R [f q119 5 t5,L q120 t119,g q121 [t120],m q122 (n 0)] (.block 0 (.loop
 (R [b q123 .lss t122 t121]
 (Q (C t123 .skip (.exit 0))
 (Q (.block 1
 (R [a q124 none 6 t120 t122,l q125 6 t124,h q12 none Y14,s 6 t12 t125]
 (R [L q126 t4,l q127 6 t12,m q128 t1,b q129 .add t128 (n 1),O q130 (.call t126 [t127,t129]),O q131 (.un .not t130)]
 (C t131
 (R [m q7 F] .ret) .skip))))
 (r [b q132 .add t122 (n 1),m q122 t132])))))))
 (R [m q7 T] .ret))))))))⟩
def c251 : AFunc := ⟨[q0],[.tmp q2],R [m q2 F]
 (R [m q3 t0,b q4 .geq t3 (n 1),m q5 t4,mt q6 t0 q5,Gt q7 (.bin .leq t6 (n 32)) q5,p q8 t5 t7 F,m q2 t8] .ret)⟩
def c252 : AFunc := ⟨[q0],[.tmp q2],R [O q1 (.box none t0),m q2 (n 0)]
 (Q (R [f q3 0 t1,L q4 t3,b q5 .lss t4 (n 0),m q6 t5,Gf q7 (.fieldAddr 0 t1) q6,Gf q8 (.load none t7) q6,Gf q9 (.bin .gtr t8 (n 3)) q6,p q10 t6 T t9,m q11 t10,Gf q13 (.fieldAddr 0 t1) q11,Gf q14 (.load none t13) q11,Gf q17 (.load (some 3) t1) q11,⟨some q12,.call (K 310) [],some (q11,false),[⟨q17,.load (some 3) t1,some (q11,false)⟩,⟨q14,.load none t13,some (q11,false)⟩],[q17,q14,q13]⟩,Gf q15 (.indexArr 4 (some 3) 3 t12 t14) q11,Gf q16 (.field 0 none t15) q11,Gf q18 (.call t16 [t17]) q11,Gf q19 (.un .not t18) q11,p q20 t11 T t19]
 (C t20
 (R [m q2 (n 2)] .ret) .skip))
 (R [m q2 (n 0)] .ret))⟩
def c253 : AFunc := ⟨[q0,q1],[.tmp q4],R [m q4 (.const v)]
 (Q (R [m q5 t1,b q6 .lss t5 (n 0)]
 (C t6
 (r [O q7 (.makeInterface 9 (S [99,97,110,110,111,116,32,98,101,32,110,101,103,97,116,105,118,101])),N (.panic t7)]) .skip))
 (Q (R [m q8 t1,m q9 t0,j q10 .cap [t9],m q11 t0,g q12 [t11],b q13 .sub t10 t12,b q14 .sub t8 t13,m q1 t14]
 (R [m q15 t1,b q16 .gtr t15 (n 0)]
 (C t16
 (r [m q17 t0,m q18 t0,j q19 .cap [t18],O q20 (.slice .slice 1 t17 none (some t19) none),m q21 t1,j q22 (.append 1 [z] true none) [t20,t21],m q23 t0,g q24 [t23],O q25 (.slice .slice 1 t22 none (some t24) none),m q0 t25]) .skip)))
 (R [m q26 t0,m q4 t26] .ret)))⟩
def c254 : AFunc := ⟨[q0],[.tmp q2],R [m q2 (n 0)]
 (R [m q3 (n 0)]
 (Q (R [m q6 t0,g q7 [t6],m q8 (n 0)] (.block 0 (.loop
 (R [b q9 .lss t8 t7]
 (Q (C t9 .skip (.exit 0))
 (Q (.block 1
 (R [a q10 none 1 t6 t8,L q11 t10,m q5 t11]
 (Q (R [m q12 t5,b q13 .eql t12 (n 0)]
 (C t13 (.exit 1) .skip))
 (R [m q14 t3,b q15 .eql t14 (n 0),m q16 t15,mf q17 t3 q16,mf q18 t5 q16,Gf q19 (.bin .eql t17 t18) q16,p q20 t16 T t19,k q21 158 [t20,n 10]]
 (r [m q22 t5,m q3 t22])))))
 (r [b q23 .add t8 (n 1),m q8 t23])))))))
 (R [m q24 t3,m q2 t24] .ret)))⟩
def c255 : AFunc := ⟨[q0,q1,q2],[.tmp q6],R [m q6 F]
 (Q (R [m q10 t0,g q11 [t10],m q12 t1,g q13 [t12],b q14 .neq t11 t13]
 (C t14
 (R [m q6 F] .ret) .skip))
 (Q (R [m q15 t0,g q16 [t15],m q17 (n 0)] (.block 0 (.loop
 (R [b q18 .lss t17 t16]
 (Q (C t18 .skip (.exit 0))
 (Q (.block 1
 (R [m q19 t17,a q20 none 6 t15 t17,l q21 6 t20,h q8 none Y14,m q7 t19,s 6 t8 t21]
 (R [m q22 t1,m q23 t7,a q24 none 6 t22 t23,l q25 6 t24,h q9 none Y14,s 6 t9 t25]
 (R [m q26 t2,l q27 6 t8,l q28 6 t9,O q29 (.call t26 [t27,t28]),O q30 (.un .not t29)]
 (C t30
 (R [m q6 F] .ret) .skip)))))
 (r [b q31 .add t17 (n 1),m q17 t31])))))))
 (R [m q6 T] .ret)))⟩
def c256 : AFunc := ⟨[q0,q1],[.cell q4 (some 4)],R [O q2 (.box none t0),h q4 none Y17]
 (R [m q5 t1,b q6 .eql t5 (n 0),m q7 t1,k q8 35 [t6,t7]]
 (R [l q9 4 t2,s 4 t4 t9] .ret))⟩
def c257 : AFunc := ⟨[q0,q1],[.tmp q4],R [O q2 (.box none t0),O q3 (.box none t1),m q4 (.const .nilFunc)]
 (R [O q5 (.makeFunc (.fn 311) [] [t2,t3]),m q4 t5] .ret)⟩
def c258 : AFunc := ⟨[q0],[.tmp q2],R [m q2 (S [])]
 (R [m q3 t0,k q4 317 [t3,.const v],x q5 t4 0,x q6 t4 1,k q7 214 [t5,t6],m q2 t7] .ret)⟩
def c259 : AFunc := ⟨[q0,q1],[.tmp q4],R [m q4 F]
 (R [m q5 t0,m q6 t1,k q7 318 [t5,t6],b q8 .geq t7 (n 0),m q4 t8] .ret)⟩
def c260 : AFunc := ⟨[q0],[.tmp q2],R [O q1 (.box none t0),m q2 F]
 (R [f q3 0 t1,L q4 t3,b q5 .eql t4 (n 0),m q2 t5] .ret)⟩
def c262 : AFunc := ⟨[q0,q1,q2],[.cell q6 (some 22),.cell q7 none],R [O q4 (.box none t1),O q5 (.box none t2),h q6 none Y7,h q7 none [w]]
 (R [L q11 t5,k q12 319 [t11],k q13 263 [t12,n 1]]
 (Q (R [m q14 t0,l q15 18 t4,L q16 t5,k q17 320 [t14,t15,t16]] (.block 0 (.rangeFunc t17 [q18]
 (r [h q8 none [z,z,v,z],s 4 t8 t18]) (.block 1
 (Q (R [f q19 1 t8,L q20 t19,b q21 .gtr t20 (n 0)]
 (C t21 (.exit 1) .skip))
 (R [f q23 2 t8,L q24 t23,L q25 t5,k q26 321 [t24,t25],m q22 t26,x q27 t22 0,x q28 t22 1,m q9 t27,m q10 t28]
 (R [m q29 t10]
 (C t29
 (R [f q30 2 t8,L q31 t30,m q32 t9,a q33 none 22 t31 t32,l q34 22 t33,s 22 t6 t34,s 1 t7 T] .ret) .skip))))))))
 (R [B q35 Y7 [],s 22 t6 t35,s 1 t7 F] .ret)))⟩
def c263 : AFunc := ⟨[q0,q1],[],R [m q4 t0,O q5 (.un .not t4)]
 (C t5
 (r [m q6 t1,B q7 [z] [(0,1,t6)],O q8 (.makeInterface 348 t7),N (.panic t8)]) .skip)⟩
def c264 : AFunc := ⟨[q0,q1],[],R [O q3 (.box none t1)]
 (Q (R [f q8 2 t3,L q9 t8,b q10 .eql t9 (n 0)]
 (C t10 .ret .skip))
 (R [m q12 t0,l q13 22 t3,k q14 275 [t12,t13],m q11 t14,x q15 t11 0,x q16 t11 1,m q4 t15,m q5 t16]
 (R [m q17 t4,g q18 [t17],m q19 (n 0)] (.block 0 (.loop
 (R [b q20 .lss t19 t18]
 (Q (C t20 .skip (.exit 0))
 (Q (.block 1
 (R [a q21 none 1 t17 t19,L q22 t21,m q7 t22]
 (r [m q23 t0,m q24 t7,k q25 322 [t23,t24]])))
 (r [b q26 .add t19 (n 1),m q19 t26])))))))))⟩
def c265 : AFunc := ⟨[q0,q1,q2],[.cell q6 (some 18)],R [O q4 (.box none t1),O q5 (.box none t2),h q6 none Y8]
 (R [m q8 t0,l q9 18 t4,f q10 0 t5,L q11 t10,k q12 320 [t8,t9,t11],k q13 323 [t12],m q7 t13]
 (Q (R [m q14 t7,g q15 [t14],b q16 .eql t15 (n 0)]
 (C t16
 (R [m q17 t0,l q18 22 t5,O q19 (.buildSlice Y7 1 [(0,22,t18)]),k q20 324 [t17,t19,n 0,n 0],s 18 t6 t20] .ret) .skip))
 (R [m q21 t0,m q22 t7,m q23 t7,m q24 t7,g q25 [t24],b q26 .sub t25 (n 1),a q27 none 4 t23 t26,f q28 2 t27,L q29 t28,l q30 22 t5,D q31 (.call (K 326) [t29,t30]) [q22,q21],k q32 325 [t21,t22,t31],s 18 t6 t32] .ret)))⟩
def c266 : AFunc := ⟨[q0,q1,q2],[.cell q6 (some 22)],R [h q6 none Y7]
 (Q (R [m q13 t2,j q14 (.len .str) [t13],b q15 .leq t14 (n 64)]
 (C t15
 (R [m q16 t1,m q17 t2,B q18 Y7 [(0,1,t16),(1,1,t17)],s 22 t6 t18] .ret) .skip))
 (R [m q20 t2,k q21 327 [t20],m q19 t21,x q22 t19 0,x q23 t19 1,m q7 t22,m q8 t23]
 (R [m q24 t8,b q25 .eql t24 (n 0),k q26 263 [t25,n 1]]
 (R [m q9 (.const v)]
 (Q (R [m q27 t7,g q28 [t27],m q29 (n 0)] (.block 0 (.loop
 (R [b q30 .lss t29 t28]
 (Q (C t30 .skip (.exit 0))
 (Q (.block 1
 (r [m q31 t9,m q32 t0,k q33 328 [t32],O q34 (.buildSlice [z] 1 [(0,1,t33)]),j q35 (.append 1 [z] false none) [t31,t34],m q9 t35]))
 (r [b q36 .add t29 (n 1),m q29 t36])))))))
 (R [m q38 t2,m q39 t9,m q40 t0,O q41 (.nilCheck t40),f q42 0 t41,f q43 4 t42,L q44 t43,k q45 329 [t38,t39,t44],m q37 t45,x q46 t37 0,x q47 t37 1,m q10 t46,m q8 t47]
 (R [m q48 t8,b q49 .eql t48 (n 0),k q50 263 [t49,n 1]]
 (Q (R [m q51 t10,g q52 [t51],m q53 (n 0)] (.block 2 (.loop
 (R [b q54 .lss t53 t52]
 (Q (C t54 .skip (.exit 2))
 (Q (.block 3
 (R [a q55 none 10 t51 t53,l q56 10 t55,h q12 none Y12,s 10 t12 t56]
 (r [m q57 t0,O q58 (.nilCheck t57),f q59 0 t58,f q60 0 t59,L q61 t60,f q62 1 t12,L q63 t62,l q64 10 t12,a q65 none 10 t61 t63,s 10 t65 t64])))
 (r [b q66 .add t53 (n 1),m q53 t66])))))))
 (R [m q67 t1,m q68 t9,a q69 none 1 t68 (n 0),L q70 t69,m q71 t2,j q72 (.len .str) [t71],m q73 t2,W q74 (.call (K 276) [t73]) [⟨q72,.bi (.len .str) [t71],none⟩,⟨q70,.load none t69,none⟩] [q72,q71,q70,q69,q68,q67],B q75 Y7 [(0,1,t67),(2,1,t70),(3,1,t72),(6,16,t74)],s 22 t6 t75] .ret)))))))))⟩
def c271 : AFunc := ⟨[q0,q1],[.tmp q4],R [m q4 (n 0)]
 (R [m q5 t0,m q6 t1,k q7 39 [t5,t6],m q4 t7] .ret)⟩
def c272 : AFunc := ⟨[q0],[.tmp q2],R [m q2 (.const v)]
 (Q (R [m q3 t0,O q4 (.eql false (.one .slice) t3 (.const v))]
 (C t4
 (R [m q2 (.const v)] .ret) .skip))
 (R [O q5 (.buildSlice [] 0 []),m q6 t0,j q7 (.append 10 Y12 false none) [t5,t6],m q2 t7] .ret))⟩
def c273 : AFunc := ⟨[q0,q1,q2],[.tmp q6],R [m q6 (.const v)]
 (R [m q9 t1,b q10 .geq t9 (n 2),m q11 t10,mt q12 t1 q11,mt q13 t0 q11,Gt q14 (.nilCheck t13) q11,Gt q15 (.fieldAddr 0 t14) q11,Gt q16 (.fieldAddr 0 t15) q11,Gt q17 (.load none t16) q11,Gt q18 (.bi (.len .slice) [t17]) q11,Gt q19 (.bin .lss t12 t18) q11,p q20 t11 t19 F,m q21 t20,mt q22 t0 q21,Gt q23 (.nilCheck t22) q21,Gt q24 (.fieldAddr 0 t23) q21,Gt q25 (.fieldAddr 1 t24) q21,Gt q26 (.load none t25) q21,mt q27 t1 q21,Gt q28 (.call (K 330) [t26,t27]) q21,Gt q29 (.un .not t28) q21,p q30 t21 t29 F,k q31 263 [t30,n 8]]
 (R [m q32 t0,O q33 (.nilCheck t32),f q34 0 t33,f q35 0 t34,L q36 t35,m q37 t1,a q38 none 10 t36 t37,l q39 10 t38,h q7 none Y12,s 10 t7 t39]
 (R [m q8 (n 2)]
 (Q (R [m q40 t2,b q41 .eql t40 (n 0)]
 (C t41
 (r [m q8 (n 1)]) .skip))
 (R [f q42 1 t7,L q43 t42,m q44 t1,b q45 .eql t43 t44,m q46 t45,Gt q47 (.fieldAddr 0 t7) q46,Gt q48 (.load none t47) q46,mt q49 t8 q46,Gt q50 (.bin .eql t48 t49) q46,p q51 t46 t50 F,m q52 t51,Gt q53 (.fieldAddr 4 t7) q52,Gt q54 (.load none t53) q52,mt q55 t2 q52,Gt q56 (.bin .eql t54 t55) q52,p q57 t52 t56 F,m q58 t57,Gt q59 (.load (some 10) t7) q58,Gt q60 (.call (K 331) [t59]) q58,Gt q61 (.bin .eql t60 (n 0)) q58,p q62 t58 t61 F,k q63 263 [t62,n 8]]
 (R [f q64 6 t7,L q65 t64,m q6 t65] .ret))))))⟩
def c274 : AFunc := ⟨[q0,q1],[],R [m q4 t0,m q5 t1,O q6 (.lookup w (.one .int) t4 t5 false),O q7 (.un .not t6),k q8 263 [t7,n 8]]
 (r [m q9 t0,m q10 t1,N (.mapUpdate (.one .int) t9 t10 T)])⟩
def c276 : AFunc := ⟨[q0],[.cell q2 (some 16)],R [h q2 none Y9]
 (R [m q4 t0,k q5 332 [t4],h q3 none Y4,s 32 t3 t5]
 (R [O q6 (.slice (.arr 16) 1 t2 none none none),O q7 (.slice (.arr 32) 1 t3 none none none),j q8 (.copy 1) [t6,t7]]
 (R [l q9 16 t2,s 16 t2 t9] .ret)))⟩
def c277 : AFunc := ⟨[q0],[.tmp q2,.tmp q3],R [m q2 (n 0),m q3 (S [])]
 (R [m q8 t0,k q9 333 [t8],m q7 t9,x q10 t7 0,x q11 t7 1,x q12 t7 2,m q4 t10,m q5 t11,m q6 t12]
 (R [m q13 t6,b q14 .eql t13 (n 0),m q15 t14,mt q16 t4 q15,Gt q17 (.bin .geq t16 (n 1)) q15,p q18 t15 t17 F,m q19 t18,mt q20 t4 q19,Gt q21 (.bin .leq t20 (n 1099511627776)) q19,p q22 t19 t21 F,k q23 203 [t22,n 8]]
 (R [m q24 t4,m q25 t0,m q26 t5,O q27 (.slice .str 1 t25 (some t26) none none),m q2 t24,m q3 t27] .ret)))⟩
def c278 : AFunc := ⟨[q0,q1],[.tmp q4],R [m q4 (.const v)]
 (R [m q8 t0,k q9 117 [t8],m q0 t9]
 (R [k q10 334 [],h q5 none Y1,s 35 t5 t10]
 (Q (R [m q11 t1,g q12 [t11],m q13 (n 0)] (.block 0 (.loop
 (R [b q14 .lss t13 t12]
 (Q (C t14 .skip (.exit 0))
 (Q (.block 1
 (R [a q15 none 8 t11 t13,l q16 8 t15,h q7 none [z,z,e,z,w,z,z,e],s 8 t7 t16]
 (r [f q17 0 t7,L q18 t17,a q19 (some 7) 5 t5 t18,f q20 4 t19,L q21 t20,m q22 t0,l q23 8 t7,O q24 (.call t21 [t22,t23]),m q0 t24])))
 (r [b q25 .add t13 (n 1),m q13 t25])))))))
 (R [m q26 t0,m q4 t26] .ret))))⟩
def c279 : AFunc := ⟨[q0],[.tmp q2],R [O q1 (.box none t0),m q2 (.const (.ptr none))]
 (R [l q6 4 t1,O q7 .makeMap,B q8 [e,z,v,v,.map none] [(0,4,t6),(4,1,t7)],O q9 (.box none t8),m q3 t9]
 (Q (R [f q10 3 t1,L q11 t10,g q12 [t11],m q13 (n 0)] (.block 0 (.loop
 (R [b q14 .lss t13 t12]
 (Q (C t14 .skip (.exit 0))
 (Q (.block 1
 (R [m q15 t13,a q16 none 1 t11 t13,L q17 t16,m q4 t15,m q5 t17]
 (r [m q18 t3,O q19 (.nilCheck t18),f q20 4 t19,L q21 t20,m q22 t5,m q23 t4,N (.mapUpdate (.one .int) t21 t22 t23)])))
 (r [b q24 .add t13 (n 1),m q13 t24])))))))
 (R [m q25 t3,m q2 t25] .ret)))⟩
def c280 : AFunc := ⟨[q0,q1,q2],[.tmp q6],R [m q6 (.const v)]
 (R [m q17 t2,k q18 277 [t17],m q16 t18,x q19 t16 0,x q20 t16 1,m q7 t19,m q8 t20]
 (R [m q21 t7,m q22 t0,O q23 (.nilCheck t22),f q24 0 t23,f q25 1 t24,L q26 t25,b q27 .eql t21 t26,m q28 t27,mt q29 t1 q28,Gt q30 (.bi (.len .str) [t29]) q28,Gt q31 (.bin .leq t30 (n 48)) q28,p q32 t28 t31 F,m q33 t32,mt q34 t2 q33,Gt q35 (.bi (.len .str) [t34]) q33,Gt q36 (.bin .leq t35 (n 4000)) q33,p q37 t33 t36 F,k q38 203 [t37,n 8]]
 (R [m q39 t0,m q40 t1,k q41 335 [t39,t40],m q9 t41]
 (R [m q10 (.const v)]
 (Q (R [m q42 t8,b q43 .neq t42 (S [])]
 (C t43
 (R [m q11 (n 0)]
 (R [m q45 t8,k q46 336 [t45,.const v],m q44 t46,x q47 t44 0,x q48 t44 1,m q10 t47,m q11 t48]
 (r [m q49 t11,b q50 .eql t49 (n 0),k q51 203 [t50,n 8]]))) .skip))
 (R [m q52 t9,g q53 [t52],m q54 t10,g q55 [t54],b q56 .add t53 t55,m q57 t0,O q58 (.nilCheck t57),f q59 0 t58,f q60 2 t59,L q61 t60,g q62 [t61],b q63 .eql t56 t62,k q64 203 [t63,n 8]]
 (R [m q65 t0,O q66 (.nilCheck t65),f q67 0 t66,f q68 2 t67,L q69 t68,g q70 [t69],O q71 (.makeSlice [z,z,e] t70 t70),m q12 t71]
 (Q (R [m q72 t12,g q73 [t72],m q74 (n 0)] (.block 0 (.loop
 (R [b q75 .lss t74 t73]
 (Q (C t75 .skip (.exit 0))
 (Q (.block 1
 (R [m q76 t74,m q13 t76]
 (Q (R [m q78 t0,O q79 (.nilCheck t78),f q80 4 t79,L q81 t80,m q82 t13,O q83 (.lookup z (.one .int) t81 t82 true),m q77 t83,x q84 t77 0,x q85 t77 1,m q14 t84,m q15 t85]
 (R [m q86 t15]
 (C t86
 (R [m q87 t12,m q88 t13,m q89 t9,m q90 t14,a q91 none 3 t89 t90,l q92 3 t91,a q93 none 3 t87 t88,s 3 t93 t92] (.exit 1)) .skip)))
 (R [m q94 t12,m q95 t13,m q96 t10,a q97 none 3 t96 (n 0),l q98 3 t97,a q99 none 3 t94 t95,s 3 t99 t98]
 (r [m q100 t10,O q101 (.slice .slice 3 t100 (some (n 1)) none none),m q10 t101])))))
 (r [b q102 .add t74 (n 1),m q74 t102])))))))
 (R [m q103 t0,m q104 t12,k q105 204 [t103,t104],m q106 t105,mt q107 t0 q106,mt q108 t12 q106,Gt q109 (.call (K 205) [t107,t108]) q106,mt q110 t1 q106,Gt q111 (.bin .eql t109 t110) q106,p q112 t106 t111 F,m q113 t112,mt q114 t0 q113,mt q115 t12 q113,Gt q116 (.call (K 337) [t114,t115]) q113,mt q117 t2 q113,Gt q118 (.bin .eql t116 t117) q113,p q119 t113 t118 F,k q120 203 [t119,n 8]]
 (R [m q121 t12,m q6 t121] .ret))))))))))⟩
def c281 : AFunc := ⟨[q0,q1,q2],[.tmp q6],R [m q6 (.const v)]
 (R [m q8 t1,O q9 (.convInt .u64 t8),m q7 t9]
 (Q (R [m q10 t1,b q11 .lss t10 (n 0)]
 (C t11
 (R [m q12 t0,O q13 (.buildSlice [y] 1 [(0,1,u 45)]),j q14 (.append 1 [y] false (some 5)) [t12,t13],m q0 t14]
 (r [m q15 t7,O q16 (.un .neg t15),m q7 t16])) .skip))
 (R [m q17 t0,m q18 t7,m q19 t2,k q20 338 [t17,t18,t19],m q6 t20] .ret)))⟩
def c282 : AFunc := ⟨[q0,q1],[.tmp q4],R [m q4 (n 0)]
 (Q (R [m q6 t0,g q7 [t6],m q8 (n 0)] (.block 0 (.loop
 (R [b q9 .lss t8 t7]
 (Q (C t9 .skip (.exit 0))
 (Q (.block 1
 (R [m q10 t8,m q5 t10]
 (R [m q11 t1,m q12 t0,m q13 t5,a q14 none 12 t12 t13,l q15 12 t14,O q16 (.call t11 [t15])]
 (C t16
 (R [m q17 t5,m q4 t17] .ret) .skip))))
 (r [b q18 .add t8 (n 1),m q8 t18])))))))
 (R [m q4 (n (-1))] .ret))⟩
def c283 : AFunc := ⟨[q0,q1,q2],[],R [O q3 (.box none t0)]
 (R [m q5 t1]
 (C t5
 (r [L q6 t2,l q7 3 t3,O q8 (.buildSlice [e,v,v] 1 [(0,3,t7)]),j q9 (.append 3 [e,v,v] false none) [t6,t8],s 1 t2 t9]) .skip))⟩
def c284 : AFunc := ⟨[q0,q1,q2],[.cell q6 (some 18)],R [O q4 (.box none t1),h q6 none Y8]
 (R [m q11 t2,k q12 339 [t11],k q13 35 [t12,n 2]]
 (Q (R [m q14 t2,g q15 [t14],m q16 (n 0)] (.block 0 (.loop
 (R [b q17 .lss t16 t15]
 (Q (C t17 .skip (.exit 0))
 (Q (.block 1
 (R [a q18 none 5 t14 t16,l q19 5 t18,h q8 none [e,w,w,e,e],s 5 t8 t19]
 (R [f q20 2 t8,L q21 t20,O q22 (.un .not t21)]
 (C t22
 (R [m q23 t0,l q24 18 t4,l q25 5 t8,k q26 340 [t23,t24,t25]]
 (r [m q27 t0,l q28 18 t4,f q29 0 t8,L q30 t29,k q31 197 [t27,t28,t30],s 18 t4 t31])) .skip))))
 (r [b q32 .add t16 (n 1),m q16 t32])))))))
 (Q (R [m q33 t2,g q34 [t33],m q35 (n 0)] (.block 2 (.loop
 (R [b q36 .lss t35 t34]
 (Q (C t36 .skip (.exit 2))
 (Q (.block 3
 (R [a q37 none 5 t33 t35,l q38 5 t37,h q10 none [e,w,w,e,e],s 5 t10 t38]
 (R [f q39 2 t10,L q40 t39]
 (C t40
 (R [m q41 t0,l q42 18 t4,l q43 5 t10,k q44 340 [t41,t42,t43]]
 (r [m q45 t0,l q46 18 t4,f q47 0 t10,L q48 t47,f q49 4 t10,L q50 t49,k q51 90 [t45,t46,t48,t50],s 18 t4 t51])) .skip))))
 (r [b q52 .add t35 (n 1),m q35 t52])))))))
 (R [l q53 18 t4,s 18 t6 t53] .ret))))⟩
def c285 : AFunc := ⟨[q0,q1],[.tmp q4],R [m q4 (.const v)]
 (R [h q5 none [v]]
 (R [m q6 t0,m q7 t1,O q8 (.makeFunc (.fn 343) [] [t5]),k q9 341 [t6,t7,K 342,t8]]
 (R [L q10 t5,m q4 t10] .ret)))⟩
def c286 : AFunc := ⟨[q0,q1,q2],[.cell q6 (some 6),.cell q7 (some 18),.cell q8 none],R [O q3 (.box none t0),O q4 (.box none t1),h q6 none Y15,h q7 none Y8,h q8 none [z]]
 (R [N (.defer (K 178) [t8])]
 (R [l q11 6 t3,l q12 18 t4,O q13 (.buildSlice Y8 1 [(0,18,t12)]),k q14 179 [t11,t13],m q9 t14]
 (R [m q15 t9,l q16 18 t4,m q17 t2,k q18 288 [t15,t16,t17],h q10 none Y7,s 22 t10 t18]
 (R [f q19 4 t10,L q20 t19,b q21 .eql t20 (n 0),k q22 263 [t21,n 10]]
 (R [m q23 t9,l q24 22 t10,k q25 264 [t23,t24]]
 (R [m q26 t9,l q27 18 t4,m q28 t2,k q29 344 [t26,t27,t28],s 18 t7 t29]
 (R [m q30 t9,O q31 (.nilCheck t30),f q32 0 t31,l q33 6 t32,l q34 18 t7,V (.store 6 t6 t33) [⟨q34,.load (some 18) t7,none⟩] [q34],s 18 t7 t34,s 1 t8 (n 0)] .ret)))))))⟩
def c287 : AFunc := ⟨[q0,q1],[.cell q4 none,.cell q5 none,.cell q6 none],R [O q2 (.box none t0),h q4 none [e],h q5 none [e],h q6 none [z]]
 (R [O q8 (.makeFunc (.fn 345) [] [t4,t5]),N (.defer (K 147) [t6,t8])]
 (R [l q9 4 t2,k q10 202 [t9],m q7 t10]
 (R [m q11 t7,m q12 t1,k q13 204 [t11,t12],k q14 203 [t13,n 10]]
 (R [m q15 t7,m q16 t1,k q17 205 [t15,t16],m q18 t7,m q19 t1,k q20 337 [t18,t19],s 1 t4 t17,s 1 t5 t20]
 (R [L q21 t4,j q22 (.len .str) [t21],b q23 .leq t22 (n 48),k q24 203 [t23,n 3]]
 (R [L q25 t5,j q26 (.len .str) [t25],b q27 .leq t26 (n 4000),k q28 203 [t27,n 3]]
 (R [L q29 t4,L q30 t5,V (.store 1 t4 t29) [⟨q30,.load none t5,none⟩] [q30],s 1 t5 t30,s 1 t6 (n 0)] .ret)))))))⟩
def c288 : AFunc := ⟨[q0,q1,q2],[.cell q6 (some 22)],R [O q4 (.box none t1),h q6 none Y7]
 (R [m q10 t0,l q11 18 t4,m q12 t2,k q13 262 [t10,t11,t12],m q9 t13,x q14 t9 0,x q15 t9 1,h q7 none Y7,s 22 t7 t14,m q8 t15]
 (R [m q16 t8,k q17 263 [t16,n 4]]
 (R [l q18 22 t7,s 22 t6 t18] .ret)))⟩
def c289 : AFunc := ⟨[q0],[.tmp q2],R [m q2 (S [])]
 (R [m q6 t0,k q7 317 [t6,.const v],m q5 t7,x q8 t5 0,x q9 t5 1,m q3 t8,m q4 t9]
 (R [m q10 t4,b q11 .eql t10 (n 0),k q12 203 [t11,n 10]]
 (R [m q13 t3,m q2 t13] .ret)))⟩
def c290 : AFunc := ⟨[q0,q1,q2,q3,q4],[],R [m q10 T]
 (R [m q11 T] (.block 0 (.loop (.block 1
 (R [m q21 t2,m q22 t1,b q23 .sub t21 t22,m q12 t23]
 (Q (R [m q24 t12,b q25 .leq t24 (n 12)]
 (C t25
 (R [m q26 t0,m q27 t1,m q28 t2,m q29 t4,k q30 346 [t26,t27,t28,t29]] .ret) .skip))
 (Q (R [m q31 t3,b q32 .eql t31 (n 0)]
 (C t32
 (R [m q33 t0,m q34 t1,m q35 t2,m q36 t4,k q37 347 [t33,t34,t35,t36]] .ret) .skip))
 (Q (R [m q38 t10,O q39 (.un .not t38)]
 (C t39
 (R [m q40 t0,m q41 t1,m q42 t2,m q43 t4,k q44 348 [t40,t41,t42,t43]]
 (r [m q45 t3,b q46 .sub t45 (n 1),m q3 t46])) .skip))
 (R [m q48 t0,m q49 t1,m q50 t2,m q51 t4,k q52 349 [t48,t49,t50,t51],m q47 t52,x q53 t47 0,x q54 t47 1,m q13 t53,m q14 t54]
 (Q (R [m q55 t14,b q56 .eql t55 (n 2)]
 (C t56
 (R [m q57 t0,m q58 t1,m q59 t2,m q60 t4,k q61 350 [t57,t58,t59,t60]]
 (R [m q62 t2,b q63 .sub t62 (n 1),m q64 t13,m q65 t1,b q66 .sub t64 t65,b q67 .sub t63 t66,m q13 t67]
 (r [m q14 (n 1)]))) .skip))
 (Q (R [m q68 t10,m q69 t68,mt q70 t11 q69,p q71 t69 t70 F,m q72 t71,mt q73 t14 q72,Gt q74 (.bin .eql t73 (n 1)) q72,p q75 t72 t74 F]
 (C t75
 (R [m q76 t0,m q77 t1,m q78 t2,m q79 t4,k q80 351 [t76,t77,t78,t79]]
 (C t80 .ret .skip)) .skip))
 (Q (R [m q81 t1,b q82 .gtr t81 (n 0),m q83 t82,mt q84 t4 q83,mt q85 t0 q83,mt q86 t1 q83,Gt q87 (.bin .sub t86 (n 1)) q83,Gt q88 (.indexAddr none 2 t85 t87) q83,Gt q89 (.load (some 2) t88) q83,mt q90 t0 q83,mt q91 t13 q83,Gt q92 (.indexAddr none 2 t90 t91) q83,Gt q93 (.load (some 2) t92) q83,Gt q94 (.call t84 [t89,t93]) q83,Gt q95 (.bin .lss t94 (n 0)) q83,Gt q96 (.un .not t95) q83,p q97 t83 t96 F]
 (C t97
 (R [m q98 t0,m q99 t1,m q100 t2,m q101 t13,m q102 t4,k q103 352 [t98,t99,t100,t101,t102],m q15 t103]
 (R [m q104 t15,m q1 t104] (.exit 1))) .skip))
 (R [m q106 t0,m q107 t1,m q108 t2,m q109 t13,m q110 t4,k q111 353 [t106,t107,t108,t109,t110],m q105 t111,x q112 t105 0,x q113 t105 1,m q16 t112,m q17 t113]
 (R [m q114 t17,m q11 t114]
 (R [m q115 t16,m q116 t1,b q117 .sub t115 t116,m q118 t2,m q119 t16,b q120 .sub t118 t119,m q18 t117,m q19 t120]
 (R [m q121 t12,b q122 .quo t121 (n 8),m q20 t122]
 (R [m q123 t18,m q124 t19,b q125 .lss t123 t124]
 (C t125
 (R [m q126 t18,m q127 t20,b q128 .geq t126 t127,m q10 t128]
 (R [m q129 t0,m q130 t1,m q131 t16,m q132 t3,m q133 t4,k q134 290 [t129,t130,t131,t132,t133]]
 (r [m q135 t16,b q136 .add t135 (n 1),m q1 t136])))
 (R [m q137 t19,m q138 t20,b q139 .geq t137 t138,m q10 t139]
 (R [m q140 t0,m q141 t16,b q142 .add t141 (n 1),m q143 t2,m q144 t3,m q145 t4,k q146 290 [t140,t142,t143,t144,t145]]
 (r [m q147 t16,m q2 t147])))))))))))))))))))))⟩
def c291 : AFunc := ⟨[q0],[.tmp q2],R [m q2 (n 0)]
 (Q (C F
 (R [m q3 t0,O q4 (.convInt .u32 t3),k q5 354 [t4],m q2 t5] .ret) .skip)
 (R [m q6 t0,k q7 355 [t6],m q2 t7] .ret))⟩
def c292 : AFunc := ⟨[q0,q1,q2],[.cell q6 (some 3),.cell q7 none],R [O q3 (.box none t0),h q6 none [z,z,e],h q7 none [z]]
 (R [O q9 (.makeFunc (.fn 356) [] [t6]),N (.defer (K 155) [t7,t9])]
 (R [k q10 157 [],m q8 t10]
 (R [m q11 t8,l q12 6 t3,k q13 159 [t11,t12],k q14 158 [t13,n 2]]
 (R [m q15 t1,k q16 357 [t15]]
 (R [m q17 t2,k q18 357 [t17]]
 (R [m q19 t8,m q20 t1,m q21 t2,B q22 [.ptr none,v,v] [(0,1,t19),(1,1,t20),(2,1,t21)],l q23 6 t3,k q24 358 [t22,t23],s 3 t6 t24,s 1 t7 (n 0)] .ret))))))⟩
def c295 : AFunc := ⟨[q0],[.tmp q2],R [O q1 (.box none t0),m q2 F]
 (R [h q3 none [z]]
 (R [O q4 (.makeFunc (.fn 360) [] [t3,t1]),O q5 (.call t4 [])]
 (R [L q6 t3,b q7 .eql t6 (n 0),m q2 t7] .ret)))⟩
def c296 : AFunc := ⟨[q0,q1],[],R [f q5 0 t1,l q6 4 t5,h q3 none Y17,s 4 t3 t6]
 (R [m q4 (n 0)] (.block 0 (.loop
 (Q (R [m q7 t0,m q8 t4,l q9 4 t3,O q10 (.call t7 [t8,t9]),m q11 t10,mt q12 t4 q11,Gt q13 (.fieldAddr 4 t1) q11,Gt q14 (.load none t13) q11,Gt q15 (.bi (.len .slice) [t14]) q11,Gt q16 (.bin .lss t12 t15) q11,p q17 t11 t16 F]
 (C t17 .skip (.exit 0)))
 (Q (.block 1
 (r [l q20 4 t3,f q22 4 t1,L q23 t22,m q24 t4,a q25 none 8 t23 t24,l q26 8 t25,W q21 (.call (K 279) [t20]) [⟨q26,.load (some 8) t25,none⟩,⟨q23,.load none t22,none⟩] [q26,q25,q24,q23,q22],k q27 297 [t21,t26],s 4 t3 t27]))
 (r [m q18 t4,b q19 .add t18 (n 1),m q4 t19]))))))⟩
def c298 : AFunc := ⟨[q0,q1],[.cell q3 (some 3)],R [h q3 none [z,z,e]]
 (R [L q4 t1,m q5 t0,a q6 none 3 t5 (n 0),l q7 3 t6,m q8 t0,a q9 none 3 t8 (n 1),l q10 3 t9,W q11 (.call (K 299) [t7,t10]) [⟨q4,.load none t1,none⟩] [q4],O q12 (.call t4 [t11]),k q13 237 [t12],s 3 t3 t13] .ret)⟩
def c299 : AFunc := ⟨[q0,q1],[.tmp q4],R [O q2 (.box none t0),O q3 (.box none t1),m q4 (n 0)]
 (R [f q5 0 t2,L q6 t5,f q7 0 t3,L q8 t7,f q10 1 t2,L q11 t10,f q12 1 t3,L q13 t12,f q15 2 t2,L q16 t15,f q17 2 t3,L q18 t17,W q9 (.call (K 363) [t6,t8]) [⟨q18,.load none t17,none⟩,⟨q16,.load none t15,none⟩,⟨q13,.load none t12,none⟩,⟨q11,.load none t10,none⟩] [q18,q17,q16,q15,q13,q12,q11,q10],W q14 (.call (K 363) [t11,t13]) [⟨q18,.load none t17,none⟩,⟨q16,.load none t15,none⟩] [q18,q17,q16,q15],k q19 39 [t16,t18],O q20 (.buildSlice [z,z,z] 3 [(0,1,t9),(1,1,t14),(2,1,t19)]),k q21 212 [t20],m q4 t21] .ret)⟩
def c300 : AFunc := ⟨[q0,q1],[.tmp q4,.tmp q5],R [m q4 (n 0),m q5 I]
 (R [m q6 t0,k q7 364 [t6]]
 (R [m q8 t0,m q9 t0,O q10 (.nilCheck t9),f q11 1 t10,L q12 t11,m q13 t1,j q14 (.append 1 [y] false (some 5)) [t12,t13],O q15 (.nilCheck t8),f q16 1 t15,s 1 t16 t14]
 (R [m q17 t1,j q18 (.len .str) [t17],m q4 t18,m q5 I] .ret)))⟩
def c303 : AFunc := ⟨[q0],[.tmp q2],R [m q2 (S [])]
 (R [m q3 t0,O q4 (.nilCheck t3),f q5 1 t4,L q6 t5,j q7 .unsafeSliceData [t6],m q8 t0,O q9 (.nilCheck t8),f q10 1 t9,L q11 t10,g q12 [t11],j q13 (.unsafeString [5,6,693,694]) [t7,t12],m q2 t13] .ret)⟩
def c310 : AFunc := ⟨[],[.cell q0 (some 12)],R [h q0 none Y2]
 (R [B q1 [.nilFunc,.nilFunc,.nilFunc] [(0,1,K 377),(1,1,K 378),(2,1,K 379)],B q2 [.nilFunc,.nilFunc,.nilFunc] [(0,1,K 380),(1,1,K 381),(2,1,K 383)],B q3 [.nilFunc,.nilFunc,.nilFunc] [(0,1,K 386),(1,1,K 387),(2,1,K 389)],B q4 [.nilFunc,.nilFunc,.nilFunc] [(0,1,K 391),(1,1,K 392),(2,1,K 394)],B q5 Y2 [(0,3,t1),(3,3,t2),(6,3,t3),(9,3,t4)],s 12 t0 t5] .ret)⟩
def c311 : AFunc := ⟨[q0,q1,q2],[],Q
 (R [l q11 11 t1,k q12 86 [t11],m q13 t12,Gt q14 (.fieldAddr 3 t1) q13,Gt q15 (.load (some 6) t14) q13,Gt q16 (.load none t2) q13,Gt q17 (.call (K 313) [t15,t16,.const v]) q13,Gt q18 (.extract t17 0) q13,Gt q19 (.extract t17 1) q13,Gt q20 (.call (K 312) [t18,t19]) q13,Gt q21 (.un .not t20) q13,p q22 t13 t21 F]
 (C t22 .ret .skip))
 (R [m q4 (.const v)]
 (Q (R [f q23 2 t1,L q24 t23,g q25 [t24],m q26 (n 0)] (.block 0 (.loop
 (R [b q27 .lss t26 t25]
 (Q (C t27 .skip (.exit 0))
 (Q (.block 1
 (R [a q28 none 6 t24 t26,l q29 6 t28,h q6 none Y14,s 6 t6 t29]
 (r [m q30 t4,l q31 6 t6,L q32 t2,k q33 292 [t31,t32,.const v],x q34 t33 0,x q35 t33 1,k q36 314 [t34,t35],O q37 (.buildSlice [z,z,e] 1 [(0,3,t36)]),j q38 (.append 3 [z,z,e] false none) [t30,t37],m q4 t38])))
 (r [b q39 .add t26 (n 1),m q26 t39])))))))
 (Q (R [f q40 10 t1,L q41 t40,O q42 (.un .not t41)]
 (C t42
 (R [m q43 t0,m q44 t4,O q45 (.call t43 [t44])] .ret) .skip))
 (Q (R [m q46 t4,a q47 none 3 t46 (n 0),f q48 0 t47,L q49 t48,b q50 .eql t49 (n 0)]
 (C t50 .ret .skip))
 (R [m q51 t4,a q52 none 3 t51 (n 0),f q53 2 t52,L q54 t53,k q55 315 [t54],m q7 t55]
 (R [m q56 t7,g q57 [t56],b q58 .leq t57 (n 40),k q59 35 [t58,n 3]]
 (R [m q60 t7,g q61 [t60],m q62 (n 0)] (.block 2 (.loop
 (R [b q63 .lss t62 t61]
 (Q (C t63 .skip (.exit 2))
 (Q (.block 3
 (R [a q64 none 1 t60 t62,L q65 t64,m q9 t65]
 (R [m q66 t4,k q67 316 [t66],m q10 t67]
 (R [m q68 t10,m q69 t9,B q70 [z,z,e] [(0,1,n 3),(2,1,t69)],a q71 none 3 t68 (n 0),s 3 t71 t70]
 (R [m q72 t0,m q73 t10,O q74 (.call t72 [t73]),O q75 (.un .not t74)]
 (C t75 .ret .skip))))))
 (r [b q76 .add t62 (n 1),m q62 t76])))))))))))))⟩
def c314 : AFunc := ⟨[q0,q1],[.cell q4 (some 3)],R [O q2 (.box none t0),h q4 none [z,z,e]]
 (R [m q5 t1,b q6 .eql t5 (n 0),m q7 t1,k q8 35 [t6,t7]]
 (R [l q9 3 t2,s 3 t4 t9] .ret))⟩
def c317 : AFunc := ⟨[q0,q1],[.tmp q4,.tmp q5],R [m q4 (S []),m q5 (n 0)]
 (R [h q6 (some 390) [.ptr none,v]]
 (Q (R [m q11 t0,g q12 [t11],m q13 (n 0)] (.block 0 (.loop
 (R [b q14 .lss t13 t12]
 (Q (C t14 .skip (.exit 0))
 (Q (.block 1
 (R [m q15 t13,a q16 none 3 t11 t13,l q17 3 t16,h q8 none [z,z,e],m q7 t15,s 3 t8 t17]
 (Q (R [l q18 3 t8,k q19 252 [t18],m q9 t19]
 (R [m q20 t9,b q21 .neq t20 (n 0)]
 (C t21
 (R [m q22 t9,m q4 (S []),m q5 t22] .ret) .skip)))
 (R [f q23 0 t8,L q24 t23,b q25 .add t24 (n 1),O q26 (.convInt .u64 t25),f q29 0 t8,L q30 t29,l q33 3 t8,W q27 (.call (K 382) [t26,n 1]) [⟨q33,.load (some 3) t8,none⟩,⟨q30,.load none t29,none⟩] [q33,q30,q29],W q28 (.call (K 310) []) [⟨q33,.load (some 3) t8,none⟩,⟨q30,.load none t29,none⟩] [q33,q30,q29],O q31 (.indexArr 4 (some 3) 3 t28 t30),O q32 (.field 1 none t31),O q34 (.call t32 [t33]),b q35 .add t27 t34,m q10 t35]
 (Q (R [m q36 t1,m q37 t7,k q38 401 [t36,t37]]
 (C t38
 (r [m q39 t10,k q40 402 [t39],m q10 t40]) .skip))
 (r [m q41 t10,k q42 300 [t6,t41]]))))))
 (r [b q43 .add t13 (n 1),m q13 t43])))))))
 (R [k q44 303 [t6],m q4 t44,m q5 (n 0)] .ret)))⟩
def c318 : AFunc := ⟨[q0,q1],[.tmp q4],R [m q4 (n 0)]
 (Q (R [m q6 t0,g q7 [t6],m q8 (n 0)] (.block 0 (.loop
 (R [b q9 .lss t8 t7]
 (Q (C t9 .skip (.exit 0))
 (Q (.block 1
 (R [m q10 t8,m q5 t10]
 (R [m q11 t1,m q12 t0,m q13 t5,a q14 none 3 t12 t13,l q15 3 t14,O q16 (.call t11 [t15])]
 (C t16
 (R [m q17 t5,m q4 t17] .ret) .skip))))
 (r [b q18 .add t8 (n 1),m q8 t18])))))))
 (R [m q4 (n (-1))] .ret))⟩
def c319 : AFunc := ⟨[q0],[.tmp q2],R [m q2 F]
 (R [m q3 t0,j q4 (.len .str) [t3],b q5 .geq t4 (n 1),m q6 t5,mt q7 t0 q6,Gt q8 (.bi (.len .str) [t7]) q6,Gt q9 (.bin .leq t8 (n 48)) q6,p q10 t6 t9 F,m q2 t10] .ret)⟩
def c320 : AFunc := ⟨[q0,q1,q2],[.tmp q6],R [O q3 (.box none t0),O q4 (.box none t1),O q5 (.box none t2),m q6 (.const .nilFunc)]
 (R [O q7 (.makeFunc (.fn 403) [] [t4,t3,t5]),m q6 t7] .ret)⟩
def c321 : AFunc := ⟨[q0,q1],[.tmp q4,.tmp q5],R [O q3 (.box none t1),m q4 (n 0),m q5 F]
 (R [m q7 t0,O q8 (.makeFunc (.fn 406) [] [t3]),k q9 405 [t7,t8],m q6 t9]
 (R [m q10 t6,m q11 t6,m q12 t0,g q13 [t12],b q14 .lss t11 t13,m q15 t14,mt q16 t0 q15,mt q17 t6 q15,Gt q18 (.indexAddr none 22 t16 t17) q15,Gt q19 (.fieldAddr 0 t18) q15,Gt q20 (.load none t19) q15,Gt q21 (.load none t3) q15,Gt q22 (.bin .eql t20 t21) q15,p q23 t15 t22 F,m q4 t10,m q5 t23] .ret))⟩
def c322 : AFunc := ⟨[q0,q1],[],Q
 (R [m q4 t0,O q5 (.nilCheck t4),f q6 0 t5,f q7 2 t6,L q8 t7,m q9 t1,k q10 330 [t8,t9],O q11 (.un .not t10)]
 (C t11
 (R [m q12 t0,m q13 t0,O q14 (.nilCheck t13),f q15 0 t14,f q16 3 t15,L q17 t16,m q18 t1,k q19 407 [t17,t18],O q20 (.nilCheck t12),f q21 0 t20,f q22 3 t21,s 1 t22 t19] .ret) .skip))
 (R [m q23 t0,m q24 t0,O q25 (.nilCheck t24),f q26 0 t25,f q27 2 t26,L q28 t27,m q29 t1,k q30 408 [t28,t29],O q31 (.nilCheck t23),f q32 0 t31,f q33 2 t32,s 1 t33 t30]
 (R [m q34 t0,m q35 t0,O q36 (.nilCheck t35),f q37 0 t36,f q38 1 t37,L q39 t38,m q40 t1,k q41 407 [t39,t40],O q42 (.nilCheck t34),f q43 0 t42,f q44 1 t43,s 1 t44 t41]
 (r [m q45 t0,O q46 (.nilCheck t45),f q47 0 t46,f q48 0 t47,L q49 t48,m q50 t1,B q51 Y12 [],a q52 none 10 t49 t50,s 10 t52 t51])))⟩
def c323 : AFunc := ⟨[q0],[.tmp q2],R [m q2 (.const v)]
 (R [m q3 t0,k q4 409 [.const v,t3],m q2 t4] .ret)⟩
def c324 : AFunc := ⟨[q0,q1,q2,q3],[.cell q8 (some 18)],R [h q8 none Y8]
 (Q (.block 0
 (R [m q15 t1,g q16 [t15],b q17 .eql t16 (n 0),m q14 t17]
 (C t14
 (Q (R [m q18 t2,b q19 .neq t18 (n 0)]
 (C t19
 (r [m q20 t0,m q21 t2,k q22 322 [t20,t21]]) .skip))
 (R [B q23 Y8 [],s 18 t8 t23] .ret))
 (R [m q25 t3,b q26 .gtr t25 (n 0),m q27 t26,mt q28 t1 q27,Gt q29 (.bi (.len .slice) [t28]) q27,Gt q30 (.bin .eql t29 (n 1)) q27,p q31 t27 t30 F,m q24 t31]
 (C t24
 (R [m q32 t0,m q33 t2,k q34 322 [t32,t33]]
 (R [m q35 t0,m q36 t1,a q37 none 22 t36 (n 0),f q38 4 t37,L q39 t38,m q40 t3,b q41 .sub t40 (n 1),k q42 273 [t35,t39,t41],m q9 t42]
 (R [m q43 t9,m q44 t0,m q45 t9,m q46 t1,a q47 none 22 t46 (n 0),f q48 4 t47,L q49 t48,m q50 t3,b q51 .sub t50 (n 1),k q52 411 [t44,t45,t49,t51,T],m q53 t3,b q54 .sub t53 (n 1),k q55 410 [t43,t52,t54],s 18 t8 t55] .ret))) .skip)))))
 (R [m q57 t1,m q58 t3,k q59 412 [t57,t58],m q56 t59,x q60 t56 0,x q61 t56 1,m q10 t60,m q11 t61]
 (Q (R [m q62 t10,g q63 [t62],b q64 .eql t63 (n 1)]
 (C t64
 (R [m q65 t1,m q66 t0,m q67 t1,m q68 t2,m q69 t3,k q70 411 [t66,t67,t68,t69,T],m q71 t3,k q72 410 [t65,t70,t71],s 18 t8 t72] .ret) .skip))
 (R [m q73 t0,m q74 t10,m q75 t2,O q76 (.buildSlice [z] 1 [(0,1,t75)]),m q77 t3,k q78 413 [t73,t74,t76,t77],m q12 t78]
 (Q (R [m q79 t11,g q80 [t79],m q81 (n 0)] (.block 1 (.loop
 (R [b q82 .lss t81 t80]
 (Q (C t82 .skip (.exit 1))
 (Q (.block 2
 (R [m q83 t81,m q13 t83]
 (r [m q84 t12,m q85 t13,b q86 .add t85 (n 1),m q87 t11,m q88 t13,a q89 none 1 t87 t88,L q90 t89,a q91 none 22 t84 t86,f q92 0 t91,s 1 t92 t90])))
 (r [b q93 .add t81 (n 1),m q81 t93])))))))
 (R [m q94 t0,m q95 t12,m q96 t3,b q97 .add t96 (n 1),k q98 324 [t94,t95,n 0,t97],s 18 t8 t98] .ret))))))⟩
def c325 : AFunc := ⟨[q0,q1,q2],[.cell q6 (some 18)],R [h q6 none Y8]
 (Q (R [m q8 t1,g q9 [t8],b q10 .sub t9 (n 1),m q7 t10] (.block 0 (.loop
 (Q (R [m q11 t7,b q12 .gtr t11 (n 0)]
 (C t12 .skip (.exit 0)))
 (Q (.block 1
 (r [m q15 t0,m q16 t1,m q17 t7,a q18 none 4 t16 t17,l q19 4 t18,m q20 t2,m q21 t1,m q22 t7,b q23 .sub t22 (n 1),a q24 none 4 t21 t23,l q25 4 t24,k q26 414 [t15,t19,t20,t25],m q2 t26]))
 (r [m q13 t7,b q14 .sub t13 (n 1),m q7 t14]))))))
 (R [m q27 t0,m q28 t2,m q29 t1,a q30 none 4 t29 (n 0),f q31 0 t30,L q32 t31,m q33 t1,a q34 none 4 t33 (n 0),f q35 1 t34,L q36 t35,k q37 324 [t27,t28,t32,t36],s 18 t6 t37] .ret))⟩
def c326 : AFunc := ⟨[q0,q1],[.tmp q4],R [O q3 (.box none t1),m q4 (.const v)]
 (R [m q8 t0,k q9 415 [t8],m q5 t9]
 (R [m q11 t0,f q12 0 t3,L q13 t12,k q14 321 [t11,t13],m q10 t14,x q15 t10 0,x q16 t10 1,m q6 t15,m q7 t16]
 (Q (R [m q17 t7]
 (C t17
 (R [m q18 t5,m q19 t6,l q20 22 t3,a q21 none 22 t18 t19,s 22 t21 t20]
 (R [m q22 t5,m q4 t22] .ret)) .skip))
 (R [m q23 t5,m q24 t6,l q25 22 t3,O q26 (.buildSlice Y7 1 [(0,22,t25)]),k q27 416 [t23,t24,t26],m q4 t27] .ret))))⟩
def c328 : AFunc := ⟨[q0],[.tmp q2],R [m q2 (n 0)]
 (R [m q4 t0,O q5 (.nilCheck t4),f q6 0 t5,f q7 0 t6,L q8 t7,g q9 [t8],m q3 t9]
 (Q (R [m q10 t0,O q11 (.nilCheck t10),f q12 0 t11,f q13 1 t12,L q14 t13,g q15 [t14],b q16 .gtr t15 (n 0)]
 (C t16
 (R [m q17 t0,O q18 (.nilCheck t17),f q19 0 t18,f q20 1 t19,L q21 t20,a q22 none 1 t21 (n 0),L q23 t22,m q3 t23]
 (r [m q24 t0,m q25 t0,O q26 (.nilCheck t25),f q27 0 t26,f q28 1 t27,L q29 t28,O q30 (.slice .slice 1 t29 (some (n 1)) none none),k q31 79 [t30],O q32 (.nilCheck t24),f q33 0 t32,f q34 1 t33,s 1 t34 t31]))
 (R [m q35 t3,b q36 .lss t35 (n 4096),k q37 263 [t36,n 7]]
 (r [m q38 t0,m q39 t0,O q40 (.nilCheck t39),f q41 0 t40,f q42 0 t41,L q43 t42,B q44 Y12 [],O q45 (.buildSlice Y12 1 [(0,10,t44)]),j q46 (.append 10 Y12 false none) [t43,t45],O q47 (.nilCheck t38),f q48 0 t47,f q49 0 t48,s 1 t49 t46]))))
 (R [m q50 t0,m q51 t0,O q52 (.nilCheck t51),f q53 0 t52,f q54 2 t53,L q55 t54,m q56 t3,k q57 407 [t55,t56],O q58 (.nilCheck t50),f q59 0 t58,f q60 2 t59,s 1 t60 t57]
 (R [m q61 t3,m q2 t61] .ret))))⟩
def c330 : AFunc := ⟨[q0,q1],[.tmp q4],R [m q4 F]
 (R [m q8 t0,m q9 t1,k q10 423 [t8,t9],m q7 t10,x q11 t7 0,x q12 t7 1,m q5 t11,m q6 t12]
 (R [m q13 t6,m q4 t13] .ret))⟩
def c331 : AFunc := ⟨[q0],[.tmp q2],R [O q1 (.box none t0),m q2 (n 0)]
 (Q (R [f q4 1 t1,L q5 t4,k q6 424 [t5],O q7 (.un .not t6),m q8 t7,Gf q9 (.fieldAddr 2 t1) q8,Gf q10 (.load none t9) q8,Gf q11 (.call (K 417) [t10,n 0,n 1099511627776]) q8,Gf q12 (.un .not t11) q8,p q13 t8 T t12]
 (C t13
 (R [m q2 (n 2)] .ret) .skip))
 (R [m q3 F]
 (Q (R [f q14 0 t1,L q15 t14] (.block 0
 (Q (R [b q17 .eql t15 (n 1),m q16 t17]
 (C t16 .skip
 (r [b q18 .eql t15 (n 2),m q16 t18])))
 (C t16
 (r [f q19 3 t1,L q20 t19,k q21 417 [t20,n 0,n 255],m q22 t21,Gt q23 (.fieldAddr 0 t1) q22,Gt q24 (.load none t23) q22,Gt q25 (.bin .eql t24 (n 1)) q22,Gt q26 (.fieldAddr 4 t1) q22,Gt q27 (.load none t26) q22,Gt q28 (.bin .eql t27 (n 0)) q22,Gt q29 (.eql false (.one .bool) t25 t28) q22,p q30 t22 t29 F,m q31 t30,Gt q32 (.fieldAddr 6 t1) q31,Gt q33 (.load none t32) q31,Gt q34 (.fieldAddr 4 t1) q31,Gt q35 (.load none t34) q31,Gt q36 (.call (K 425) [t33,t35]) q31,p q37 t31 t36 F,m q38 t37,Gt q39 (.fieldAddr 7 t1) q38,Gt q40 (.load none t39) q38,Gt q41 (.bin .eql t40 (n 0)) q38,p q42 t38 t41 F,m q43 t42,Gt q44 (.fieldAddr 8 t1) q43,Gt q45 (.load none t44) q43,Gt q46 (.bin .eql t45 (S [])) q43,p q47 t43 t46 F,m q48 t47,Gt q49 (.fieldAddr 9 t1) q48,Gt q50 (.load none t49) q48,Gt q51 (.bi (.len .slice) [t50]) q48,Gt q52 (.bin .eql t51 (n 0)) q48,p q53 t48 t52 F,m q3 t53])
 (R [b q55 .eql t15 (n 3),m q54 t55]
 (C t54
 (r [l q56 10 t1,k q57 426 [t56],m q58 t57,Gt q59 (.fieldAddr 7 t1) q58,Gt q60 (.load none t59) q58,Gt q61 (.call (K 427) [t60]) q58,p q62 t58 t61 F,m q63 t62,Gt q64 (.fieldAddr 8 t1) q63,Gt q65 (.load none t64) q63,Gt q66 (.bi (.len .str) [t65]) q63,Gt q67 (.call (K 417) [t66,n 1,n 490]) q63,p q68 t63 t67 F,m q69 t68,Gt q70 (.fieldAddr 9 t1) q69,Gt q71 (.load none t70) q69,Gt q72 (.bi (.len .slice) [t71]) q69,Gt q73 (.bin .eql t72 (n 0)) q69,p q74 t69 t73 F,m q3 t74])
 (R [b q76 .eql t15 (n 4),m q75 t76]
 (C t75
 (r [l q77 10 t1,k q78 426 [t77],m q79 t78,Gt q80 (.fieldAddr 7 t1) q79,Gt q81 (.load none t80) q79,Gt q82 (.call (K 427) [t81]) q79,p q83 t79 t82 F,m q84 t83,Gt q85 (.fieldAddr 8 t1) q84,Gt q86 (.load none t85) q84,Gt q87 (.bin .eql t86 (S [])) q84,p q88 t84 t87 F,m q89 t88,Gt q90 (.fieldAddr 9 t1) q89,Gt q91 (.load none t90) q89,Gt q92 (.call (K 428) [t91]) q89,p q93 t89 t92 F,m q94 t93,Gt q95 (.fieldAddr 9 t1) q94,Gt q96 (.load none t95) q94,Gt q97 (.call (K 429) [t96]) q94,Gt q98 (.bin .leq t97 (n 496)) q94,p q99 t94 t98 F,m q3 t99]) .skip))))))))
 (Q (R [m q100 t3,O q101 (.un .not t100)]
 (C t101
 (R [m q2 (n 2)] .ret) .skip))
 (R [m q2 (n 0)] .ret)))))⟩
def c332 : AFunc := ⟨[q0],[.cell q2 (some 32)],R [h q2 none Y4]
 (R [k q7 430 [],m q6 t7,x q8 t6 0,x q9 t6 1,h q3 none Y3,h q4 none Y0,s 8 t3 t8,s 64 t4 t9]
 (R [l q10 8 t3,B q11 [.int .u32 0,.int .u32 0,.int .u32 0,.int .u32 0,.int .u32 0,.int .u32 0,.int .u32 0,.int .u32 0,e,z] [(0,8,t10)],l q12 64 t4,B q13 [.int .u32 0,.int .u32 0,.int .u32 0,.int .u32 0,.int .u32 0,.int .u32 0,.int .u32 0,.int .u32 0,e,z,.int .u32 0,.int .u32 0,.int .u32 0,.int .u32 0,.int .u32 0,.int .u32 0,.int .u32 0,.int .u32 0,.int .u32 0,.int .u32 0,.int .u32 0,.int .u32 0,.int .u32 0,.int .u32 0,.int .u32 0,.int .u32 0,.int .u32 0,.int .u32 0,.int .u32 0,.int .u32 0,.int .u32 0,.int .u32 0,.int .u32 0,.int .u32 0,.int .u32 0,.int .u32 0,.int .u32 0,.int .u32 0,.int .u32 0,.int .u32 0,.int .u32 0,.int .u32 0,.int .u32 0,.int .u32 0,.int .u32 0,.int .u32 0,.int .u32 0,.int .u32 0,.int .u32 0,.int .u32 0,.int .u32 0,.int .u32 0,.int .u32 0,.int .u32 0,.int .u32 0,.int .u32 0,.int .u32 0,.int .u32 0,.int .u32 0,.int .u32 0,.int .u32 0,.int .u32 0,.int .u32 0,.int .u32 0,.int .u32 0,.int .u32 0,.int .u32 0,.int .u32 0,.int .u32 0,.int .u32 0,.int .u32 0,.int .u32 0,.int .u32 0,.int .u32 0] [(0,10,t11),(10,64,t12)],O q14 (.box none t13),m q5 t14]
 (R [m q15 t5,m q16 t0,k q17 431 [t15,t16]]
 (R [m q18 t5,k q19 432 [t18],s 32 t2 t19] .ret))))⟩
def c333 : AFunc := ⟨[q0],[.tmp q2,.tmp q3,.tmp q4],R [m q2 (n 0),m q3 (n 0),m q4 (n 0)]
 (R [m q5 t0,k q6 433 [t5,K 434],x q7 t6 0,x q8 t6 1,x q9 t6 2,m q2 t7,m q3 t8,m q4 t9] .ret)⟩
def c334 : AFunc := ⟨[],[.cell q0 (some 35)],R [h q0 none Y1]
 (R [m q1 (K 435)]
 (R [m q2 (K 436)]
 (R [m q3 (K 437)]
 (R [h q4 none [.nilFunc],s 1 t4 (K 438)]
 (R [m q5 (K 439)]
 (R [m q6 t3,B q7 Y6 [(0,1,K 440),(1,1,K 441),(2,1,t6),(3,1,K 442),(4,1,K 443)],m q8 t1,m q9 t2,L q10 t4,B q11 Y6 [(0,1,t8),(1,1,t9),(2,1,t10),(3,1,K 444),(4,1,K 446)],m q12 t3,m q13 t5,B q14 Y6 [(0,1,K 448),(1,1,K 449),(2,1,t12),(3,1,K 450),(4,1,t13)],m q15 t1,m q16 t2,O q17 (.makeFunc (.fn 451) [] [t4]),m q18 t5,B q19 Y6 [(0,1,t15),(1,1,t16),(2,1,t17),(3,1,K 452),(4,1,t18)],m q20 t1,m q21 t2,O q22 (.makeFunc (.fn 453) [] [t4]),B q23 Y6 [(0,1,t20),(1,1,t21),(2,1,t22),(3,1,K 454),(4,1,K 457)],m q24 t3,m q25 t5,B q26 Y6 [(0,1,K 458),(1,1,K 459),(2,1,t24),(3,1,K 460),(4,1,t25)],B q27 Y1 [(5,5,t7),(10,5,t11),(15,5,t14),(20,5,t19),(25,5,t23),(30,5,t26)],s 35 t0 t27] .ret))))))⟩
def c335 : AFunc := ⟨[q0,q1],[.tmp q4],R [m q4 (.const v)]
 (R [m q10 t1,k q11 336 [t10,.const v],m q9 t11,x q12 t9 0,x q13 t9 1,m q5 t12,m q6 t13]
 (R [m q14 t6,b q15 .eql t14 (n 0),m q16 t15,mt q17 t5 q16,Gt q18 (.bi (.len .slice) [t17]) q16,mt q19 t0 q16,Gt q20 (.nilCheck t19) q16,Gt q21 (.fieldAddr 0 t20) q16,Gt q22 (.fieldAddr 3 t21) q16,Gt q23 (.load none t22) q16,Gt q24 (.bi (.len .slice) [t23]) q16,Gt q25 (.bin .eql t18 t24) q16,p q26 t16 t25 F,k q27 203 [t26,n 8]]
 (Q (R [m q28 t5,g q29 [t28],m q30 (n 0)] (.block 0 (.loop
 (R [b q31 .lss t30 t29]
 (Q (C t31 .skip (.exit 0))
 (Q (.block 1
 (R [m q32 t30,a q33 none 3 t28 t30,l q34 3 t33,h q8 none [z,z,e],m q7 t32,s 3 t8 t34]
 (r [m q35 t0,O q36 (.nilCheck t35),f q37 0 t36,f q38 2 t37,L q39 t38,m q40 t0,O q41 (.nilCheck t40),f q42 0 t41,f q43 3 t42,L q44 t43,m q45 t7,a q46 none 1 t44 t45,L q47 t46,a q48 none 6 t39 t47,l q49 6 t48,l q50 3 t8,k q51 216 [t49,t50],k q52 203 [t51,n 8]])))
 (r [b q53 .add t30 (n 1),m q30 t53])))))))
 (R [m q54 t5,k q55 289 [t54],m q56 t1,b q57 .eql t55 t56,k q58 203 [t57,n 8]]
 (R [m q59 t5,m q4 t59] .ret)))))⟩
def c336 : AFunc := ⟨[q0,q1],[.tmp q4,.tmp q5],R [O q3 (.box none t1),m q4 (.const v),m q5 (n 0)]
 (R [m q10 t0,O q11 (.makeFunc (.fn 462) [] [t3]),k q12 461 [t10,t11],m q9 t12,x q13 t9 0,x q14 t9 1,x q15 t9 2,m q6 t13,m q7 t14,m q8 t15]
 (R [m q16 t6,m q17 t8,m q4 t16,m q5 t17] .ret))⟩
def c337 : AFunc := ⟨[q0,q1],[.tmp q4],R [m q4 (S [])]
 (R [m q13 t0,O q14 (.nilCheck t13),f q15 0 t14,f q16 1 t15,L q17 t16,k q18 464 [t17],m q12 t18,x q19 t12 0,x q20 t12 1,m q5 t19,m q6 t20]
 (R [m q21 t6,b q22 .eql t21 (n 0),k q23 203 [t22,n 2]]
 (R [m q7 (.const v)]
 (Q (R [m q24 t1,g q25 [t24],m q26 (n 0)] (.block 0 (.loop
 (R [b q27 .lss t26 t25]
 (Q (C t27 .skip (.exit 0))
 (Q (.block 1
 (R [m q28 t26,a q29 none 3 t24 t26,l q30 3 t29,h q9 none [z,z,e],m q8 t28,s 3 t9 t30]
 (R [m q32 t0,O q33 (.nilCheck t32),f q34 4 t33,L q35 t34,m q36 t8,O q37 (.lookup z (.one .int) t35 t36 true),m q31 t37,x q38 t31 0,x q39 t31 1,m q10 t38,m q11 t39]
 (R [m q40 t11,O q41 (.un .not t40)]
 (C t41
 (r [m q42 t7,l q43 3 t9,O q44 (.buildSlice [z,z,e] 1 [(0,3,t43)]),j q45 (.append 3 [z,z,e] false none) [t42,t44],m q7 t45]) .skip)))))
 (r [b q46 .add t26 (n 1),m q26 t46])))))))
 (R [m q47 t5,m q48 t7,k q49 289 [t48],b q50 .add t47 t49,m q4 t50] .ret)))))⟩
def c338 : AFunc := ⟨[q0,q1,q2],[.tmp q6],R [m q6 (.const v)]
 (Q (R [m q9 t2,b q10 .eql t9 (n 10)]
 (C t10
 (Q (R [m q11 t1,b q12 .lss t11 (i .u64 100)]
 (C t12
 (R [m q13 t0,m q14 t1,O q15 (.convInt .i64 t14),k q16 465 [t15],j q17 (.append 1 [y] false (some 5)) [t13,t16],m q6 t17] .ret) .skip))
 (R [h q7 none [y,y,y,y,y,y,y,y,y,y,y,y,y,y,y,y,y,y,y,y,y,y,y,y]]
 (R [m q18 t1,k q19 466 [t18],m q8 t19]
 (R [m q20 t8,O q21 (.slice (.arr 24) 1 t7 none (some t20) none),m q22 t1,k q23 467 [t21,t22]]
 (R [m q24 t0,m q25 t8,O q26 (.slice (.arr 24) 1 t7 none (some t25) none),j q27 (.append 1 [y] false (some 5)) [t24,t26],m q6 t27] .ret))))) .skip))
 (R [m q29 t0,m q30 t1,m q31 t2,k q32 468 [t29,t30,t31,F,T],m q28 t32,x q33 t28 0,x q34 t28 1,m q0 t33]
 (R [m q35 t0,m q6 t35] .ret)))⟩
def c339 : AFunc := ⟨[q0],[.tmp q2],R [m q2 F]
 (Q (R [m q5 t0,g q6 [t5],b q7 .gtr t6 (n 4000)]
 (C t7
 (R [m q2 F] .ret) .skip))
 (Q (R [m q8 t0,g q9 [t8],m q10 (n 0)] (.block 0 (.loop
 (R [b q11 .lss t10 t9]
 (Q (C t11 .skip (.exit 0))
 (Q (.block 1
 (R [m q12 t10,a q13 none 5 t8 t10,l q14 5 t13,h q4 none [e,w,w,e,e],m q3 t12,s 5 t4 t14]
 (Q (R [f q15 0 t4,L q16 t15,j q17 (.len .str) [t16],b q18 .lss t17 (n 1),m q19 t18,Gf q20 (.fieldAddr 0 t4) q19,Gf q21 (.load none t20) q19,Gf q22 (.bi (.len .str) [t21]) q19,Gf q23 (.bin .gtr t22 (n 48)) q19,p q24 t19 T t23,m q25 t24,Gf q26 (.fieldAddr 1 t4) q25,Gf q27 (.load none t26) q25,Gf q28 (.un .not t27) q25,mf q29 t28 q25,Gt q30 (.fieldAddr 2 t4) q29,Gt q31 (.load none t30) q29,Gt q32 (.un .not t31) q29,Gf q33 (.pick t29 t32 F) q25,p q34 t25 T t33,m q35 t34,Gf q36 (.fieldAddr 1 t4) q35,Gf q37 (.load none t36) q35,Gf q38 (.un .not t37) q35,mf q39 t38 q35,Gt q40 (.fieldAddr 3 t4) q39,Gt q41 (.load none t40) q39,Gt q42 (.bin .neq t41 (S [])) q39,Gf q43 (.pick t39 t42 F) q35,p q44 t35 T t43,m q45 t44,Gf q46 (.fieldAddr 2 t4) q45,Gf q47 (.load none t46) q45,Gf q48 (.un .not t47) q45,mf q49 t48 q45,Gt q50 (.fieldAddr 4 t4) q49,Gt q51 (.load none t50) q49,Gt q52 (.bin .neq t51 (S [])) q49,Gf q53 (.pick t49 t52 F) q45,p q54 t45 T t53,m q55 t54,Gf q56 (.fieldAddr 3 t4) q55,Gf q57 (.load none t56) q55,Gf q58 (.bi (.len .str) [t57]) q55,Gf q59 (.bin .gtr t58 (n 4000)) q55,p q60 t55 T t59,m q61 t60,Gf q62 (.fieldAddr 4 t4) q61,Gf q63 (.load none t62) q61,Gf q64 (.bi (.len .str) [t63]) q61,Gf q65 (.bin .gtr t64 (n 4000)) q61,p q66 t61 T t65]
 (C t66
 (R [m q2 F] .ret) .skip))
 (R [f q67 1 t4,L q68 t67,m q69 t68,Gt q70 (.fieldAddr 2 t4) q69,Gt q71 (.load none t70) q69,p q72 t69 t71 F,m q73 t72,Gt q74 (.fieldAddr 3 t4) q73,Gt q75 (.load none t74) q73,Gt q76 (.fieldAddr 4 t4) q73,Gt q77 (.load none t76) q73,Gt q78 (.bin .eql t75 t77) q73,p q79 t73 t78 F,m q80 t79,mf q81 t3 q80,Gf q82 (.bin .gtr t81 (n 0)) q80,mf q83 t82 q80,mt q84 t0 q83,mt q85 t3 q83,Gt q86 (.bin .sub t85 (n 1)) q83,Gt q87 (.indexAddr none 5 t84 t86) q83,Gt q88 (.fieldAddr 0 t87) q83,Gt q89 (.load none t88) q83,Gt q90 (.fieldAddr 0 t4) q83,Gt q91 (.load none t90) q83,Gt q92 (.bin .geq t89 t91) q83,Gf q93 (.pick t83 t92 F) q80,p q94 t80 T t93]
 (C t94
 (R [m q2 F] .ret) .skip)))))
 (r [b q95 .add t10 (n 1),m q10 t95])))))))
 (R [m q2 T] .ret)))⟩
def c340 : AFunc := ⟨[q0,q1,q2],[],R [O q4 (.box none t1),O q5 (.box none t2)]
 (R [m q9 t0,O q10 (.nilCheck t9),f q11 0 t10,l q12 6 t11,l q13 18 t4,f q14 0 t5,L q15 t14,k q16 200 [t12,t13,t15],m q8 t16,x q17 t8 0,x q18 t8 1,m q6 t17,m q7 t18]
 (R [m q19 t7,b q20 .eql t19 (n 0),m q21 t20,mf q22 t7 q21,Gf q23 (.bin .eql t22 (n 4)) q21,p q24 t21 T t23,m q25 t7,k q26 35 [t24,t25]]
 (R [f q27 1 t5,L q28 t27]
 (C t28
 (r [m q29 t7,b q30 .eql t29 (n 0),m q31 t30,mt q32 t6 q31,Gt q33 (.fieldAddr 3 t5) q31,Gt q34 (.load none t33) q31,Gt q35 (.bin .eql t32 t34) q31,p q36 t31 t35 F,k q37 35 [t36,n 9]])
 (r [m q38 t7,b q39 .eql t38 (n 4),k q40 35 [t39,n 340]])))))⟩
def c341 : AFunc := ⟨[q0,q1,q2,q3],[],.block 0 (.loop
 (Q (R [m q12 t0,g q13 [t12],b q14 .gtr t13 (n 0),m q15 t14,mf q16 t1 q15,Gf q17 (.bi (.len .slice) [t16]) q15,Gf q18 (.bin .gtr t17 (n 0)) q15,p q19 t15 T t18]
 (C t19 .skip (.exit 0))) (.block 1
 (R [m q20 t0,g q21 [t20],j q22 .min [n 1,t21],m q23 t1,g q24 [t23],j q25 .min [n 1,t24],m q8 t22,m q9 t25]
 (Q (R [m q26 t8,b q27 .eql t26 (n 1),m q28 t27,mt q29 t9 q28,Gt q30 (.bin .eql t29 (n 1)) q28,p q31 t28 t30 F]
 (C t31
 (R [m q32 t2,m q33 t0,a q34 none 2 t33 (n 0),l q35 2 t34,m q37 t2,m q38 t1,a q39 none 2 t38 (n 0),l q40 2 t39,W q36 (.call t32 [t35]) [⟨q40,.load (some 2) t39,none⟩] [q40,q39,q38,q37],O q41 (.call t37 [t40]),k q42 39 [t36,t41],m q10 t42] (.block 2
 (R [m q44 t10,b q45 .lss t44 (n 0),m q43 t45]
 (C t43
 (r [m q9 (n 0)])
 (R [m q47 t10,b q48 .gtr t47 (n 0),m q46 t48]
 (C t46
 (r [m q8 (n 0)]) .skip)))))) .skip))
 (R [m q11 (S [])]
 (Q (R [m q49 t8,b q50 .eql t49 (n 1)]
 (C t50
 (r [m q51 t2,m q52 t0,a q53 none 2 t52 (n 0),l q54 2 t53,O q55 (.call t51 [t54]),m q11 t55])
 (r [m q56 t2,m q57 t1,a q58 none 2 t57 (n 0),l q59 2 t58,O q60 (.call t56 [t59]),m q11 t60])))
 (R [m q61 t3,m q62 t11,m q63 t0,m q64 t8,O q65 (.slice .slice 2 t63 none (some t64) none),m q66 t1,m q67 t9,O q68 (.slice .slice 2 t66 none (some t67) none),O q69 (.call t61 [t62,t65,t68])]
 (r [m q70 t0,m q71 t8,O q72 (.slice .slice 2 t70 (some t71) none none),m q73 t1,m q74 t9,O q75 (.slice .slice 2 t73 (some t74) none none),m q0 t72,m q1 t75])))))))))⟩
def c342 : AFunc := ⟨[q0],[.tmp q2],R [O q1 (.box none t0),m q2 (S [])]
 (R [f q3 0 t1,L q4 t3,m q2 t4] .ret)⟩
def c343 : AFunc := ⟨[q0,q1,q2,q3],[],R [m q8 t0,m q9 t1,g q10 [t9],b q11 .gtr t10 (n 0),m q12 t2,g q13 [t12],b q14 .gtr t13 (n 0),B q15 [e,w,w,e,e] [(0,1,t8),(1,1,t11),(2,1,t14)],h q7 none [e,w,w,e,e],s 5 t7 t15]
 (Q (R [f q16 1 t7,L q17 t16]
 (C t17
 (r [m q18 t1,a q19 none 2 t18 (n 0),f q20 1 t19,L q21 t20,f q22 3 t7,s 1 t22 t21]) .skip))
 (Q (R [f q23 2 t7,L q24 t23]
 (C t24
 (r [m q25 t2,a q26 none 2 t25 (n 0),f q27 1 t26,L q28 t27,f q29 4 t7,s 1 t29 t28]) .skip))
 (R [f q30 1 t7,L q31 t30,f q32 2 t7,L q33 t32,O q34 (.eql true (.one .bool) t31 t33),m q35 t34,Gf q36 (.fieldAddr 3 t7) q35,Gf q37 (.load none t36) q35,Gf q38 (.fieldAddr 4 t7) q35,Gf q39 (.load none t38) q35,Gf q40 (.bin .neq t37 t39) q35,p q41 t35 T t40]
 (C t41
 (r [L q42 t3,l q43 5 t7,O q44 (.buildSlice [e,w,w,e,e] 1 [(0,5,t43)]),j q45 (.append 5 [e,w,w,e,e] false none) [t42,t44],s 1 t3 t45]) .skip))))⟩
def c344 : AFunc := ⟨[q0,q1,q2],[.cell q6 (some 18)],R [O q4 (.box none t1),h q6 none Y8]
 (R [m q10 t0,l q11 18 t4,m q12 t2,k q13 320 [t10,t11,t12],k q14 323 [t13],m q7 t14]
 (R [m q16 t7,m q17 t7,g q18 [t17],b q19 .sub t18 (n 1),a q20 none 4 t16 t19,f q21 2 t20,L q22 t21,m q23 t2,k q24 469 [t22,t23],m q15 t24,x q25 t15 0,x q26 t15 1,m q8 t25,m q9 t26]
 (R [m q27 t0,m q28 t7,m q29 t8,k q30 325 [t27,t28,t29],s 18 t6 t30] .ret)))⟩
def c346 : AFunc := ⟨[q0,q1,q2,q3],[],R [m q10 t1,b q11 .add t10 (n 1),m q8 t11] (.block 0 (.loop
 (Q (R [m q12 t8,m q13 t2,b q14 .lss t12 t13]
 (C t14 .skip (.exit 0)))
 (Q (.block 1
 (R [m q17 t8,m q9 t17] (.block 2 (.loop
 (Q (R [m q18 t9,m q19 t1,b q20 .gtr t18 t19,m q21 t20,mt q22 t3 q21,mt q23 t0 q21,mt q24 t9 q21,Gt q25 (.indexAddr none 2 t23 t24) q21,Gt q26 (.load (some 2) t25) q21,mt q27 t0 q21,mt q28 t9 q21,Gt q29 (.bin .sub t28 (n 1)) q21,Gt q30 (.indexAddr none 2 t27 t29) q21,Gt q31 (.load (some 2) t30) q21,Gt q32 (.call t22 [t26,t31]) q21,Gt q33 (.bin .lss t32 (n 0)) q21,p q34 t21 t33 F]
 (C t34 .skip (.exit 2)))
 (Q (.block 3
 (r [m q37 t0,m q38 t9,m q39 t0,m q40 t9,b q41 .sub t40 (n 1),m q42 t0,m q43 t9,b q44 .sub t43 (n 1),a q45 none 2 t42 t44,l q46 2 t45,m q47 t0,m q48 t9,a q49 none 2 t47 t48,l q50 2 t49,a q51 none 2 t37 t38,E (.store 2 t51 t46) [q41,q40,q39],a q52 none 2 t39 t41,s 2 t52 t50]))
 (r [m q35 t9,b q36 .sub t35 (n 1),m q9 t36])))))))
 (r [m q15 t8,b q16 .add t15 (n 1),m q8 t16])))))⟩
def c355 : AFunc := ⟨[q0],[.tmp q2],R [m q2 (n 0)]
 (Q (R [m q3 t0,b q4 .geq t3 (i .u64 4294967296)]
 (C t4
 (R [m q5 t0,b q6 .shr t5 (i .u64 32),m q0 t6]
 (r [m q2 (n 32)])) .skip))
 (Q (R [m q7 t0,b q8 .geq t7 (i .u64 65536)]
 (C t8
 (R [m q9 t0,b q10 .shr t9 (i .u64 16),m q0 t10]
 (r [m q11 t2,b q12 .add t11 (n 16),m q2 t12])) .skip))
 (Q (R [m q13 t0,b q14 .geq t13 (i .u64 256)]
 (C t14
 (R [m q15 t0,b q16 .shr t15 (i .u64 8),m q0 t16]
 (r [m q17 t2,b q18 .add t17 (n 8),m q2 t18])) .skip))
 (R [m q19 t2,m q20 t0,O q21 (.convInt .u8 t20),O q22 (.indexStr (S [0,1,2,2,3,3,3,3,4,4,4,4,4,4,4,4,5,5,5,5,5,5,5,5,5,5,5,5,5,5,5,5,6,6,6,6,6,6,6,6,6,6,6,6,6,6,6,6,6,6,6,6,6,6,6,6,6,6,6,6,6,6,6,6,7,7,7,7,7,7,7,7,7,7,7,7,7,7,7,7,7,7,7,7,7,7,7,7,7,7,7,7,7,7,7,7,7,7,7,7,7,7,7,7,7,7,7,7,7,7,7,7,7,7,7,7,7,7,7,7,7,7,7,7,7,7,7,7,8,8,8,8,8,8,8,8,8,8,8,8,8,8,8,8,8,8,8,8,8,8,8,8,8,8,8,8,8,8,8,8,8,8,8,8,8,8,8,8,8,8,8,8,8,8,8,8,8,8,8,8,8,8,8,8,8,8,8,8,8,8,8,8,8,8,8,8,8,8,8,8,8,8,8,8,8,8,8,8,8,8,8,8,8,8,8,8,8,8,8,8,8,8,8,8,8,8,8,8,8,8,8,8,8,8,8,8,8,8,8,8,8,8,8,8,8,8,8,8,8,8,8,8,8,8,8,8]) t21),O q23 (.convInt .i64 t22),b q24 .add t19 t23,m q2 t24] .ret))))⟩
end A3.Y
namespace A3.Y
open Go
def c357 : AFunc := ⟨[q0],[],R [m q4 t0,g q5 [t4],m q6 (n 0)] (.block 0 (.loop
 (R [b q7 .lss t6 t5]
 (Q (C t7 .skip (.exit 0))
 (Q (.block 1
 (R [a q8 none 3 t4 t6,l q9 3 t8,h q3 none [z,z,e],s 3 t3 t9]
 (r [l q10 3 t3,k q11 252 [t10],b q12 .eql t11 (n 0),k q13 158 [t12,n 1]])))
 (r [b q14 .add t6 (n 1),m q6 t14]))))))⟩
def c358 : AFunc := ⟨[q0,q1],[.cell q4 (some 3)],R [O q2 (.box none t0),O q3 (.box none t1),h q4 none [z,z,e]]
 (Q (R [f q10 0 t3,L q11 t10] (.block 0
 (R [b q13 .eql t11 (n 1),m q12 t13]
 (C t12
 (R [f q14 2 t3,l q15 3 t14,s 3 t4 t15] .ret)
 (R [b q17 .eql t11 (n 2),m q16 t17]
 (C t16
 (R [f q18 1 t3,L q19 t18,f q20 1 t2,L q21 t20,g q22 [t21],b q23 .lss t19 t22,k q24 158 [t23,n 4]]
 (R [f q25 1 t2,L q26 t25,f q27 1 t3,L q28 t27,a q29 none 3 t26 t28,l q30 3 t29,s 3 t4 t30] .ret))
 (R [b q32 .eql t11 (n 3),m q31 t32]
 (C t31
 (R [f q33 1 t3,L q34 t33,f q35 2 t2,L q36 t35,g q37 [t36],b q38 .lss t34 t37,k q39 158 [t38,n 4]]
 (R [f q40 2 t2,L q41 t40,f q42 1 t3,L q43 t42,a q44 none 3 t41 t43,l q45 3 t44,s 3 t4 t45] .ret))
 (R [b q47 .eql t11 (n 16),m q46 t47]
 (C t46
 (R [l q48 3 t2,f q49 5 t3,L q50 t49,W q51 (.call (K 237) [F]) [⟨q50,.load none t49,none⟩,⟨q48,.load (some 3) t2,none⟩] [q50,q49,q48],W q52 (.call (K 237) [T]) [⟨q50,.load none t49,none⟩,⟨q48,.load (some 3) t2,none⟩] [q50,q49,q48],k q53 475 [t48,t50,t51,t52],s 3 t4 t53] .ret)
 (R [b q55 .eql t11 (n 17),m q54 t55]
 (C t54
 (R [l q56 3 t2,f q57 5 t3,L q58 t57,W q59 (.call (K 237) [T]) [⟨q58,.load none t57,none⟩,⟨q56,.load (some 3) t2,none⟩] [q58,q57,q56],W q60 (.call (K 237) [F]) [⟨q58,.load none t57,none⟩,⟨q56,.load (some 3) t2,none⟩] [q58,q57,q56],k q61 475 [t56,t58,t59,t60],s 3 t4 t61] .ret)
 (R [b q63 .eql t11 (n 19),m q62 t63]
 (C t62
 (R [l q64 3 t2,f q65 5 t3,L q66 t65,a q67 none 6 t66 (n 0),l q68 6 t67,k q69 358 [t64,t68],O q70 (.field 0 none t69),b q71 .eql t70 (n 0),k q72 237 [t71],s 3 t4 t72] .ret)
 (R [b q74 .eql t11 (n 20),m q73 t74]
 (C t73
 (R [f q75 5 t3,L q76 t75,g q77 [t76],b q78 .sub t77 (n 1),m q5 t78]
 (Q (R [m q6 (n 0)] (.block 1 (.loop
 (Q (R [m q79 t6,m q80 t5,b q81 .lss t79 t80]
 (C t81 .skip (.exit 1)))
 (Q (.block 2
 (R [l q84 3 t2,f q85 5 t3,L q86 t85,m q87 t6,a q88 none 6 t86 t87,l q89 6 t88,k q90 358 [t84,t89],k q91 397 [t90],k q92 237 [T],O q93 (.eql false (.agg [(0,.int),(1,.int),(2,.str)]) t91 t92)]
 (C t93
 (R [l q94 3 t2,f q95 5 t3,L q96 t95,m q97 t6,b q98 .add t97 (n 1),a q99 none 6 t96 t98,l q100 6 t99,k q101 358 [t94,t100],s 3 t4 t101] .ret) .skip)))
 (r [m q82 t6,b q83 .add t82 (n 2),m q6 t83]))))))
 (R [l q102 3 t2,f q103 5 t3,L q104 t103,m q105 t5,a q106 none 6 t104 t105,l q107 6 t106,k q108 358 [t102,t107],s 3 t4 t108] .ret)))
 (R [b q110 .eql t11 (n 21),m q109 t110]
 (C t109
 (Q (R [f q111 5 t3,L q112 t111,g q113 [t112],m q114 (n 0)] (.block 3 (.loop
 (R [b q115 .lss t114 t113]
 (Q (C t115 .skip (.exit 3))
 (Q (.block 4
 (R [a q116 none 6 t112 t114,l q117 6 t116,h q8 none Y14,s 6 t8 t117]
 (R [l q118 3 t2,l q119 6 t8,k q120 358 [t118,t119],h q9 none [z,z,e],s 3 t9 t120]
 (R [f q121 0 t9,L q122 t121,b q123 .neq t122 (n 0)]
 (C t123
 (R [l q124 3 t9,s 3 t4 t124] .ret) .skip)))))
 (r [b q125 .add t114 (n 1),m q114 t125])))))))
 (R [B q126 [z,z,e] [],s 3 t4 t126] .ret))
 (R [b q128 .eql t11 (n 22),m q127 t128]
 (C t127
 (R [l q129 3 t2,f q130 5 t3,L q131 t130,k q132 476 [t129,t131],s 3 t4 t132] .ret) .skip))))))))))))))))))))
 (R [l q133 3 t2,l q134 6 t3,k q135 477 [t133,t134],s 3 t4 t135] .ret))⟩
def c360 : AFunc := ⟨[q0,q1],[],R [N (.defer (K 147) [t0,K 361])]
 (R [l q2 5 t1,k q3 219 [t2]] (.block 0 (.rangeFunc t3 [q4,q5] .skip (.block 1 (.exit 1)))))⟩
def c363 : AFunc := ⟨[q0,q1],[.tmp q4],R [m q4 (n 0)]
 (R [m q7 t0,k q8 480 [t7],m q5 t8]
 (R [m q9 t1,k q10 480 [t9],m q6 t10]
 (Q (R [m q11 t5]
 (C t11
 (Q (R [m q12 t6]
 (C t12
 (R [m q4 (n 0)] .ret) .skip))
 (R [m q4 (n (-1))] .ret)) .skip))
 (Q (R [m q13 t6]
 (C t13
 (R [m q4 (n 1)] .ret) .skip))
 (Q (R [m q14 t0,m q15 t1,b q16 .lss t14 t15]
 (C t16
 (R [m q4 (n (-1))] .ret) .skip))
 (Q (R [m q17 t0,m q18 t1,b q19 .gtr t17 t18]
 (C t19
 (R [m q4 (n 1)] .ret) .skip))
 (R [m q4 (n 0)] .ret)))))))⟩
def c364 : AFunc := ⟨[q0],[],R [m q2 t0,O q3 (.nilCheck t2),f q4 0 t3,L q5 t4,O q6 (.eql false (.one .ptr) t5 (.const (.ptr none)))]
 (C t6
 (r [m q7 t0,m q8 t0,O q9 (.toUnsafe t8),k q10 481 [t9],O q11 (.fromUnsafe [(390,0,2),(678,0,2)] t10),O q12 (.nilCheck t7),f q13 0 t12,s 1 t13 t11])
 (R [m q14 t0,O q15 (.nilCheck t14),f q16 0 t15,L q17 t16,m q18 t0,O q19 (.eql true (.one .ptr) t17 t18)]
 (C t19 .bad .skip)))⟩
def c377 : AFunc := ⟨[q0],[.tmp q2],R [O q1 (.box none t0),m q2 F]
 (R [f q3 1 t1,L q4 t3,b q5 .eql t4 (n 0),m q6 t5,Gt q7 (.fieldAddr 2 t1) q6,Gt q8 (.load none t7) q6,Gt q9 (.bin .eql t8 (S [])) q6,p q10 t6 t9 F,m q2 t10] .ret)⟩
def c382 : AFunc := ⟨[q0,q1],[.tmp q4],R [m q4 (S [])]
 (R [m q7 t1,O q8 (.makeSlice [y] t7 t7),m q5 t8]
 (Q (R [m q9 t5,g q10 [t9],m q11 (n 0)] (.block 0 (.loop
 (R [b q12 .lss t11 t10]
 (Q (C t12 .skip (.exit 0))
 (Q (.block 1
 (R [m q13 t11,m q6 t13]
 (r [m q14 t5,m q15 t1,b q16 .sub t15 (n 1),m q17 t6,b q18 .sub t16 t17,m q19 t0,m q20 t6,b q21 .mul (n 8) t20,b q22 .shr t19 t21,O q23 (.convInt .u8 t22),a q24 none 1 t14 t18,s 1 t24 t23])))
 (r [b q25 .add t11 (n 1),m q11 t25])))))))
 (R [m q26 t5,O q27 (.convStr t26),m q4 t27] .ret)))⟩
def c384 : AFunc := ⟨[q0,q1],[.tmp q4],R [m q4 (S [])]
 (R [m q6 t1,m q7 t0,O q8 (.nilCheck t7),f q9 0 t8,f q10 0 t9,L q11 t10,j q12 (.len .str) [t11],b q13 .leq t6 t12,k q14 385 [t13]]
 (R [m q15 t0,O q16 (.nilCheck t15),f q17 0 t16,f q18 0 t17,L q19 t18,m q20 t1,O q21 (.slice .str 1 t19 none (some t20) none),m q5 t21]
 (R [m q22 t0,m q23 t0,O q24 (.nilCheck t23),f q25 0 t24,f q26 0 t25,L q27 t26,m q28 t1,O q29 (.slice .str 1 t27 (some t28) none none),O q30 (.nilCheck t22),f q31 0 t30,f q32 0 t31,s 1 t32 t29]
 (R [m q33 t5,m q4 t33] .ret))))⟩
def c385 : AFunc := ⟨[q0],[],R [m q2 t0,O q3 (.un .not t2)]
 (C t3
 (r [B q4 [z] [(0,1,n 2)],O q5 (.makeInterface 571 t4),N (.panic t5)]) .skip)⟩
def c386 : AFunc := ⟨[q0],[.tmp q2],R [O q1 (.box none t0),m q2 F]
 (R [f q3 2 t1,L q4 t3,b q5 .eql t4 (S []),m q2 t5] .ret)⟩
def c387 : AFunc := ⟨[q0],[.tmp q2],R [O q1 (.box none t0),m q2 (S [])]
 (R [f q3 1 t1,L q4 t3,k q5 388 [t4],m q2 t5] .ret)⟩
def c388 : AFunc := ⟨[q0],[.tmp q2],R [m q2 (S [])]
 (R [m q3 t0,O q4 (.convInt .u64 t3),b q5 .add t4 (i .u64 9223372036854775808),k q6 382 [t5,n 8],m q2 t6] .ret)⟩
def c389 : AFunc := ⟨[q0],[.cell q2 (some 3)],R [h q2 none [z,z,e]]
 (R [m q3 t0,k q4 390 [t3],B q5 [z,z,e] [(0,1,n 2),(1,1,t4)],s 3 t2 t5] .ret)⟩
def c390 : AFunc := ⟨[q0],[.tmp q2],R [m q2 (n 0)]
 (R [m q3 t0,k q4 384 [t3,n 8],k q5 496 [t4],b q6 .sub t5 (i .u64 9223372036854775808),O q7 (.convInt .i64 t6),m q2 t7] .ret)⟩
def c401 : AFunc := ⟨[q0,q1],[.tmp q4],R [m q4 F]
 (R [m q5 t1,m q6 t0,g q7 [t6],b q8 .lss t5 t7,m q9 t8,mt q10 t0 q9,mt q11 t1 q9,Gt q12 (.indexAddr none 1 t10 t11) q9,Gt q13 (.load none t12) q9,p q14 t9 t13 F,m q4 t14] .ret)⟩
def c403 : AFunc := ⟨[q0,q1,q2,q3],[],Q
 (R [f q8 0 t1,L q9 t8,b q10 .eql t9 (n 0)]
 (C t10 .ret .skip))
 (R [f q11 0 t1,L q12 t11,m q5 t12]
 (R [L q13 t2,O q14 (.nilCheck t13),f q15 0 t14,f q16 0 t15,L q17 t16,m q18 t5,a q19 none 10 t17 t18,f q20 4 t19,L q21 t20,m q6 t21] (.block 0 (.loop
 (Q (R [m q22 t6,b q23 .geq t22 (n 0)]
 (C t23 .skip (.exit 0)))
 (Q (.block 1
 (R [m q26 t5,m q27 t6,L q28 t2,m q29 t5,m q30 t6,k q31 273 [t28,t29,t30],B q32 [z,z,v,z] [(0,1,t26),(1,1,t27),(2,1,t31)],h q7 none [z,z,v,z],s 4 t7 t32]
 (Q (R [m q33 t6,b q34 .gtr t33 (n 0)]
 (C t34
 (R [f q35 2 t7,L q36 t35,L q37 t3,k q38 404 [t36,t37],f q39 3 t7,s 1 t39 t38]
 (r [f q40 2 t7,L q41 t40,f q42 3 t7,L q43 t42,a q44 none 22 t41 t43,f q45 4 t44,L q46 t45,m q5 t46])) .skip))
 (R [m q47 t0,l q48 4 t7,O q49 (.call t47 [t48]),O q50 (.un .not t49)]
 (C t50 .ret .skip)))))
 (r [m q24 t6,b q25 .sub t24 (n 1),m q6 t25])))))))⟩
def c405 : AFunc := ⟨[q0,q1],[.tmp q4],R [m q4 (n 0)]
 (R [m q8 t0,g q9 [t8],m q5 (n 0),m q6 t9]
 (Q (.block 0 (.loop
 (Q (R [m q10 t5,m q11 t6,b q12 .lss t10 t11]
 (C t12 .skip (.exit 0))) (.block 1
 (R [m q13 t5,m q14 t6,b q15 .add t13 t14,b q16 .quo t15 (n 2),m q7 t16]
 (R [m q17 t1,m q18 t0,m q19 t7,a q20 none 22 t18 t19,l q21 22 t20,O q22 (.call t17 [t21])]
 (C t22
 (r [m q23 t7,m q6 t23])
 (r [m q24 t7,b q25 .add t24 (n 1),m q5 t25]))))))))
 (R [m q26 t5,m q4 t26] .ret)))⟩
def c406 : AFunc := ⟨[q0,q1],[.tmp q3],R [O q2 (.box none t0),m q3 F]
 (R [f q4 0 t2,L q5 t4,L q6 t1,b q7 .geq t5 t6,m q3 t7] .ret)⟩
def c407 : AFunc := ⟨[q0,q1],[.tmp q4],R [m q4 (.const v)]
 (R [m q8 t0,m q9 t1,k q10 423 [t8,t9],m q7 t10,x q11 t7 0,x q12 t7 1,m q5 t11,m q6 t12]
 (Q (R [m q13 t6]
 (C t13
 (R [m q14 t0,m q4 t14] .ret) .skip))
 (R [m q15 t0,k q16 79 [t15],m q17 t5,m q18 t1,O q19 (.buildSlice [z] 1 [(0,1,t18)]),k q20 501 [t16,t17,t19],m q4 t20] .ret)))⟩
def c408 : AFunc := ⟨[q0,q1],[.tmp q4],R [m q4 (.const v)]
 (R [m q8 t0,m q9 t1,k q10 423 [t8,t9],m q7 t10,x q11 t7 0,x q12 t7 1,m q5 t11,m q6 t12]
 (Q (R [m q13 t6,O q14 (.un .not t13)]
 (C t14
 (R [m q15 t0,m q4 t15] .ret) .skip))
 (R [m q16 t0,k q17 79 [t16],m q18 t5,m q19 t5,b q20 .add t19 (n 1),k q21 502 [t17,t18,t20],m q4 t21] .ret)))⟩
def c409 : AFunc := ⟨[q0,q1],[.tmp q4],R [O q2 (.box none t0),m q4 (.const v)]
 (Q (R [m q6 t1] (.block 0 (.rangeFunc t6 [q7]
 (r [h q5 none [z,z,v,z],s 4 t5 t7]) (.block 1
 (r [L q8 t2,l q9 4 t5,O q10 (.buildSlice [z,z,v,z] 1 [(0,4,t9)]),j q11 (.append 4 [z,z,v,z] false none) [t8,t10],s 1 t2 t11])))))
 (R [L q12 t2,m q4 t12] .ret))⟩
def c410 : AFunc := ⟨[q0,q1,q2],[.cell q6 (some 18)],R [h q6 none Y8]
 (R [m q8 t0,m q9 t1,m q10 t2,k q11 503 [t8,t9,t10],h q7 none Y7,s 22 t7 t11]
 (R [m q12 t1,f q13 5 t7,L q14 t13,f q15 6 t7,l q16 16 t15,B q17 Y8 [(0,1,t12),(1,1,t14),(2,16,t16)],s 18 t6 t17] .ret))⟩
def c411 : AFunc := ⟨[q0,q1,q2,q3,q4],[.tmp q10],R [m q10 (n 0)]
 (R [m q13 t2,m q11 t13]
 (Q (R [m q14 t0,O q15 (.nilCheck t14),f q16 0 t15,f q17 2 t16,L q18 t17,m q19 t2,k q20 330 [t18,t19],O q21 (.un .not t20)]
 (C t21
 (R [m q22 t0,k q23 328 [t22],m q11 t23]
 (R [m q24 t2,b q25 .neq t24 (n 0)]
 (C t25
 (r [m q26 t0,m q27 t0,O q28 (.nilCheck t27),f q29 0 t28,f q30 3 t29,L q31 t30,m q32 t2,k q33 407 [t31,t32],O q34 (.nilCheck t26),f q35 0 t34,f q36 3 t35,s 1 t36 t33]) .skip))) .skip))
 (R [m q12 (n 2)]
 (Q (R [m q37 t3,b q38 .eql t37 (n 0)]
 (C t38
 (r [m q12 (n 1)]) .skip))
 (R [m q39 t0,O q40 (.nilCheck t39),f q41 0 t40,f q42 0 t41,L q43 t42,m q44 t11,m q45 t12,m q46 t11,m q47 t0,O q48 (.nilCheck t47),f q49 0 t48,f q50 4 t49,L q51 t50,m q52 t0,O q53 (.nilCheck t52),f q54 0 t53,f q55 5 t54,L q56 t55,m q57 t3,m q58 t4,m q59 t1,W q60 (.call (K 415) [t59]) [⟨q56,.load none t55,none⟩,⟨q51,.load none t50,none⟩,⟨q43,.load none t42,none⟩] [q58,q57,q56,q55,q54,q53,q52,q51,q50,q49,q48,q47,q46,q45,q44,q43,q42,q41,q40,q39],B q61 Y12 [(0,1,t45),(1,1,t46),(2,1,t51),(3,1,t56),(4,1,t57),(5,1,t58),(6,1,t60)],a q62 none 10 t43 t44,s 10 t62 t61]
 (R [m q63 t11,m q10 t63] .ret))))))⟩
def c412 : AFunc := ⟨[q0,q1],[.tmp q4,.tmp q5],R [m q4 (.const v),m q5 (.const v)]
 (R [m q9 t0,m q10 t1,k q11 504 [t9,t10],k q12 263 [t11,n 8]]
 (R [m q14 t0,m q15 t1,k q16 505 [t14,t15],m q13 t16,x q17 t13 0,x q18 t13 1,x q19 t13 2,m q6 t17,m q7 t18,m q8 t19]
 (R [m q20 t8,b q21 .eql t20 (n 0),k q22 263 [t21,n 8]]
 (R [m q23 t6,m q24 t7,m q4 t23,m q5 t24] .ret))))⟩
def c415 : AFunc := ⟨[q0],[.tmp q2],R [m q2 (.const v)]
 (Q (R [m q3 t0,O q4 (.eql false (.one .slice) t3 (.const v))]
 (C t4
 (R [m q2 (.const v)] .ret) .skip))
 (R [O q5 (.buildSlice [] 0 []),m q6 t0,j q7 (.append 22 Y7 false none) [t5,t6],m q2 t7] .ret))⟩
def c416 : AFunc := ⟨[q0,q1,q2],[.tmp q6],R [m q6 (.const v)]
 (R [m q10 t0,m q11 t1,O q12 (.slice .slice 22 t10 (some t11) none none)]
 (R [m q13 t2,g q14 [t13],m q7 t14]
 (Q (R [m q15 t7,b q16 .eql t15 (n 0)]
 (C t16
 (R [m q17 t0,m q6 t17] .ret) .skip))
 (R [m q18 t0,g q19 [t18],m q8 t19]
 (Q (R [m q20 t1,m q21 t8,b q22 .eql t20 t21]
 (C t22
 (R [m q23 t0,m q24 t2,j q25 (.append 22 Y7 false none) [t23,t24],m q6 t25] .ret) .skip))
 (Q (R [m q26 t8,m q27 t7,b q28 .add t26 t27,m q29 t0,j q30 .cap [t29],b q31 .gtr t28 t30]
 (C t31
 (R [m q32 t0,m q33 t1,O q34 (.slice .slice 22 t32 none (some t33) none),m q35 t8,m q36 t7,b q37 .add t35 t36,m q38 t1,b q39 .sub t37 t38,j q40 (.append 22 Y7 true none) [t34,t39],m q9 t40]
 (R [m q41 t9,m q42 t1,O q43 (.slice .slice 22 t41 (some t42) none none),m q44 t2,j q45 (.copy 22) [t43,t44]]
 (R [m q46 t9,m q47 t1,m q48 t7,b q49 .add t47 t48,O q50 (.slice .slice 22 t46 (some t49) none none),m q51 t0,m q52 t1,O q53 (.slice .slice 22 t51 (some t52) none none),j q54 (.copy 22) [t50,t53]]
 (R [m q55 t9,m q6 t55] .ret)))) .skip))
 (R [m q56 t0,m q57 t8,m q58 t7,b q59 .add t57 t58,O q60 (.slice .slice 22 t56 none (some t59) none),m q0 t60]
 (Q (R [m q61 t2,m q62 t0,m q63 t1,m q64 t7,b q65 .add t63 t64,O q66 (.slice .slice 22 t62 (some t65) none none),k q67 509 [t61,t66],O q68 (.un .not t67)]
 (C t68
 (R [m q69 t0,m q70 t1,m q71 t7,b q72 .add t70 t71,O q73 (.slice .slice 22 t69 (some t72) none none),m q74 t0,m q75 t1,O q76 (.slice .slice 22 t74 (some t75) none none),j q77 (.copy 22) [t73,t76]]
 (R [m q78 t0,m q79 t1,O q80 (.slice .slice 22 t78 (some t79) none none),m q81 t2,j q82 (.copy 22) [t80,t81]]
 (R [m q83 t0,m q6 t83] .ret))) .skip))
 (R [m q84 t0,m q85 t8,O q86 (.slice .slice 22 t84 (some t85) none none),m q87 t2,j q88 (.copy 22) [t86,t87]]
 (R [m q89 t0,m q90 t1,O q91 (.slice .slice 22 t89 (some t90) none none),m q92 t7,k q93 510 [t91,t92]]
 (R [m q94 t0,m q6 t94] .ret)))))))))))⟩
def c417 : AFunc := ⟨[q0,q1,q2],[.tmp q6],R [m q6 F]
 (R [m q7 t1,m q8 t0,b q9 .leq t7 t8,m q10 t9,mt q11 t0 q10,mt q12 t2 q10,Gt q13 (.bin .leq t11 t12) q10,p q14 t10 t13 F,m q6 t14] .ret)⟩
def c423 : AFunc := ⟨[q0,q1],[.tmp q4,.tmp q5],R [m q4 (n 0),m q5 F]
 (R [m q10 t0,g q11 [t10],m q6 t11]
 (R [m q12 t6,m q7 (n 0),m q8 t12]
 (Q (.block 0 (.loop
 (Q (R [m q13 t7,m q14 t8,b q15 .lss t13 t14]
 (C t15 .skip (.exit 0))) (.block 1
 (R [m q16 t7,m q17 t8,b q18 .add t16 t17,O q19 (.convInt .u64 t18),b q20 .shr t19 (i .u64 1),O q21 (.convInt .i64 t20),m q9 t21]
 (R [m q22 t0,m q23 t9,a q24 none 1 t22 t23,L q25 t24,m q26 t1,k q27 515 [t25,t26]]
 (C t27
 (r [m q28 t9,b q29 .add t28 (n 1),m q7 t29])
 (r [m q30 t9,m q8 t30]))))))))
 (R [m q31 t7,m q32 t7,m q33 t6,b q34 .lss t32 t33,m q35 t34,mt q36 t0 q35,mt q37 t7 q35,Gt q38 (.indexAddr none 1 t36 t37) q35,Gt q39 (.load none t38) q35,mt q40 t1 q35,Gt q41 (.bin .eql t39 t40) q35,mt q42 t41 q35,mf q43 t0 q42,mf q44 t7 q42,Gf q45 (.indexAddr none 1 t43 t44) q42,Gf q46 (.load none t45) q42,Gf q47 (.call (K 516) [t46]) q42,mf q48 t47 q42,mt q49 t1 q48,Gt q50 (.call (K 516) [t49]) q48,Gf q51 (.pick t48 t50 F) q42,Gt q52 (.pick t42 T t51) q35,p q53 t35 t52 F,m q4 t31,m q5 t53] .ret))))⟩
def c424 : AFunc := ⟨[q0],[.tmp q2],R [m q2 F]
 (R [m q3 t0,k q4 417 [t3,n 2,n 4095],m q2 t4] .ret)⟩
def c425 : AFunc := ⟨[q0,q1],[.tmp q4],R [m q4 F]
 (Q (R [m q7 t0,m q8 t1,k q9 504 [t7,t8],O q10 (.un .not t9)]
 (C t10
 (R [m q4 F] .ret) .skip))
 (R [m q12 t0,m q13 t1,k q14 517 [t12,t13],m q11 t14,x q15 t11 0,x q16 t11 1,m q5 t15,m q6 t16]
 (R [m q17 t5,b q18 .leq t17 (n 496),m q4 t18] .ret)))⟩
def c430 : AFunc := ⟨[],[.cell q0 (some 8),.cell q1 (some 64)],R [h q0 none Y3,h q1 none Y0]
 (Q (R [k q4 518 [],m q5 (n 0)] (.block 0 (.loop
 (R [b q6 .lss t5 (n 64)]
 (Q (C t6 .skip (.exit 0))
 (Q (.block 1
 (R [m q7 t5,O q8 (.indexArr 64 none 1 t4 t5),m q2 t7,m q3 t8]
 (Q (R [m q9 t2,b q10 .lss t9 (n 8)]
 (C t10
 (r [m q11 t2,m q12 t3,O q13 (.toFlt t12),k q14 520 [t13],b q15 .mul t14 (.const (.flt .f64 4751297606875873280)),m q16 t3,k q17 519 [t15,t16,K 521],a q18 (some 8) 1 t0 t11,s 1 t18 t17]) .skip))
 (r [m q19 t2,m q20 t3,O q21 (.toFlt t20),k q22 522 [t21],b q23 .mul t22 (.const (.flt .f64 4751297606875873280)),m q24 t3,b q25 .shl t24 (i .u64 32),k q26 519 [t23,t25,K 523],a q27 (some 64) 1 t1 t19,s 1 t27 t26]))))
 (r [b q28 .add t5 (n 1),m q5 t28])))))))
 (R [l q29 8 t0,l q30 64 t1,V (.store 8 t0 t29) [⟨q30,.load (some 64) t1,none⟩] [q30],s 64 t1 t30] .ret))⟩
def c431 : AFunc := ⟨[q0,q1],[],R [m q4 t0,O q5 (.nilCheck t4),f q6 0 t5,f q7 9 t6,L q8 t7,m q9 t1,j q10 (.len .str) [t9],b q11 .add t8 t10,O q12 (.nilCheck t4),f q13 0 t12,f q14 9 t13,s 1 t14 t11]
 (R [m q15 t0,O q16 (.nilCheck t15),f q17 0 t16,f q18 8 t17,L q19 t18,m q20 t1,b q21 .add t19 t20,m q1 t21]
 (Q (.block 0 (.loop
 (Q (R [m q22 t1,j q23 (.len .str) [t22],b q24 .geq t23 (n 64)]
 (C t24 .skip (.exit 0))) (.block 1
 (R [m q25 t0,m q26 t1,O q27 (.slice .str 1 t26 none (some (n 64)) none),k q28 524 [t25,t27]]
 (r [m q29 t1,O q30 (.slice .str 1 t29 (some (n 64)) none none),m q1 t30]))))))
 (r [m q31 t0,m q32 t1,O q33 (.nilCheck t31),f q34 0 t33,f q35 8 t34,s 1 t35 t32])))⟩
def c432 : AFunc := ⟨[q0],[.cell q2 (some 32)],R [h q2 none Y4]
 (R [m q8 t0,O q9 (.nilCheck t8),f q10 0 t9,f q11 9 t10,L q12 t11,O q13 (.convInt .u64 t12),b q14 .mul t13 (i .u64 8),m q3 t14]
 (R [O q15 (.makeSlice [y] (n 1) (n 128)),m q4 t15]
 (R [m q16 t4,a q17 none 1 t16 (n 0),s 1 t17 (u 128)]
 (Q (.block 0 (.loop
 (Q (R [m q18 t0,O q19 (.nilCheck t18),f q20 0 t19,f q21 8 t20,L q22 t21,j q23 (.len .str) [t22],m q24 t4,g q25 [t24],b q26 .add t23 t25,b q27 .rem t26 (n 64),b q28 .neq t27 (n 56)]
 (C t28 .skip (.exit 0))) (.block 1
 (r [m q29 t4,O q30 (.buildSlice [y] 1 [(0,1,u 0)]),j q31 (.append 1 [y] false (some 5)) [t29,t30],m q4 t31])))))
 (Q (R [m q32 (n 0)] (.block 2 (.loop
 (R [b q33 .lss t32 (n 8)]
 (Q (C t33 .skip (.exit 2))
 (Q (.block 3
 (R [m q34 t32,m q5 t34]
 (r [m q35 t4,m q36 t3,m q37 t5,b q38 .mul (n 8) t37,b q39 .sub (n 56) t38,b q40 .shr t36 t39,O q41 (.convInt .u8 t40),O q42 (.buildSlice [y] 1 [(0,1,t41)]),j q43 (.append 1 [y] false (some 5)) [t35,t42],m q4 t43])))
 (r [b q44 .add t32 (n 1),m q32 t44])))))))
 (R [m q45 t0,m q46 t4,O q47 (.convStr t46),k q48 431 [t45,t47]]
 (Q (R [m q49 t0,O q50 (.nilCheck t49),f q51 0 t50,f q52 0 t51,l q53 8 t52,m q54 (n 0)] (.block 4 (.loop
 (R [b q55 .lss t54 (n 8)]
 (Q (C t55 .skip (.exit 4))
 (Q (.block 5
 (R [m q56 t54,O q57 (.indexArr 8 none 1 t53 t54),m q6 t56,m q7 t57]
 (r [m q58 t6,b q59 .mul (n 4) t58,m q60 t6,b q61 .mul (n 4) t60,b q62 .add t61 (n 1),m q63 t6,b q64 .mul (n 4) t63,b q65 .add t64 (n 2),m q66 t6,b q67 .mul (n 4) t66,b q68 .add t67 (n 3),m q69 t7,b q70 .shr t69 (i .u64 24),O q71 (.convInt .u8 t70),m q72 t7,b q73 .shr t72 (i .u64 16),O q74 (.convInt .u8 t73),m q75 t7,b q76 .shr t75 (i .u64 8),O q77 (.convInt .u8 t76),m q78 t7,O q79 (.convInt .u8 t78),a q80 (some 32) 1 t2 t59,s 1 t80 t71,a q81 (some 32) 1 t2 t62,s 1 t81 t74,a q82 (some 32) 1 t2 t65,s 1 t82 t77,a q83 (some 32) 1 t2 t68,s 1 t83 t79])))
 (r [b q84 .add t54 (n 1),m q54 t84])))))))
 (R [l q85 32 t2,s 32 t2 t85] .ret))))))))⟩
def c433 : AFunc := ⟨[q0,q1],[.cell q4 none,.cell q5 none,.cell q6 none],R [h q4 none [z],h q5 none [z],h q6 none [z]]
 (R [O q8 (.makeFunc (.fn 525) [] [t6,t4,t5]),N (.defer t8 [])]
 (R [N (.defer (K 526) [t6])]
 (R [m q9 t0,B q10 [e] [(0,1,t9)],B q11 [e] [(0,1,t10)],O q12 (.box none t11),m q7 t12]
 (R [m q13 t1,m q14 t7,O q15 (.call t13 [t14]),s 1 t4 t15]
 (R [L q16 t4,m q17 t0,j q18 (.len .str) [t17],m q19 t7,O q20 (.nilCheck t19),f q21 0 t20,f q22 0 t21,L q23 t22,j q24 (.len .str) [t23],b q25 .sub t18 t24,V (.store 1 t4 t16) [⟨q24,.bi (.len .str) [t23],none⟩,⟨q23,.load none t22,none⟩,⟨q18,.bi (.len .str) [t17],none⟩] [q25,q24,q23,q22,q21,q20,q19,q18,q17],s 1 t5 t25,s 1 t6 (n 0)] .ret)))))⟩
def c434 : AFunc := ⟨[q0],[.tmp q2],R [m q2 (n 0)]
 (R [m q6 t0,k q7 384 [t6,n 1],O q8 (.indexStr t7 (n 0)),O q9 (.convInt .i64 t8),m q3 t9]
 (Q (R [m q10 t3,b q11 .lss t10 (n 240)]
 (C t11
 (R [m q12 t3,m q2 t12] .ret) .skip))
 (R [m q13 t3,b q14 .sub t13 (n 240),b q15 .add t14 (n 1),m q4 t15]
 (R [m q16 t4,b q17 .leq t16 (n 8),k q18 385 [t17]]
 (R [m q19 t0,m q20 t4,k q21 384 [t19,t20],k q22 496 [t21],m q5 t22]
 (R [m q23 t5,b q24 .leq t23 (i .u64 4611686018427387664),m q25 t24,mt q26 t4 q25,Gt q27 (.bin .eql t26 (n 1)) q25,mt q28 t27 q25,mf q29 t5 q28,mf q30 t4 q28,Gf q31 (.bin .sub t30 (n 1)) q28,Gf q32 (.bin .mul (n 8) t31) q28,Gf q33 (.bin .shr t29 t32) q28,Gf q34 (.bin .gtr t33 (i .u64 0)) q28,Gt q35 (.pick t28 T t34) q25,p q36 t25 t35 F,k q37 385 [t36]]
 (R [m q38 t5,O q39 (.convInt .i64 t38),b q40 .add t39 (n 240),m q2 t40] .ret)))))))⟩
def c461 : AFunc := ⟨[q0,q1],[.cell q4 none,.cell q5 none,.cell q6 none],R [h q4 none [v],h q5 none [z],h q6 none [z]]
 (R [O q8 (.makeFunc (.fn 527) [] [t6,t4,t5]),N (.defer t8 [])]
 (R [N (.defer (K 526) [t6])]
 (R [m q9 t0,B q10 [e] [(0,1,t9)],B q11 [e] [(0,1,t10)],O q12 (.box none t11),m q7 t12]
 (R [m q13 t1,m q14 t7,O q15 (.call t13 [t14]),s 1 t4 t15]
 (R [L q16 t4,m q17 t0,j q18 (.len .str) [t17],m q19 t7,O q20 (.nilCheck t19),f q21 0 t20,f q22 0 t21,L q23 t22,j q24 (.len .str) [t23],b q25 .sub t18 t24,V (.store 1 t4 t16) [⟨q24,.bi (.len .str) [t23],none⟩,⟨q23,.load none t22,none⟩,⟨q18,.bi (.len .str) [t17],none⟩] [q25,q24,q23,q22,q21,q20,q19,q18,q17],s 1 t5 t25,s 1 t6 (n 0)] .ret)))))⟩
def c462 : AFunc := ⟨[q0,q1],[.tmp q3],R [m q3 (.const v)]
 (R [m q4 t0,L q5 t1,k q6 463 [t4,t5],m q3 t6] .ret)⟩
def c463 : AFunc := ⟨[q0,q1],[.tmp q4],R [m q4 (.const v)]
 (R [m q5 (.const v)]
 (Q (.block 0 (.loop
 (Q (R [m q7 t0,O q8 (.nilCheck t7),f q9 0 t8,f q10 0 t9,L q11 t10,b q12 .neq t11 (S [])]
 (C t12 .skip (.exit 0))) (.block 1
 (R [m q13 t1,m q14 t5,g q15 [t14],k q16 401 [t13,t15],m q6 t16]
 (Q (R [m q17 t6]
 (C t17
 (r [m q18 t0,m q19 t0,O q20 (.nilCheck t19),f q21 0 t20,f q22 0 t21,L q23 t22,k q24 402 [t23],O q25 (.nilCheck t18),f q26 0 t25,f q27 0 t26,s 1 t27 t24]) .skip))
 (R [m q28 t5,m q29 t0,k q30 528 [t29],O q31 (.buildSlice [z,z,e] 1 [(0,3,t30)]),j q32 (.append 3 [z,z,e] false none) [t28,t31],m q5 t32]
 (R [m q33 t6]
 (C t33
 (r [m q34 t0,m q35 t0,O q36 (.nilCheck t35),f q37 0 t36,f q38 0 t37,L q39 t38,k q40 402 [t39],O q41 (.nilCheck t34),f q42 0 t41,f q43 0 t42,s 1 t43 t40]) .skip)))))))))
 (R [m q44 t5,m q4 t44] .ret)))⟩
def c464 : AFunc := ⟨[q0],[.tmp q2,.tmp q3],R [m q2 (S []),m q3 (n 0)]
 (Q (R [m q6 t0,b q7 .lss t6 (n 0),m q8 t7,mf q9 t0 q8,Gf q10 (.bin .gtr t9 (n 4611686018427387904)) q8,p q11 t8 T t10]
 (C t11
 (R [m q2 (S []),m q3 (n 1)] .ret) .skip))
 (Q (R [m q12 t0,b q13 .lss t12 (n 240)]
 (C t13
 (R [m q14 t0,O q15 (.convInt .u64 t14),k q16 382 [t15,n 1],m q2 t16,m q3 (n 0)] .ret) .skip))
 (R [m q17 t0,b q18 .sub t17 (n 240),O q19 (.convInt .u64 t18),m q4 t19,m q5 (n 1)]
 (Q (.block 0 (.loop
 (Q (R [m q20 t4,m q21 t5,b q22 .mul (n 8) t21,b q23 .shr t20 t22,b q24 .gtr t23 (i .u64 0)]
 (C t24 .skip (.exit 0))) (.block 1
 (r [m q25 t5,b q26 .add t25 (n 1),m q5 t26])))))
 (R [m q27 t5,b q28 .add (n 239) t27,O q29 (.convInt .u64 t28),k q30 382 [t29,n 1],m q31 t4,m q32 t5,k q33 382 [t31,t32],b q34 .add t30 t33,m q2 t34,m q3 (n 0)] .ret)))))⟩
def c465 : AFunc := ⟨[q0],[.tmp q2],R [m q2 (S [])]
 (Q (R [m q3 t0,b q4 .lss t3 (n 10)]
 (C t4
 (R [m q5 t0,m q6 t0,b q7 .add t6 (n 1),O q8 (.slice .str 1 (S [48,49,50,51,52,53,54,55,56,57,97,98,99,100,101,102,103,104,105,106,107,108,109,110,111,112,113,114,115,116,117,118,119,120,121,122]) (some t5) (some t7) none),m q2 t8] .ret) .skip))
 (R [m q9 t0,b q10 .mul t9 (n 2),m q11 t0,b q12 .mul t11 (n 2),b q13 .add t12 (n 2),O q14 (.slice .str 1 (S [48,48,48,49,48,50,48,51,48,52,48,53,48,54,48,55,48,56,48,57,49,48,49,49,49,50,49,51,49,52,49,53,49,54,49,55,49,56,49,57,50,48,50,49,50,50,50,51,50,52,50,53,50,54,50,55,50,56,50,57,51,48,51,49,51,50,51,51,51,52,51,53,51,54,51,55,51,56,51,57,52,48,52,49,52,50,52,51,52,52,52,53,52,54,52,55,52,56,52,57,53,48,53,49,53,50,53,51,53,52,53,53,53,54,53,55,53,56,53,57,54,48,54,49,54,50,54,51,54,52,54,53,54,54,54,55,54,56,54,57,55,48,55,49,55,50,55,51,55,52,55,53,55,54,55,55,55,56,55,57,56,48,56,49,56,50,56,51,56,52,56,53,56,54,56,55,56,56,56,57,57,48,57,49,57,50,57,51,57,52,57,53,57,54,57,55,57,56,57,57]) (some t10) (some t13) none),m q2 t14] .ret))⟩
def c469 : AFunc := ⟨[q0,q1],[.tmp q4,.tmp q5],R [m q4 (.const v),m q5 F]
 (R [m q9 t0,k q10 415 [t9],m q6 t10]
 (R [m q12 t0,m q13 t1,k q14 321 [t12,t13],m q11 t14,x q15 t11 0,x q16 t11 1,m q7 t15,m q8 t16]
 (Q (R [m q17 t8,O q18 (.un .not t17)]
 (C t18
 (R [m q19 t6,m q4 t19,m q5 F] .ret) .skip))
 (R [m q20 t6,m q21 t7,m q22 t7,b q23 .add t22 (n 1),k q24 533 [t20,t21,t23],m q4 t24,m q5 T] .ret))))⟩
def c477 : AFunc := ⟨[q0,q1],[.cell q4 (some 3)],R [O q2 (.box none t0),O q3 (.box none t1),h q4 none [z,z,e]]
 (R [f q8 5 t3,L q9 t8,l q10 3 t2,O q11 (.makeFunc (.fn 358) [t10] []),k q12 535 [t9,t11],m q5 t12]
 (R [f q13 0 t2,L q14 t13,l q15 6 t3,m q16 t5,W q17 (.call (K 536) [t16,K 537]) [⟨q15,.load (some 6) t3,none⟩,⟨q14,.load none t13,none⟩] [q15,q14,q13],k q18 164 [t14,t15,t17]]
 (Q (R [m q19 t5,g q20 [t19],m q21 (n 0)] (.block 0 (.loop
 (R [b q22 .lss t21 t20]
 (Q (C t22 .skip (.exit 0))
 (Q (.block 1
 (R [a q23 none 3 t19 t21,l q24 3 t23,h q7 none [z,z,e],s 3 t7 t24]
 (R [f q25 0 t7,L q26 t25,b q27 .eql t26 (n 0)]
 (C t27
 (R [B q28 [z,z,e] [],s 3 t4 t28] .ret) .skip))))
 (r [b q29 .add t21 (n 1),m q21 t29])))))))
 (R [f q30 0 t2,L q31 t30,f q32 0 t3,L q33 t32,O q34 (.nilCheck t31),a q35 (some 33) 6 t34 t33,f q36 5 t35,L q37 t36,m q38 t5,O q39 (.call t37 [t38]),s 3 t4 t39] .ret))))⟩
def c480 : AFunc := ⟨[q0],[.tmp q2],R [m q2 F]
 (R [m q3 t0,m q4 t0,b q5 .neq t3 t4,m q2 t5] .ret)⟩
def c496 : AFunc := ⟨[q0],[.tmp q2],R [m q2 (i .u64 0)]
 (R [m q3 (i .u64 0)]
 (Q (R [m q5 t0,j q6 (.len .str) [t5],m q7 (n 0)] (.block 0 (.loop
 (R [b q8 .lss t7 t6]
 (Q (C t8 .skip (.exit 0))
 (Q (.block 1
 (R [m q9 t7,m q4 t9]
 (r [m q10 t3,b q11 .shl t10 (i .u64 8),m q12 t0,m q13 t4,O q14 (.indexStr t12 t13),O q15 (.convInt .u64 t14),b q16 .or t11 t15,m q3 t16])))
 (r [b q17 .add t7 (n 1),m q7 t17])))))))
 (R [m q18 t3,m q2 t18] .ret)))⟩
def c498 : AFunc := ⟨[q0,q1],[.tmp q4],R [m q4 I]
 (R [m q5 t0,k q6 364 [t5]]
 (R [m q7 t0,m q8 t0,O q9 (.nilCheck t8),f q10 1 t9,L q11 t10,m q12 t1,O q13 (.buildSlice [y] 1 [(0,1,t12)]),j q14 (.append 1 [y] false (some 5)) [t11,t13],O q15 (.nilCheck t7),f q16 1 t15,s 1 t16 t14]
 (R [m q4 I] .ret)))⟩
def c501 : AFunc := ⟨[q0,q1,q2],[.tmp q6],R [m q6 (.const v)]
 (R [m q10 t0,m q11 t1,O q12 (.slice .slice 1 t10 (some t11) none none)]
 (R [m q13 t2,g q14 [t13],m q7 t14]
 (Q (R [m q15 t7,b q16 .eql t15 (n 0)]
 (C t16
 (R [m q17 t0,m q6 t17] .ret) .skip))
 (R [m q18 t0,g q19 [t18],m q8 t19]
 (Q (R [m q20 t1,m q21 t8,b q22 .eql t20 t21]
 (C t22
 (R [m q23 t0,m q24 t2,j q25 (.append 1 [z] false none) [t23,t24],m q6 t25] .ret) .skip))
 (Q (R [m q26 t8,m q27 t7,b q28 .add t26 t27,m q29 t0,j q30 .cap [t29],b q31 .gtr t28 t30]
 (C t31
 (R [m q32 t0,m q33 t1,O q34 (.slice .slice 1 t32 none (some t33) none),m q35 t8,m q36 t7,b q37 .add t35 t36,m q38 t1,b q39 .sub t37 t38,j q40 (.append 1 [z] true none) [t34,t39],m q9 t40]
 (R [m q41 t9,m q42 t1,O q43 (.slice .slice 1 t41 (some t42) none none),m q44 t2,j q45 (.copy 1) [t43,t44]]
 (R [m q46 t9,m q47 t1,m q48 t7,b q49 .add t47 t48,O q50 (.slice .slice 1 t46 (some t49) none none),m q51 t0,m q52 t1,O q53 (.slice .slice 1 t51 (some t52) none none),j q54 (.copy 1) [t50,t53]]
 (R [m q55 t9,m q6 t55] .ret)))) .skip))
 (R [m q56 t0,m q57 t8,m q58 t7,b q59 .add t57 t58,O q60 (.slice .slice 1 t56 none (some t59) none),m q0 t60]
 (Q (R [m q61 t2,m q62 t0,m q63 t1,m q64 t7,b q65 .add t63 t64,O q66 (.slice .slice 1 t62 (some t65) none none),k q67 557 [t61,t66],O q68 (.un .not t67)]
 (C t68
 (R [m q69 t0,m q70 t1,m q71 t7,b q72 .add t70 t71,O q73 (.slice .slice 1 t69 (some t72) none none),m q74 t0,m q75 t1,O q76 (.slice .slice 1 t74 (some t75) none none),j q77 (.copy 1) [t73,t76]]
 (R [m q78 t0,m q79 t1,O q80 (.slice .slice 1 t78 (some t79) none none),m q81 t2,j q82 (.copy 1) [t80,t81]]
 (R [m q83 t0,m q6 t83] .ret))) .skip))
 (R [m q84 t0,m q85 t8,O q86 (.slice .slice 1 t84 (some t85) none none),m q87 t2,j q88 (.copy 1) [t86,t87]]
 (R [m q89 t0,m q90 t1,O q91 (.slice .slice 1 t89 (some t90) none none),m q92 t7,k q93 558 [t91,t92]]
 (R [m q94 t0,m q6 t94] .ret)))))))))))⟩
def c502 : AFunc := ⟨[q0,q1,q2],[.tmp q6],R [m q6 (.const v)]
 (R [m q8 t0,m q9 t1,m q10 t2,m q11 t0,g q12 [t11],O q13 (.slice .slice 1 t8 (some t9) (some t10) (some t12))]
 (Q (R [m q14 t1,m q15 t2,b q16 .eql t14 t15]
 (C t16
 (R [m q17 t0,m q6 t17] .ret) .skip))
 (R [m q18 t0,g q19 [t18],m q7 t19]
 (R [m q20 t0,m q21 t1,O q22 (.slice .slice 1 t20 none (some t21) none),m q23 t0,m q24 t2,O q25 (.slice .slice 1 t23 (some t24) none none),j q26 (.append 1 [z] false none) [t22,t25],m q0 t26]
 (R [m q27 t0,m q28 t0,g q29 [t28],m q30 t7,O q31 (.slice .slice 1 t27 (some t29) (some t30) none),N (.bi (.clear .slice [z]) [t31])]
 (R [m q32 t0,m q6 t32] .ret))))))⟩
def c503 : AFunc := ⟨[q0,q1,q2],[.cell q6 (some 22)],R [h q6 none Y7]
 (R [m q10 t0,m q11 t2,k q12 559 [t10,t11],m q9 t12,x q13 t9 0,x q14 t9 1,h q7 none Y9,s 16 t7 t13,m q8 t14]
 (R [m q15 t8,b q16 .eql t15 (n 0),k q17 263 [t16,n 8]]
 (R [m q18 t1,m q19 t0,m q20 t2,l q22 16 t7,W q21 (.call (K 560) [t19,t20]) [⟨q22,.load (some 16) t7,none⟩] [q22,q18],B q23 Y7 [(4,1,t18),(5,1,t21),(6,16,t22)],s 22 t6 t23] .ret)))⟩
def c504 : AFunc := ⟨[q0,q1],[.tmp q4],R [m q4 F]
 (Q (R [m q7 t1,k q8 417 [t7,n 0,n 20],O q9 (.un .not t8),m q10 t9,mf q11 t0 q10,Gf q12 (.bi (.len .slice) [t11]) q10,Gf q13 (.bin .eql t12 (n 0)) q10,p q14 t10 T t13,m q15 t14,mf q16 t1 q15,Gf q17 (.bin .gtr t16 (n 0)) q15,mf q18 t17 q15,mt q19 t0 q18,Gt q20 (.bi (.len .slice) [t19]) q18,Gt q21 (.bin .lss t20 (n 2)) q18,mt q22 t21 q18,mf q23 t0 q22,Gf q24 (.indexAddr none 22 t23 (n 0)) q22,Gf q25 (.fieldAddr 0 t24) q22,Gf q26 (.load none t25) q22,Gf q27 (.bin .neq t26 (S [])) q22,Gt q28 (.pick t22 T t27) q18,Gf q29 (.pick t18 t28 F) q15,p q30 t15 T t29]
 (C t30
 (R [m q4 F] .ret) .skip))
 (Q (R [m q31 t0,g q32 [t31],m q33 (n 0)] (.block 0 (.loop
 (R [b q34 .lss t33 t32]
 (Q (C t34 .skip (.exit 0))
 (Q (.block 1
 (R [m q35 t33,a q36 none 22 t31 t33,l q37 22 t36,h q6 none Y7,m q5 t35,s 22 t6 t37] (.block 2
 (Q (R [m q39 t1,b q40 .eql t39 (n 0),m q41 t40,Gt q42 (.load (some 22) t6) q41,Gt q43 (.call (K 561) [t42]) q41,Gt q44 (.bin .eql t43 (n 0)) q41,p q45 t41 t44 F,m q38 t45]
 (C t38 .skip
 (r [m q46 t1,b q47 .gtr t46 (n 0),m q48 t47,Gt q49 (.load (some 22) t6) q48,Gt q50 (.call (K 562) [t49]) q48,Gt q51 (.un .not t50) q48,mt q52 t51 q48,mf q53 t5 q52,Gf q54 (.bin .gtr t53 (n 0)) q52,mf q55 t54 q52,Gt q56 (.fieldAddr 0 t6) q55,Gt q57 (.load none t56) q55,Gt q58 (.bin .eql t57 (S [])) q55,Gf q59 (.pick t55 t58 F) q52,Gt q60 (.pick t52 T t59) q48,p q61 t48 t60 F,m q38 t61])))
 (C t38
 (R [m q4 F] .ret)
 (R [m q63 t5,b q64 .gtr t63 (n 0),m q65 t64,mt q66 t0 q65,mt q67 t5 q65,Gt q68 (.bin .sub t67 (n 1)) q65,Gt q69 (.indexAddr none 22 t66 t68) q65,Gt q70 (.fieldAddr 0 t69) q65,Gt q71 (.load none t70) q65,Gt q72 (.fieldAddr 0 t6) q65,Gt q73 (.load none t72) q65,Gt q74 (.call (K 271) [t71,t73]) q65,Gt q75 (.bin .geq t74 (n 0)) q65,p q76 t65 t75 F,m q62 t76]
 (C t62
 (R [m q4 F] .ret) .skip)))))))
 (r [b q77 .add t33 (n 1),m q33 t77])))))))
 (R [m q4 T] .ret)))⟩
def c505 : AFunc := ⟨[q0,q1],[.tmp q4,.tmp q5,.cell q6 none],R [m q4 (.const v),m q5 (.const v),h q6 none [z]]
 (R [N (.defer (K 563) [t6])]
 (R [m q9 t0,m q10 t1,B q11 [v,z] [(0,1,t9),(1,1,t10)],h q7 none [v,z],s 2 t7 t11]
 (R [l q12 2 t7,k q13 564 [t12]]
 (Q (R [m q14 t0,g q15 [t14],b q16 .eql t15 (n 0)]
 (C t16
 (R [m q4 (.const v),m q5 (.const v),s 1 t6 (n 0)] .ret) .skip))
 (R [B q17 [v,v] [],O q18 (.box none t17),m q8 t18]
 (R [l q19 2 t7,m q20 t8,O q21 (.makeFunc (.fn 566) [t20] []),m q22 t8,O q23 (.makeFunc (.fn 567) [t22] []),k q24 565 [t19,t21,t23]]
 (R [m q25 t8,O q26 (.nilCheck t25),f q27 0 t26,L q28 t27,m q29 t8,O q30 (.nilCheck t29),f q31 1 t30,L q32 t31,m q4 t28,m q5 t32,s 1 t6 (n 0)] .ret)))))))⟩
def c515 : AFunc := ⟨[q0,q1],[.tmp q4],R [m q4 F]
 (R [m q5 t0,k q6 480 [t5],m q7 t6,mt q8 t1 q7,Gt q9 (.call (K 480) [t8]) q7,Gt q10 (.un .not t9) q7,p q11 t7 t10 F,m q12 t11,mf q13 t0 q12,mf q14 t1 q12,Gf q15 (.bin .lss t13 t14) q12,p q16 t12 T t15,m q4 t16] .ret)⟩
def c516 : AFunc := ⟨[q0],[.tmp q2],R [m q2 F]
 (R [m q3 t0,m q4 t0,b q5 .neq t3 t4,m q2 t5] .ret)⟩
def c517 : AFunc := ⟨[q0,q1],[.tmp q4,.tmp q5],R [m q4 (n 0),m q5 (n 0)]
 (Q (R [m q11 t1,k q12 417 [t11,n 0,n 20],O q13 (.un .not t12)]
 (C t13
 (R [m q4 (n 0),m q5 (n 2)] .ret) .skip))
 (R [m q6 (n 6)]
 (Q (R [m q14 t0,g q15 [t14],m q16 (n 0)] (.block 0 (.loop
 (R [b q17 .lss t16 t15]
 (Q (C t17 .skip (.exit 0))
 (Q (.block 1
 (R [a q18 none 22 t14 t16,l q19 22 t18,h q8 none Y7,s 22 t8 t19]
 (R [l q21 22 t8,m q22 t1,k q23 574 [t21,t22],m q20 t23,x q24 t20 0,x q25 t20 1,m q9 t24,m q10 t25]
 (Q (R [m q26 t10,O q27 (.un .not t26)]
 (C t27
 (R [m q4 (n 0),m q5 (n 2)] .ret) .skip))
 (r [m q28 t6,m q29 t9,b q30 .add t28 t29,m q6 t30])))))
 (r [b q31 .add t16 (n 1),m q16 t31])))))))
 (R [m q32 t6,m q4 t32,m q5 (n 0)] .ret))))⟩
def c518 : AFunc := ⟨[],[.cell q0 (some 64)],R [h q0 none [.int .u64 0,.int .u64 0,.int .u64 0,.int .u64 0,.int .u64 0,.int .u64 0,.int .u64 0,.int .u64 0,.int .u64 0,.int .u64 0,.int .u64 0,.int .u64 0,.int .u64 0,.int .u64 0,.int .u64 0,.int .u64 0,.int .u64 0,.int .u64 0,.int .u64 0,.int .u64 0,.int .u64 0,.int .u64 0,.int .u64 0,.int .u64 0,.int .u64 0,.int .u64 0,.int .u64 0,.int .u64 0,.int .u64 0,.int .u64 0,.int .u64 0,.int .u64 0,.int .u64 0,.int .u64 0,.int .u64 0,.int .u64 0,.int .u64 0,.int .u64 0,.int .u64 0,.int .u64 0,.int .u64 0,.int .u64 0,.int .u64 0,.int .u64 0,.int .u64 0,.int .u64 0,.int .u64 0,.int .u64 0,.int .u64 0,.int .u64 0,.int .u64 0,.int .u64 0,.int .u64 0,.int .u64 0,.int .u64 0,.int .u64 0,.int .u64 0,.int .u64 0,.int .u64 0,.int .u64 0,.int .u64 0,.int .u64 0,.int .u64 0,.int .u64 0]]
 (R [m q1 (n 0)]
 (Q .skip
 (Q (R [m q2 (i .u64 2)] (.block 0 (.loop
 (Q (R [m q5 t1,b q6 .lss t5 (n 64)]
 (C t6 .skip (.exit 0)))
 (Q (.block 1
 (Q (R [m q9 t1,O q10 (.slice (.arr 64) 1 t0 none (some t9) none),g q11 [t10],m q12 (n 0)] (.block 2 (.loop
 (R [b q13 .lss t12 t11]
 (Q (C t13 .skip (.exit 2))
 (Q (.block 3
 (R [a q14 none 1 t10 t12,L q15 t14,m q4 t15]
 (R [m q16 t2,m q17 t4,b q18 .rem t16 t17,b q19 .eql t18 (i .u64 0)]
 (C t19 (.exit 1) .skip))))
 (r [b q20 .add t12 (n 1),m q12 t20])))))))
 (R [m q21 t1,m q22 t2,a q23 (some 64) 1 t0 t21,s 1 t23 t22]
 (r [m q24 t1,b q25 .add t24 (n 1),m q1 t25]))))
 (r [m q7 t2,b q8 .add t7 (i .u64 1),m q2 t8]))))))
 (R [l q26 64 t0,s 64 t0 t26] .ret))))⟩
def c519 : AFunc := ⟨[q0,q1,q2],[.tmp q6],R [O q4 (.box none t1),O q5 (.box none t2),m q6 (i .u32 0)]
 (R [O q9 (.makeFunc (.fn 575) [] [t5,t4]),m q7 t9]
 (R [m q10 t0,O q11 (.fltInt .u64 t10),m q8 t11]
 (Q (.block 0 (.loop
 (Q (R [m q12 t7,m q13 t8,O q14 (.call t12 [t13])]
 (C t14 .skip (.exit 0))) (.block 1
 (r [m q15 t8,b q16 .sub t15 (i .u64 1),m q8 t16])))))
 (Q (.block 2 (.loop
 (Q (R [m q17 t7,m q18 t8,b q19 .add t18 (i .u64 1),O q20 (.call t17 [t19]),O q21 (.un .not t20)]
 (C t21 .skip (.exit 2))) (.block 3
 (r [m q22 t8,b q23 .add t22 (i .u64 1),m q8 t23])))))
 (R [m q24 t8,O q25 (.convInt .u32 t24),m q6 t25] .ret)))))⟩
def c520 : AFunc := ⟨[q0],[.tmp q2],R [m q2 (.const (.flt .f64 0))]
 (R [m q3 t0,k q4 576 [t3],m q2 t4] .ret)⟩
def c521 : AFunc := ⟨[q0],[.tmp q2,.tmp q3],R [m q2 (i .u64 0),m q3 (i .u64 0)]
 (R [m q4 t0,m q5 t0,k q6 577 [t4,t5],x q7 t6 0,x q8 t6 1,m q2 t7,m q3 t8] .ret)⟩
def c522 : AFunc := ⟨[q0],[.tmp q2],R [m q2 (.const (.flt .f64 0))]
 (Q (C F
 (R [m q3 t0,k q4 578 [t3],m q2 t4] .ret) .skip)
 (R [m q5 t0,k q6 579 [t5],m q2 t6] .ret))⟩
def c523 : AFunc := ⟨[q0],[.tmp q2,.tmp q3],R [m q2 (i .u64 0),m q3 (i .u64 0)]
 (R [m q7 t0,m q8 t0,k q9 577 [t7,t8],m q6 t9,x q10 t6 0,x q11 t6 1,m q4 t10,m q5 t11]
 (R [m q13 t5,m q14 t0,k q15 577 [t13,t14],m q12 t15,x q16 t12 0,x q17 t12 1,m q2 t16,m q3 t17]
 (R [m q18 t2,m q19 t4,m q20 t0,b q21 .mul t19 t20,b q22 .add t18 t21,m q23 t3,m q2 t22,m q3 t23] .ret)))⟩
def c524 : AFunc := ⟨[q0,q1],[],R [h q4 none Y0]
 (Q (R [m q22 (n 0)] (.block 0 (.loop
 (R [b q23 .lss t22 (n 64)]
 (Q (C t23 .skip (.exit 0))
 (Q (.block 1
 (R [m q24 t22,m q5 t24]
 (Q (R [m q25 t5,b q26 .lss t25 (n 16)]
 (C t26
 (R [m q27 t5,m q28 t1,m q29 t5,b q30 .mul (n 4) t29,O q31 (.indexStr t28 t30),O q32 (.convInt .u32 t31),b q33 .shl t32 (i .u64 24),m q34 t1,m q35 t5,b q36 .mul (n 4) t35,b q37 .add t36 (n 1),O q38 (.indexStr t34 t37),O q39 (.convInt .u32 t38),b q40 .shl t39 (i .u64 16),b q41 .or t33 t40,m q42 t1,m q43 t5,b q44 .mul (n 4) t43,b q45 .add t44 (n 2),O q46 (.indexStr t42 t45),O q47 (.convInt .u32 t46),b q48 .shl t47 (i .u64 8),b q49 .or t41 t48,m q50 t1,m q51 t5,b q52 .mul (n 4) t51,b q53 .add t52 (n 3),O q54 (.indexStr t50 t53),O q55 (.convInt .u32 t54),b q56 .or t49 t55,a q57 (some 64) 1 t4 t27,s 1 t57 t56] (.exit 1)) .skip))
 (R [m q58 t5,b q59 .sub t58 (n 15),a q60 (some 64) 1 t4 t59,L q61 t60,m q62 t5,b q63 .sub t62 (n 2),a q64 (some 64) 1 t4 t63,L q65 t64,m q6 t61,m q7 t65]
 (R [m q66 t6,k q67 580 [t66,n (-7)],m q68 t6,k q69 580 [t68,n (-18)],b q70 .xor t67 t69,m q71 t6,b q72 .shr t71 (i .u64 3),b q73 .xor t70 t72,m q8 t73]
 (R [m q74 t7,k q75 580 [t74,n (-17)],m q76 t7,k q77 580 [t76,n (-19)],b q78 .xor t75 t77,m q79 t7,b q80 .shr t79 (i .u64 10),b q81 .xor t78 t80,m q9 t81]
 (r [m q82 t5,m q83 t5,b q84 .sub t83 (n 16),a q85 (some 64) 1 t4 t84,L q86 t85,m q87 t8,b q88 .add t86 t87,m q89 t5,b q90 .sub t89 (n 7),a q91 (some 64) 1 t4 t90,L q92 t91,b q93 .add t88 t92,m q94 t9,b q95 .add t93 t94,a q96 (some 64) 1 t4 t82,s 1 t96 t95])))))))
 (r [b q97 .add t22 (n 1),m q22 t97])))))))
 (R [m q98 t0,O q99 (.nilCheck t98),f q100 0 t99,f q101 0 t100,l q102 8 t101,h q10 none Y3,s 8 t10 t102]
 (Q (R [m q103 (n 0)] (.block 2 (.loop
 (R [b q104 .lss t103 (n 64)]
 (Q (C t104 .skip (.exit 2))
 (Q (.block 3
 (R [m q105 t103,m q11 t105]
 (R [a q106 (some 8) 1 t10 (n 0),L q107 t106,a q108 (some 8) 1 t10 (n 1),L q109 t108,a q110 (some 8) 1 t10 (n 2),L q111 t110,m q12 t107,m q13 t109,m q14 t111]
 (R [a q112 (some 8) 1 t10 (n 4),L q113 t112,a q114 (some 8) 1 t10 (n 5),L q115 t114,a q116 (some 8) 1 t10 (n 6),L q117 t116,m q15 t113,m q16 t115,m q17 t117]
 (R [a q118 (some 8) 1 t10 (n 7),L q119 t118,m q120 t15,m q122 t15,m q125 t15,m q129 t15,m q130 t16,b q131 .and t129 t130,m q132 t15,O q133 (.un .xor t132),m q134 t17,b q135 .and t133 t134,b q136 .xor t131 t135,m q138 t0,m q139 t11,O q140 (.nilCheck t138),f q141 10 t140,a q142 (some 64) 1 t141 t139,L q143 t142,m q145 t11,a q146 (some 64) 1 t4 t145,L q147 t146,W q121 (.call (K 580) [t120,n (-6)]) [⟨q147,.load none t146,none⟩,⟨q143,.load none t142,none⟩,⟨q119,.load none t118,none⟩] [q147,q146,q145,q143,q142,q141,q140,q139,q138,q136,q135,q134,q133,q132,q131,q130,q129,q125,q122,q119,q118],W q123 (.call (K 580) [t122,n (-11)]) [⟨q147,.load none t146,none⟩,⟨q143,.load none t142,none⟩,⟨q119,.load none t118,none⟩] [q147,q146,q145,q143,q142,q141,q140,q139,q138,q136,q135,q134,q133,q132,q131,q130,q129,q125,q119,q118],b q124 .xor t121 t123,W q126 (.call (K 580) [t125,n (-25)]) [⟨q147,.load none t146,none⟩,⟨q143,.load none t142,none⟩,⟨q119,.load none t118,none⟩] [q124,q147,q146,q145,q143,q142,q141,q140,q139,q138,q136,q135,q134,q133,q132,q131,q130,q129,q119,q118],b q127 .xor t124 t126,b q128 .add t119 t127,b q137 .add t128 t136,b q144 .add t137 t143,b q148 .add t144 t147,m q18 t148]
 (R [m q149 t12,k q150 580 [t149,n (-2)],m q151 t12,k q152 580 [t151,n (-13)],b q153 .xor t150 t152,m q154 t12,k q155 580 [t154,n (-22)],b q156 .xor t153 t155,m q157 t12,m q158 t13,b q159 .and t157 t158,m q160 t12,m q161 t14,b q162 .and t160 t161,b q163 .xor t159 t162,m q164 t13,m q165 t14,b q166 .and t164 t165,b q167 .xor t163 t166,b q168 .add t156 t167,m q19 t168]
 (r [m q169 t18,m q170 t19,b q171 .add t169 t170,m q172 t12,m q173 t13,m q174 t14,a q175 (some 8) 1 t10 (n 3),L q176 t175,m q177 t18,b q178 .add t176 t177,m q179 t15,m q180 t16,m q181 t17,B q182 Y3 [(0,1,t171),(1,1,t172),(2,1,t173),(3,1,t174),(4,1,t178),(5,1,t179),(6,1,t180),(7,1,t181)],s 8 t10 t182])))))))
 (r [b q183 .add t103 (n 1),m q103 t183])))))))
 (R [l q184 8 t10,m q185 (n 0)] (.block 4 (.loop
 (R [b q186 .lss t185 (n 8)]
 (Q (C t186 .skip (.exit 4))
 (Q (.block 5
 (R [m q187 t185,O q188 (.indexArr 8 none 1 t184 t185),m q20 t187,m q21 t188]
 (r [m q189 t0,m q190 t20,O q191 (.nilCheck t189),f q192 0 t191,f q193 0 t192,a q194 (some 8) 1 t193 t190,L q195 t194,m q196 t21,b q197 .add t195 t196,O q198 (.nilCheck t189),f q199 0 t198,f q200 0 t199,a q201 (some 8) 1 t200 t190,s 1 t201 t197])))
 (r [b q202 .add t185 (n 1),m q185 t202]))))))))))⟩
def c525 : AFunc := ⟨[q0,q1,q2],[],R [L q4 t0,b q5 .neq t4 (n 0)]
 (C t5
 (R [m q3 (n 0)]
 (r [m q6 t3,s 1 t1 t6,s 1 t2 (n 0)])) .skip)⟩
def c526 : AFunc := ⟨[q0],[],R [O q5 .recover] (.block 0
 (R [O q7 (.eql false (.one .iface) t5 I)]
 (C t7
 (r [m q2 t5])
 (R [O q8 (.typeAssert 571 (.agg [z]) t5 true),x q9 t8 1,x q10 t8 0]
 (C t9
 (R [h q3 none [z],s 1 t3 t10]
 (r [m q11 t0,f q12 0 t3,L q13 t12,O q14 (.nilCheck t11),s 1 t14 t13]))
 (R [m q4 t5]
 (r [m q6 t4,N (.panic t6)])))))))⟩
def c527 : AFunc := ⟨[q0,q1,q2],[],R [L q4 t0,b q5 .neq t4 (n 0)]
 (C t5
 (R [m q3 (.const v)]
 (r [m q6 t3,s 1 t1 t6,s 1 t2 (n 0)])) .skip)⟩
def c528 : AFunc := ⟨[q0],[.cell q2 (some 3)],R [h q2 none [z,z,e]]
 (R [m q4 t0,k q5 384 [t4,n 1],O q6 (.indexStr t5 (n 0)),O q7 (.convInt .i64 t6),b q8 .sub t7 (n 1),m q3 t8]
 (R [m q9 t3,b q10 .geq t9 (n 0),m q11 t10,mt q12 t3 q11,Gt q13 (.bin .leq t12 (n 3)) q11,p q14 t11 t13 F,k q15 385 [t14]]
 (R [k q16 310 [],m q17 t3,O q18 (.indexArr 4 (some 3) 3 t16 t17),O q19 (.field 2 none t18),m q20 t0,O q21 (.call t19 [t20]),s 3 t2 t21] .ret)))⟩
def c533 : AFunc := ⟨[q0,q1,q2],[.tmp q6],R [m q6 (.const v)]
 (R [m q8 t0,m q9 t1,m q10 t2,m q11 t0,g q12 [t11],O q13 (.slice .slice 22 t8 (some t9) (some t10) (some t12))]
 (Q (R [m q14 t1,m q15 t2,b q16 .eql t14 t15]
 (C t16
 (R [m q17 t0,m q6 t17] .ret) .skip))
 (R [m q18 t0,g q19 [t18],m q7 t19]
 (R [m q20 t0,m q21 t1,O q22 (.slice .slice 22 t20 none (some t21) none),m q23 t0,m q24 t2,O q25 (.slice .slice 22 t23 (some t24) none none),j q26 (.append 22 Y7 false none) [t22,t25],m q0 t26]
 (R [m q27 t0,m q28 t0,g q29 [t28],m q30 t7,O q31 (.slice .slice 22 t27 (some t29) (some t30) none),N (.bi (.clear .slice Y7) [t31])]
 (R [m q32 t0,m q6 t32] .ret))))))⟩
def c535 : AFunc := ⟨[q0,q1],[.tmp q4],R [m q4 (.const v)]
 (R [m q5 (.const v)]
 (Q (R [m q8 t0,g q9 [t8],m q10 (n 0)] (.block 0 (.loop
 (R [b q11 .lss t10 t9]
 (Q (C t11 .skip (.exit 0))
 (Q (.block 1
 (R [a q12 none 6 t8 t10,l q13 6 t12,h q7 none Y14,s 6 t7 t13]
 (r [m q14 t5,m q15 t1,l q16 6 t7,O q17 (.call t15 [t16]),O q18 (.buildSlice [z,z,e] 1 [(0,3,t17)]),j q19 (.append 3 [z,z,e] false none) [t14,t18],m q5 t19])))
 (r [b q20 .add t10 (n 1),m q10 t20])))))))
 (R [m q21 t5,m q4 t21] .ret)))⟩
def c536 : AFunc := ⟨[q0,q1],[.tmp q4],R [m q4 (.const v)]
 (R [m q5 (.const v)]
 (Q (R [m q8 t0,g q9 [t8],m q10 (n 0)] (.block 0 (.loop
 (R [b q11 .lss t10 t9]
 (Q (C t11 .skip (.exit 0))
 (Q (.block 1
 (R [a q12 none 3 t8 t10,l q13 3 t12,h q7 none [z,z,e],s 3 t7 t13]
 (r [m q14 t5,m q15 t1,l q16 3 t7,O q17 (.call t15 [t16]),O q18 (.buildSlice [z] 1 [(0,1,t17)]),j q19 (.append 1 [z] false none) [t14,t18],m q5 t19])))
 (r [b q20 .add t10 (n 1),m q10 t20])))))))
 (R [m q21 t5,m q4 t21] .ret)))⟩
def c537 : AFunc := ⟨[q0],[.tmp q2],R [O q1 (.box none t0),m q2 (n 0)]
 (R [f q3 0 t1,L q4 t3,m q2 t4] .ret)⟩
def c559 : AFunc := ⟨[q0,q1],[.cell q4 (some 16),.tmp q5],R [h q4 none Y9,m q5 (n 0)]
 (R [m q9 t0,m q10 t1,k q11 591 [t9,t10],m q8 t11,x q12 t8 0,x q13 t8 1,m q6 t12,m q7 t13]
 (Q (R [m q14 t7,b q15 .neq t14 (n 0)]
 (C t15
 (R [B q16 Y9 [],m q17 t7,s 16 t4 t16,m q5 t17] .ret) .skip))
 (R [m q18 t6,k q19 276 [t18],s 16 t4 t19,m q5 (n 0)] .ret)))⟩
def c560 : AFunc := ⟨[q0,q1],[.tmp q4],R [m q4 (n 0)]
 (Q (R [m q5 t1,b q6 .leq t5 (n 0)]
 (C t6
 (R [m q7 t0,g q8 [t7],m q4 t8] .ret) .skip))
 (R [m q9 t0,m q10 t0,g q11 [t10],k q12 592 [t9,t11],m q4 t12] .ret))⟩
def c561 : AFunc := ⟨[q0],[.tmp q2],R [O q1 (.box none t0),m q2 (n 0)]
 (R [h q3 none Y9]
 (Q (.block 0
 (R [f q5 0 t1,L q6 t5,j q7 (.len .str) [t6],k q8 417 [t7,n 1,n 48],O q9 (.un .not t8),m q4 t9]
 (C t4
 (R [m q2 (n 0)] .ret)
 (R [f q11 2 t1,L q12 t11,b q13 .eql t12 (n 0),m q14 t13,Gt q15 (.fieldAddr 3 t1) q14,Gt q16 (.load none t15) q14,Gt q17 (.bin .eql t16 (n 0)) q14,p q18 t14 t17 F,m q19 t18,Gt q20 (.fieldAddr 4 t1) q19,Gt q21 (.load none t20) q19,Gt q22 (.bin .eql t21 (n 0)) q19,p q23 t19 t22 F,m q24 t23,Gt q25 (.fieldAddr 5 t1) q24,Gt q26 (.load none t25) q24,Gt q27 (.bin .eql t26 (n 0)) q24,p q28 t24 t27 F,m q29 t28,Gt q30 (.fieldAddr 6 t1) q29,Gt q31 (.load (some 16) t30) q29,Gt q32 (.load (some 16) t3) q29,Gt q33 (.eql false (.agg [(0,.int),(1,.int),(2,.int),(3,.int),(4,.int),(5,.int),(6,.int),(7,.int),(8,.int),(9,.int),(10,.int),(11,.int),(12,.int),(13,.int),(14,.int),(15,.int)]) t31 t32) q29,p q34 t29 t33 F,m q35 t34,Gt q36 (.fieldAddr 1 t1) q35,Gt q37 (.load none t36) q35,Gt q38 (.bi (.len .str) [t37]) q35,Gt q39 (.bin .leq t38 (n 64)) q35,p q40 t35 t39 F,m q10 t40]
 (C t10
 (R [m q2 (n 1)] .ret)
 (R [f q42 1 t1,L q43 t42,b q44 .neq t43 (S []),m q41 t44]
 (C t41
 (R [m q2 (n 0)] .ret)
 (R [f q46 4 t1,L q47 t46,b q48 .eql t47 (n 0),m q49 t48,Gt q50 (.fieldAddr 5 t1) q49,Gt q51 (.load none t50) q49,Gt q52 (.bin .eql t51 (n 0)) q49,p q53 t49 t52 F,m q54 t53,Gt q55 (.fieldAddr 2 t1) q54,Gt q56 (.load none t55) q54,Gt q57 (.call (K 424) [t56]) q54,p q58 t54 t57 F,m q59 t58,Gt q60 (.fieldAddr 3 t1) q59,Gt q61 (.load none t60) q59,Gt q62 (.call (K 417) [t61,n 65,n 4000]) q59,p q63 t59 t62 F,m q45 t63]
 (C t45
 (R [m q2 (n 2)] .ret)
 (R [f q65 2 t1,L q66 t65,b q67 .eql t66 (n 0),m q68 t67,Gt q69 (.fieldAddr 3 t1) q68,Gt q70 (.load none t69) q68,Gt q71 (.bin .eql t70 (n 0)) q68,p q72 t68 t71 F,m q73 t72,Gt q74 (.fieldAddr 4 t1) q73,Gt q75 (.load none t74) q73,Gt q76 (.call (K 424) [t75]) q73,p q77 t73 t76 F,m q78 t77,Gt q79 (.fieldAddr 5 t1) q78,Gt q80 (.load none t79) q78,Gt q81 (.call (K 417) [t80,n 1,n 2147483647]) q78,p q82 t78 t81 F,m q64 t82]
 (C t64
 (R [m q2 (n 3)] .ret) .skip)))))))))))
 (R [m q2 (n 0)] .ret)))⟩
def c563 : AFunc := ⟨[q0],[],R [O q5 .recover] (.block 0
 (R [O q7 (.eql false (.one .iface) t5 I)]
 (C t7
 (r [m q2 t5])
 (R [O q8 (.typeAssert 658 (.agg [z]) t5 true),x q9 t8 1,x q10 t8 0]
 (C t9
 (R [h q3 none [z],s 1 t3 t10]
 (r [m q11 t0,f q12 0 t3,L q13 t12,O q14 (.nilCheck t11),s 1 t14 t13]))
 (R [m q4 t5]
 (r [m q6 t4,N (.panic t6)])))))))⟩
def c564 : AFunc := ⟨[q0],[],R [O q1 (.box none t0)]
 (R [f q2 0 t1,L q3 t2,f q4 1 t1,L q5 t4,k q6 571 [t3,t5],k q7 570 [t6,n 2]]
 (r [l q8 2 t1,f q9 0 t1,L q10 t9,g q11 [t10],k q12 593 [t8,n 0,t11]]))⟩
def c565 : AFunc := ⟨[q0,q1,q2],[],R [O q3 (.box none t0)]
 (Q (R [l q9 2 t3,f q10 0 t3,L q11 t10,g q12 [t11],k q13 593 [t9,n 0,t12],k q14 568 [],b q15 .leq t13 t14]
 (C t15
 (R [m q16 t1,l q17 2 t3,O q18 (.call t16 [t17])] .ret) .skip))
 (R [f q19 0 t3,L q20 t19,g q21 [t20],b q22 .gtr t21 (n 1),k q23 570 [t22,n 1]]
 (R [l q25 2 t3,l q26 2 t3,h q6 none [v,z],h q7 none [v,z],W q27 (.call (K 595) [t26]) [⟨q25,.load (some 2) t3,none⟩] [q7,q6,q25],W q28 (.call (K 596) [t27]) [⟨q25,.load (some 2) t3,none⟩] [q7,q6,q25],D q29 (.call (K 594) [t25,t28]) [q7,q6],m q24 t29,x q30 t24 0,x q31 t24 1,x q32 t24 2,E (.store 2 t6 t30) [q32,q31],E (.store 2 t7 t31) [q32],m q8 t32]
 (R [l q33 2 t6,m q34 t1,m q35 t2,k q36 565 [t33,t34,t35]]
 (R [m q37 t2,m q38 t8,O q39 (.call t37 [t38])]
 (r [l q40 2 t7,m q41 t1,m q42 t2,k q43 565 [t40,t41,t42]]))))))⟩
def c566 : AFunc := ⟨[q0,q1],[],R [O q3 (.box none t1)]
 (r [m q4 t0,m q5 t0,O q6 (.nilCheck t5),f q7 0 t6,L q8 t7,f q9 0 t3,L q10 t9,W q11 (.call (K 415) [t10]) [⟨q8,.load none t7,none⟩] [q8,q7,q6,q5,q4],O q12 (.buildSlice [v] 1 [(0,1,t11)]),D q13 (.bi (.append 1 [v] false none) [t8,t12]) [q4],O q14 (.nilCheck t4),f q15 0 t14,s 1 t15 t13])⟩
def c568 : AFunc := ⟨[],[.tmp q0],R [m q0 (n 0)]
 (R [m q0 (n 496)] .ret)⟩
def c570 : AFunc := ⟨[q0,q1],[],R [m q4 t0,O q5 (.un .not t4)]
 (C t5
 (r [m q6 t1,B q7 [z] [(0,1,t6)],O q8 (.makeInterface 658 t7),N (.panic t8)]) .skip)⟩
def c571 : AFunc := ⟨[q0,q1],[.tmp q4],R [m q4 F]
 (Q (R [m q7 t1,b q8 .lss t7 (n 0),m q9 t8,mf q10 t1 q9,Gf q11 (.bin .gtr t10 (n 20)) q9,p q12 t9 T t11]
 (C t12
 (R [m q4 F] .ret) .skip))
 (Q (R [m q13 t0,g q14 [t13],m q15 (n 0)] (.block 0 (.loop
 (R [b q16 .lss t15 t14]
 (Q (C t16 .skip (.exit 0))
 (Q (.block 1
 (R [m q17 t15,a q18 none 22 t13 t15,l q19 22 t18,h q6 none Y7,m q5 t17,s 22 t6 t19]
 (Q (R [m q20 t1,b q21 .gtr t20 (n 0),m q22 t21,mt q23 t5 q22,Gt q24 (.bin .eql t23 (n 0)) q22,p q25 t22 t24 F]
 (C t25
 (Q (R [f q26 0 t6,L q27 t26,b q28 .neq t27 (S [])]
 (C t28
 (R [m q4 F] .ret) .skip)) (.exit 1)) .skip))
 (R [f q29 0 t6,L q30 t29,j q31 (.len .str) [t30],b q32 .lss t31 (n 1),m q33 t32,Gf q34 (.fieldAddr 0 t6) q33,Gf q35 (.load none t34) q33,Gf q36 (.bi (.len .str) [t35]) q33,Gf q37 (.bin .gtr t36 (n 48)) q33,p q38 t33 T t37,m q39 t38,mf q40 t5 q39,Gf q41 (.bin .gtr t40 (n 0)) q39,mf q42 t41 q39,Gt q43 (.fieldAddr 0 t6) q42,Gt q44 (.load none t43) q42,mt q45 t0 q42,mt q46 t5 q42,Gt q47 (.bin .sub t46 (n 1)) q42,Gt q48 (.indexAddr none 22 t45 t47) q42,Gt q49 (.fieldAddr 0 t48) q42,Gt q50 (.load none t49) q42,Gt q51 (.bin .leq t44 t50) q42,Gf q52 (.pick t42 t51 F) q39,p q53 t39 T t52]
 (C t53
 (R [m q4 F] .ret) .skip)))))
 (r [b q54 .add t15 (n 1),m q15 t54])))))))
 (R [m q4 T] .ret)))⟩
def c574 : AFunc := ⟨[q0,q1],[.tmp q4,.tmp q5],R [O q2 (.box none t0),m q4 (n 0),m q5 F]
 (Q (R [m q6 t1,b q7 .gtr t6 (n 0)]
 (C t7
 (R [f q8 0 t2,L q9 t8,j q10 (.len .str) [t9],b q11 .add t10 (n 27),l q12 22 t2,W q13 (.call (K 562) [t12]) [⟨q10,.bi (.len .str) [t9],none⟩,⟨q9,.load none t8,none⟩] [q11,q10,q9,q8],m q4 t11,m q5 t13] .ret) .skip))
 (Q (R [l q14 22 t2,k q15 561 [t14]] (.block 0
 (R [b q17 .eql t15 (n 1),m q16 t17]
 (C t16
 (R [f q18 0 t2,L q19 t18,j q20 (.len .str) [t19],f q21 1 t2,L q22 t21,j q23 (.len .str) [t22],b q24 .add t20 t23,b q25 .add t24 (n 5),m q4 t25,m q5 T] .ret)
 (R [b q27 .eql t15 (n 2),m q26 t27]
 (C t26
 (R [f q28 0 t2,L q29 t28,j q30 (.len .str) [t29],b q31 .add t30 (n 27),m q4 t31,m q5 T] .ret)
 (R [b q33 .eql t15 (n 3),m q32 t33]
 (C t32
 (R [f q34 0 t2,L q35 t34,j q36 (.len .str) [t35],b q37 .add t36 (n 29),m q4 t37,m q5 T] .ret) .skip))))))))
 (R [m q4 (n 0),m q5 F] .ret)))⟩
def c575 : AFunc := ⟨[q0,q1,q2],[.tmp q4],R [m q4 F]
 (R [L q8 t1,m q9 t0,O q10 (.call t8 [t9]),m q7 t10,x q11 t7 0,x q12 t7 1,m q5 t11,m q6 t12]
 (R [m q13 t5,L q14 t2,b q15 .gtr t13 t14,m q16 t15,mf q17 t5 q16,Gf q18 (.load none t2) q16,Gf q19 (.bin .eql t17 t18) q16,mf q20 t19 q16,mt q21 t6 q20,Gt q22 (.bin .gtr t21 (i .u64 0)) q20,Gf q23 (.pick t20 t22 F) q16,p q24 t16 T t23,m q4 t24] .ret))⟩
def c577 : AFunc := ⟨[q0,q1],[.tmp q4,.tmp q5],R [m q4 (i .u64 0),m q5 (i .u64 0)]
 (R [m q14 t0,b q15 .and t14 (i .u64 4294967295),m q6 t15]
 (R [m q16 t0,b q17 .shr t16 (i .u64 32),m q7 t17]
 (R [m q18 t1,b q19 .and t18 (i .u64 4294967295),m q8 t19]
 (R [m q20 t1,b q21 .shr t20 (i .u64 32),m q9 t21]
 (R [m q22 t6,m q23 t8,b q24 .mul t22 t23,m q10 t24]
 (R [m q25 t7,m q26 t8,b q27 .mul t25 t26,m q28 t10,b q29 .shr t28 (i .u64 32),b q30 .add t27 t29,m q11 t30]
 (R [m q31 t11,b q32 .and t31 (i .u64 4294967295),m q12 t32]
 (R [m q33 t11,b q34 .shr t33 (i .u64 32),m q13 t34]
 (R [m q35 t12,m q36 t6,m q37 t9,b q38 .mul t36 t37,b q39 .add t35 t38,m q12 t39]
 (R [m q40 t7,m q41 t9,b q42 .mul t40 t41,m q43 t13,b q44 .add t42 t43,m q45 t12,b q46 .shr t45 (i .u64 32),b q47 .add t44 t46,m q4 t47]
 (R [m q48 t0,m q49 t1,b q50 .mul t48 t49,m q5 t50] .ret)))))))))))⟩
def c579 : AFunc := ⟨[q0],[.tmp q2],R [m q2 (.const (.flt .f64 0))]
 (Q (.block 0
 (R [m q9 t0,b q10 .eql t9 (.const (.flt .f64 0)),m q11 t10,mf q12 t0 q11,Gf q13 (.call (K 607) [t12]) q11,p q14 t11 T t13,m q15 t14,mf q16 t0 q15,Gf q17 (.call (K 608) [t16,n 0]) q15,p q18 t15 T t17,m q8 t18]
 (C t8
 (R [m q19 t0,m q2 t19] .ret) .skip)))
 (R [m q3 F]
 (Q (R [m q20 t0,b q21 .lss t20 (.const (.flt .f64 0))]
 (C t21
 (R [m q22 t0,O q23 (.un .neg t22),m q0 t23]
 (r [m q3 T])) .skip))
 (R [m q24 t0,k q25 610 [t24],b q26 .quo t25 (i .u64 3),b q27 .add t26 (i .u64 3071306043645493248),k q28 609 [t27],m q4 t28]
 (Q (R [m q29 t0,b q30 .lss t29 (.const (.flt .f64 4503599627370496))]
 (C t30
 (R [m q4 (.const (.flt .f64 4850376798678024192))]
 (R [m q31 t4,m q32 t0,b q33 .mul t31 t32,m q4 t33]
 (r [m q34 t4,k q35 610 [t34],b q36 .quo t35 (i .u64 3),b q37 .add t36 (i .u64 2990241250352824320),k q38 609 [t37],m q4 t38]))) .skip))
 (R [m q39 t4,m q40 t4,b q41 .mul t39 t40,m q42 t0,b q43 .quo t41 t42,m q5 t43]
 (R [m q44 t5,m q45 t4,b q46 .mul t44 t45,b q47 .add (.const (.flt .f64 4603064841997850097)) t46,m q6 t47]
 (R [m q48 t4,m q49 t6,b q50 .add t49 (.const (.flt .f64 4609048195788499471)),m q51 t6,b q52 .quo (.const (.flt .f64 13827900089180538932)) t51,b q53 .add t50 t52,b q54 .quo (.const (.flt .f64 4609916747145206638)) t53,b q55 .add (.const (.flt .f64 4600105333671292343)) t54,b q56 .mul t48 t55,m q4 t56]
 (R [m q57 t4,k q58 610 [t57],b q59 .and t58 (i .u64 18446744072635809792),b q60 .add t59 (i .u64 1073741824),k q61 609 [t60],m q4 t61]
 (R [m q62 t4,m q63 t4,b q64 .mul t62 t63,m q6 t64]
 (R [m q65 t0,m q66 t6,b q67 .quo t65 t66,m q5 t67]
 (R [m q68 t4,m q69 t4,b q70 .add t68 t69,m q7 t70]
 (R [m q71 t5,m q72 t4,b q73 .sub t71 t72,m q74 t7,m q75 t5,b q76 .add t74 t75,b q77 .quo t73 t76,m q5 t77]
 (R [m q78 t4,m q79 t4,m q80 t5,b q81 .mul t79 t80,b q82 .add t78 t81,m q4 t82]
 (Q (R [m q83 t3]
 (C t83
 (r [m q84 t4,O q85 (.un .neg t84),m q4 t85]) .skip))
 (R [m q86 t4,m q2 t86] .ret))))))))))))))))⟩
def c580 : AFunc := ⟨[q0,q1],[.tmp q4],R [m q4 (i .u32 0)]
 (R [m q6 t1,O q7 (.convInt .u64 t6),b q8 .and t7 (i .u64 31),m q5 t8]
 (R [m q9 t0,m q10 t5,b q11 .shl t9 t10,m q12 t0,m q13 t5,b q14 .sub (i .u64 32) t13,b q15 .shr t12 t14,b q16 .or t11 t15,m q4 t16] .ret))⟩
def c591 : AFunc := ⟨[q0,q1],[.tmp q4,.tmp q5],R [m q4 (S []),m q5 (n 0)]
 (Q (R [m q9 t0,m q10 t1,k q11 504 [t9,t10],O q12 (.un .not t11)]
 (C t12
 (R [m q4 (S []),m q5 (n 2)] .ret) .skip))
 (R [B q13 [.ptr none,v] [],O q14 (.box (some 678) t13),m q6 t14]
 (R [m q15 t6,m q16 t1,k q17 613 [t15,t16,n 1]]
 (R [m q18 t6,m q19 t0,g q20 [t19],k q21 613 [t18,t20,n 2]]
 (Q (R [m q22 t0,g q23 [t22],m q24 (n 0)] (.block 0 (.loop
 (R [b q25 .lss t24 t23]
 (Q (C t25 .skip (.exit 0))
 (Q (.block 1
 (R [a q26 none 22 t22 t24,l q27 22 t26,h q8 none Y7,s 22 t8 t27]
 (R [m q28 t6,f q29 0 t8,L q30 t29,j q31 (.len .str) [t30],k q32 613 [t28,t31,n 1]]
 (R [m q33 t6,O q34 (.nilCheck t33),f q35 0 t34,f q36 0 t8,L q37 t36,k q38 300 [t35,t37]] (.block 2
 (R [m q47 t1,b q48 .gtr t47 (n 0),m q46 t48]
 (C t46
 (R [m q49 t6,f q50 5 t8,L q51 t50,k q52 613 [t49,t51,n 4]]
 (r [m q53 t6,f q54 6 t8,l q55 16 t54,k q56 614 [t53,t55]]))
 (R [f q58 4 t8,L q59 t58,b q60 .gtr t59 (n 0),m q57 t60]
 (C t57
 (R [m q61 t6,k q62 613 [t61,n 1,n 1]]
 (R [m q63 t6,f q64 5 t8,L q65 t64,k q66 613 [t63,t65,n 4]]
 (r [m q67 t6,f q68 6 t8,l q69 16 t68,k q70 614 [t67,t69]])))
 (R [f q72 2 t8,L q73 t72,b q74 .gtr t73 (n 0),m q71 t74]
 (C t71
 (R [m q75 t6,k q76 613 [t75,n 0,n 1]]
 (r [m q77 t6,f q78 6 t8,l q79 16 t78,k q80 614 [t77,t79]]))
 (R [m q39 t6,k q40 613 [t39,n 0,n 1]]
 (r [m q41 t6,f q42 1 t8,L q43 t42,k q44 276 [t43],k q45 614 [t41,t44]])))))))))))))
 (r [b q81 .add t24 (n 1),m q24 t81])))))))
 (R [m q82 t6,O q83 (.nilCheck t82),f q84 0 t83,k q85 303 [t84],m q4 t85,m q5 (n 0)] .ret))))))⟩
def c593 : AFunc := ⟨[q0,q1,q2],[.tmp q6],R [O q3 (.box none t0),m q6 (n 0)]
 (R [f q10 0 t3,L q11 t10,m q12 t1,m q13 t2,O q14 (.slice .slice 22 t11 (some t12) (some t13) none),k q15 415 [t14],m q7 t15]
 (Q (R [f q16 1 t3,L q17 t16,b q18 .gtr t17 (n 0),m q19 t18,mt q20 t7 q19,Gt q21 (.bi (.len .slice) [t20]) q19,Gt q22 (.bin .gtr t21 (n 0)) q19,p q23 t19 t22 F]
 (C t23
 (r [m q24 t7,a q25 none 22 t24 (n 0),f q26 0 t25,s 1 t26 (S [])]) .skip))
 (R [m q28 t7,f q29 1 t3,L q30 t29,k q31 517 [t28,t30],m q27 t31,x q32 t27 0,x q33 t27 1,m q8 t32,m q9 t33]
 (R [m q34 t9,b q35 .eql t34 (n 0),m q36 t9,k q37 570 [t35,t36]]
 (R [m q38 t8,m q6 t38] .ret)))))⟩
def c607 : AFunc := ⟨[q0],[.tmp q2],R [m q2 F]
 (R [m q3 t0,m q4 t0,b q5 .neq t3 t4,m q2 t5] .ret)⟩
def c608 : AFunc := ⟨[q0,q1],[.tmp q4],R [m q4 F]
 (Q (R [m q5 t1,b q6 .eql t5 (n 0)]
 (C t6
 (r [m q7 t0,k q8 620 [t7],m q0 t8])
 (R [m q9 t1,b q10 .lss t9 (n 0)]
 (C t10
 (r [m q11 t0,O q12 (.un .neg t11),m q0 t12]) .skip))))
 (R [m q13 t0,b q14 .gtr t13 (.const (.flt .f64 9218868437227405311)),m q4 t14] .ret))⟩
def c613 : AFunc := ⟨[q0,q1,q2],[],R [m q7 t2,b q8 .sub t7 (n 1),m q6 t8] (.block 0 (.loop
 (Q (R [m q9 t6,b q10 .geq t9 (n 0)]
 (C t10 .skip (.exit 0)))
 (Q (.block 1
 (r [m q13 t0,O q14 (.nilCheck t13),f q15 0 t14,m q16 t1,m q17 t6,b q18 .mul (n 8) t17,b q19 .shr t16 t18,O q20 (.convInt .u8 t19),k q21 498 [t15,t20]]))
 (r [m q11 t6,b q12 .sub t11 (n 1),m q6 t12])))))⟩
def c614 : AFunc := ⟨[q0,q1],[],R [O q3 (.box none t1)]
 (r [m q4 t0,O q5 (.nilCheck t4),f q6 0 t5,O q7 (.slice (.arr 16) 1 t3 none none none),O q8 (.convStr t7),k q9 300 [t6,t8]])⟩
def c620 : AFunc := ⟨[q0],[.tmp q2],R [m q2 (.const (.flt .f64 0))]
 (R [m q3 t0,k q4 610 [t3],b q5 .andNot t4 (i .u64 9223372036854775808),k q6 609 [t5],m q2 t6] .ret)⟩
def c639 : AFunc := ⟨[q0,q1],[.tmp q4],R [O q2 (.box none t0),m q4 F]
 (R [m q12 t1,f q13 0 t2,f q14 1 t13,L q15 t14,k q16 96 [t12,t15],m q11 t16,x q17 t11 0,x q18 t11 1,h q5 none Y17,s 4 t5 t17,m q6 t18]
 (R [m q20 t1,f q21 0 t2,f q22 10 t21,L q23 t22,k q24 96 [t20,t23],m q19 t24,x q25 t19 0,x q26 t19 1,h q7 none Y17,s 4 t7 t25,m q8 t26]
 (Q (R [m q27 t8,O q28 (.un .not t27),m q29 t28,Gf q30 (.fieldAddr 0 t2) q29,Gf q31 (.fieldAddr 9 t30) q29,Gf q32 (.load none t31) q29,Gf q33 (.load (some 4) t5) q29,Gf q34 (.call (K 640) [t32,t33]) q29,Gf q35 (.un .not t34) q29,p q36 t29 T t35,m q37 t36,Gf q38 (.fieldAddr 0 t2) q37,Gf q39 (.fieldAddr 9 t38) q37,Gf q40 (.load none t39) q37,Gf q41 (.bi (.len .slice) [t40]) q37,Gf q42 (.fieldAddr 3 t7) q37,Gf q43 (.load none t42) q37,Gf q44 (.bi (.len .slice) [t43]) q37,Gf q45 (.bin .neq t41 t44) q37,p q46 t37 T t45,m q47 t46,Gf q48 (.fieldAddr 0 t2) q47,Gf q49 (.fieldAddr 3 t48) q47,Gf q50 (.load (some 6) t49) q47,Gf q51 (.build Y14 []) q47,Gf q52 (.call (K 165) [t50,t51]) q47,Gf q53 (.un .not t52) q47,p q54 t47 T t53]
 (C t54
 (R [m q4 F] .ret) .skip))
 (Q (R [f q55 0 t2,f q56 9 t55,L q57 t56,g q58 [t57],m q59 (n 0)] (.block 0 (.loop
 (R [b q60 .lss t59 t58]
 (Q (C t60 .skip (.exit 0))
 (Q (.block 1
 (R [m q61 t59,a q62 none 1 t57 t59,L q63 t62,m q9 t61,m q10 t63]
 (R [f q64 2 t5,L q65 t64,m q66 t10,a q67 none 6 t65 t66,f q68 1 t67,L q69 t68,f q70 2 t7,L q71 t70,f q72 3 t7,L q73 t72,m q74 t9,a q75 none 1 t73 t74,L q76 t75,a q77 none 6 t71 t76,f q78 1 t77,L q79 t78,b q80 .neq t69 t79,m q81 t80,Gf q82 (.fieldAddr 0 t2) q81,Gf q83 (.fieldAddr 11 t82) q81,Gf q84 (.load none t83) q81,Gf q85 (.bin .eql t84 (n 2)) q81,mf q86 t85 q81,Gt q87 (.fieldAddr 2 t5) q86,Gt q88 (.load none t87) q86,mt q89 t10 q86,Gt q90 (.indexAddr none 6 t88 t89) q86,Gt q91 (.fieldAddr 2 t90) q86,Gt q92 (.load none t91) q86,Gt q93 (.un .not t92) q86,Gf q94 (.pick t86 t93 F) q81,p q95 t81 T t94]
 (C t95
 (R [m q4 F] .ret) .skip))))
 (r [b q96 .add t59 (n 1),m q59 t96])))))))
 (R [f q97 0 t2,f q98 11 t97,L q99 t98,b q100 .geq t99 (n 0),m q101 t100,Gt q102 (.fieldAddr 0 t2) q101,Gt q103 (.fieldAddr 11 t102) q101,Gt q104 (.load none t103) q101,Gt q105 (.bin .leq t104 (n 2)) q101,p q106 t101 t105 F,m q4 t106] .ret)))))⟩
def c640 : AFunc := ⟨[q0,q1],[.tmp q4],R [O q3 (.box none t1),m q4 F]
 (Q (R [m q7 t0,g q8 [t7],m q9 (n 0)] (.block 0 (.loop
 (R [b q10 .lss t9 t8]
 (Q (C t10 .skip (.exit 0))
 (Q (.block 1
 (R [m q11 t9,a q12 none 1 t7 t9,L q13 t12,m q5 t11,m q6 t13]
 (R [m q14 t6,b q15 .lss t14 (n 0),m q16 t15,mf q17 t6 q16,Gf q18 (.fieldAddr 2 t3) q16,Gf q19 (.load none t18) q16,Gf q20 (.bi (.len .slice) [t19]) q16,Gf q21 (.bin .geq t17 t20) q16,p q22 t16 T t21,m q23 t22,mf q24 t0 q23,mf q25 t5 q23,Gf q26 (.slice .slice 1 t24 none (some t25) none) q23,mf q27 t6 q23,Gf q28 (.call (K 641) [t26,t27]) q23,p q29 t23 T t28]
 (C t29
 (R [m q4 F] .ret) .skip))))
 (r [b q30 .add t9 (n 1),m q9 t30])))))))
 (R [m q4 T] .ret))⟩
def c641 : AFunc := ⟨[q0,q1],[.tmp q4],R [m q4 F]
 (R [m q5 t0,m q6 t1,k q7 642 [t5,t6],b q8 .geq t7 (n 0),m q4 t8] .ret)⟩
def c642 : AFunc := ⟨[q0,q1],[.tmp q4],R [m q4 (n 0)]
 (Q (R [m q6 t0,g q7 [t6],m q8 (n 0)] (.block 0 (.loop
 (R [b q9 .lss t8 t7]
 (Q (C t9 .skip (.exit 0))
 (Q (.block 1
 (R [m q10 t8,m q5 t10]
 (R [m q11 t1,m q12 t0,m q13 t5,a q14 none 1 t12 t13,L q15 t14,b q16 .eql t11 t15]
 (C t16
 (R [m q17 t5,m q4 t17] .ret) .skip))))
 (r [b q18 .add t8 (n 1),m q8 t18])))))))
 (R [m q4 (n (-1))] .ret))⟩
def c643 : AFunc := ⟨[q0,q1],[.tmp q4],R [O q2 (.box none t0),m q4 F]
 (R [m q10 t1,f q11 0 t2,f q12 1 t11,L q13 t12,k q14 96 [t10,t13],m q9 t14,x q15 t9 0,x q16 t9 1,h q5 none Y17,s 4 t5 t15,m q6 t16]
 (R [f q18 0 t2,f q19 3 t18,l q20 6 t19,l q21 4 t5,W q22 (.call (K 84) [t21]) [⟨q20,.load (some 6) t19,none⟩] [q20,q19,q18],k q23 85 [t20,t22,.const v],m q17 t23,x q24 t17 0,x q25 t17 1,m q7 t24,m q8 t25]
 (R [m q26 t8,b q27 .eql t26 (n 0),m q28 t27,mt q29 t7 q28,Gt q30 (.bin .eql t29 (n 1)) q28,mt q31 t30 q28,mf q32 t7 q31,Gf q33 (.bin .eql t32 (n 0)) q31,Gt q34 (.pick t31 T t33) q28,p q35 t28 t34 F,m q36 t35,Gt q37 (.fieldAddr 0 t2) q36,Gt q38 (.fieldAddr 9 t37) q36,Gt q39 (.load none t38) q36,Gt q40 (.bi (.len .slice) [t39]) q36,Gt q41 (.bin .eql t40 (n 0)) q36,p q42 t36 t41 F,m q43 t42,Gt q44 (.fieldAddr 0 t2) q43,Gt q45 (.fieldAddr 10 t44) q43,Gt q46 (.load none t45) q43,Gt q47 (.bin .eql t46 (S [])) q43,p q48 t43 t47 F,m q49 t48,Gt q50 (.fieldAddr 0 t2) q49,Gt q51 (.fieldAddr 11 t50) q49,Gt q52 (.load none t51) q49,Gt q53 (.bin .eql t52 (n 0)) q49,p q54 t49 t53 F,m q4 t54] .ret)))⟩
end A3.Y
