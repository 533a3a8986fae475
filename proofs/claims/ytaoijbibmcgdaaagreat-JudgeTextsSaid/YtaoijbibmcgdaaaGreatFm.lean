/-
  The program's functions as code of the machine PF (printed by a program of mine), each checked against the program.
-/
import Derived.Test.YtaoijbibmcgdaaaGreatPFe
import Derived.Test.YtaoijbibmcgdaaaGreatSh
import Derived.Test.YtaoijbibmcgdaaaGreatX8
import Derived.Test.YtaoijbibmcgdaaaGreatPFb
import Derived.Test.YtaoijbibmcgdaaaGreatChecked
import Derived.KernelRfl
set_option linter.unusedVariables false
set_option linter.unusedSimpArgs false
namespace Go.Proofs.YtaoijbibmcgdaaaGreat
open Go.Proofs.PF
set_option maxRecDepth 100000
abbrev n_trace_Got :Nat:=113
abbrev n_round_machine_node :Nat:=137
abbrev n_strings_Repeat :Nat:=242
abbrev n_slices_Clone_api_Port_api_Port :Nat:=243
abbrev n_slices_Clone_string_string :Nat:=244
def B6_0 :MCode:=
 .k (.q [.m 86 12,.m 87 11,.e 88 87,.b 89 .lss 86 88] (.c 89 .skip (.exit 0))) (.k (.o 1 (.r [.m 92 10,.m 93 92,.w 93 false (.m 94 3),.w 93 false (.m 95 11),.w 93 false (.m 96 12),.w 93 false (.ix 97 1 95 96),.w 93 false (.l 98 97),.w 93 false (.b 99 .geq 94 98),.w 93 false (.m 100 99),.w 100 true (.m 101 3),.w 100 true (.m 102 11),.w 100 true (.m 103 12),.w 100 true (.ix 104 1 102 103),.w 100 true (.l 105 104),.w 100 true (.f 106 0 4),.w 100 true (.f 107 3 106),.w 100 true (.l 108 107),.w 100 true (.b 109 .add 105 108),.w 100 true (.b 110 .lss 101 109),.w 93 false (.pa 111 100 110 false),.po 112 93 true 111,.m 10 112])) (.r [.m 90 12,.bi 91 .add 90 1,.m 12 91]))
def F6 :MFunc:=
 {nargs:=4,ntmps:=171,res:=[.t 8],body:=.q [.be 4 0,.mb 8 false] (.k (.q [.L 15 14 4,.m 16 1,.k 17 7 [.t 15,.t 16],.no 18 17,.m 19 18,.w 19 false (.L 20 14 4),.w 19 false (.k 21 16 [.t 20]),.w 19 false (.bi 22 .neq 21 0),.po 23 19 true 22,.m 24 23,.w 24 false (.m 25 1),.w 24 false (.e 26 25),.w 24 false (.f 27 13 4),.w 24 false (.l 28 27),.w 24 false (.e 29 28),.w 24 false (.b 30 .neq 26 29),.po 31 24 true 30,.m 32 31,.w 32 false (.m 33 3),.w 32 false (.bi 34 .lss 33 0),.po 35 32 true 34,.m 36 35,.w 36 false (.m 37 3),.w 36 false (.m 38 1),.w 36 false (.e 39 38),.w 36 false (.b 40 .geq 37 39),.po 41 36 true 40,.m 42 41,.w 42 false (.L 43 14 4),.w 42 false (.m 44 2),.w 42 false (.k 45 18 [.t 43,.t 44]),.po 46 42 true 45,.m 47 46,.w 47 false (.m 48 2),.w 47 false (.bi 49 .lss 48 0),.po 50 47 true 49,.m 51 50,.w 51 false (.m 52 2),.w 51 false (.m 53 1),.w 51 false (.m 54 3),.w 51 false (.ix 55 1 53 54),.w 51 false (.l 56 55),.w 51 false (.e 57 56),.w 51 false (.b 58 .geq 52 57),.po 59 51 true 58,.m 60 59,.w 60 false (.m 61 1),.w 60 false (.m 62 3),.w 60 false (.ix 63 1 61 62),.w 60 false (.l 64 63),.w 60 false (.m 65 2),.w 60 false (.ix 66 7 64 65),.w 60 false (.f 67 6 66),.w 60 false (.l 68 67),.w 60 false (.e 69 68),.w 60 false (.bi 70 .eql 69 0),.po 71 60 true 70] (.i 71 (.q [.k 72 8 [],.m 8 72] .ret))) (.q [.L 73 14 4,.m 74 1,.k 75 9 [.t 73,.t 74],.nw 9 109 [.z,.z,.z,.z,.z,.z,.z,.z,.z,.z],.S 10 9 75] (.q [.mb 10 false] (.q [.f 76 0 4,.L 77 11 76,.m 78 1,.L 79 14 4,.kd 80 21 [.t 79],.s 81 (.ia 1 (.t 80) (.i 0)),.l 82 81,.L 83 14 4,.kd 84 22 [.t 83],.kd 85 20 [.t 77,.t 78,.t 82,.t 84],.mx 11 85] (.k (.q [.mi 12 0] (.o 0 (.loop [1,2,3,4,9,10,11,12] [109] [1,2,3,4,9,10] B6_0))) (.q [.m 113 1,.m 114 3,.ix 115 1 113 114,.l 116 115,.m 117 2,.ix 118 7 116 117,.L 119 7 118,.nw 13 113 [.o,.o,.z,.z,.e,.z,.n],.S 7 13 119] (.k (.q [.f 120 5 9,.s 121 (.iaA 5 1 (.t 120) (.i 3)),.l 122 121,.bi 123 .neq 122 0,.m 124 123,.w 124 false (.f 125 5 9),.g 126 124 false (.iaA 5 1 (.t 125) (.i 0)),.w 124 false (.l 127 126),.w 124 false (.bi 128 .eql 127 2),.po 129 124 true 128,.m 130 129,.w 130 false (.m 131 10),.w 130 false (.no 132 131),.po 133 130 true 132,.m 134 133,.w 134 false (.L 135 14 4),.w 134 false (.f 136 6 13),.w 134 false (.l 137 136),.g 138 134 false (.ia 4 (.t 137) (.i 0)),.w 134 false (.f 139 0 138),.w 134 false (.l 140 139),.w 134 false (.kd 141 18 [.t 135,.t 140]),.po 142 134 true 141] (.i 142 (.q [.k 143 8 [],.m 8 143] .ret))) (.q [.s 14 (.nilA 100001 4 true (.c (.n)))] (.q [.mx 144 14,.f 145 6 13,.l 146 145,.s 147 (.appA 4 true (.x 144) (.t 146)),.mx 14 147] (.q [.m 148 14,.m 149 14,.s 150 (.ia 4 (.t 149) (.i 0)),.f 151 3 150,.l 152 151,.bc 153 .add 152 (.str [120]),.s 154 (.ia 4 (.t 148) (.i 0)),.f 155 3 154,.S 1 155 153] (.q [.s 156 (.frz (.t 14)),.f 157 6 13,.S 1 157 156] (.q [.L 158 14 4,.m 159 1,.m 160 3,.m 161 2,.L 162 7 13,.kd 163 19 [.t 159,.t 160,.t 161,.t 162],.kd 164 9 [.t 158,.t 163],.s 165 (.fld 5 5 true (.t 164)),.s 166 (.ixA 5 1 false (.t 165) (.i 3)),.bi 167 .neq 166 0,.m 168 167,.w 168 true (.kd 169 8 []),.pa 170 168 169 false,.m 8 170] .ret))))))))))))}
def F7 :MFunc:=
 {nargs:=2,ntmps:=11,res:=[.t 4],body:=.q [.be 2 0,.mb 4 false] (.q [.L 5 14 2,.k 6 23 [.t 5,.i 400],.m 7 6,.w 7 true (.m 8 1),.w 7 true (.k 9 24 [.t 8,.i 400]),.pa 10 7 9 false,.m 4 10] .ret)}
def F8 :MFunc:=
 {nargs:=0,ntmps:=50,res:=[.t 0],body:=.q [.mb 0 false] (.q [.k 4 25 [],.bd 5 [.z,.e] [(0,1,.i 1),(1,1,.c (.str [97]))],.li 6 2 true [.z,.e] 1 [(0,.t 5)],.bd 7 [.n,.n,.n,.n,.n,.n] [(5,1,.t 6)],.bd 8 [.z,.e] [(0,1,.i 1)],.li 9 2 true [.z,.e] 1 [(0,.t 8)],.bd 10 [.n,.n,.n,.n,.n,.n] [(3,1,.t 9)],.li 11 6 true [.n,.n,.n,.n,.n,.n] 2 [(0,.t 7),(1,.t 10)],.bd 12 [.z,.z,.z,.z,.z,.z,.z,.z,.z,.z,.n,.n,.n,.n] [(0,11,.t 4),(13,1,.t 11)],.nw 1 101 [.z,.z,.z,.z,.z,.z,.z,.z,.z,.z,.n,.n,.n,.n],.S 14 1 12] (.q [.L 13 14 1,.li 14 7 true [.o,.o,.z,.z,.e,.z,.n] 4 [],.li 15 7 true [.o,.o,.z,.z,.e,.z,.n] 4 [],.li 16 1 false [.n] 2 [(0,.t 14),(1,.t 15)],.kd 17 9 [.t 13,.t 16],.nw 2 102 [.z,.z,.z,.z,.z,.z,.z,.z,.z,.z],.S 10 2 17] (.q [.L 18 14 1,.k 19 9 [.t 18,.c (.n)],.nw 3 103 [.z,.z,.z,.z,.z,.z,.z,.z,.z,.z],.S 10 3 19] (.q [.L 20 14 1,.k 21 13 [.t 20,.i 1,.i 0],.bc 22 .eql 21 (.str [97]),.m 23 22,.w 23 true (.L 24 14 1),.w 23 true (.k 25 13 [.t 24,.i 1,.i 1]),.w 23 true (.bc 26 .eql 25 (.str [])),.pa 27 23 26 false,.m 28 27,.w 28 true (.L 29 14 1),.w 28 true (.k 30 13 [.t 29,.i 4,.i 0]),.w 28 true (.bc 31 .eql 30 (.str [])),.pa 32 28 31 false,.m 33 32,.w 33 true (.L 34 10 2),.w 33 true (.bd 35 [.z,.z,.z,.z,.z,.z,.z,.z,.z,.z] [(0,1,.i 2),(1,1,.i 1),(2,1,.i 66),(3,1,.i 146)]),.g 36 33 true (.eqA false [.i .i64,.i .i64,.i .i64,.i .i64,.i .i64,.i .i64,.i .i64,.i .i64,.i .i64,.i .i64] (.t 34) (.t 35)),.pa 37 33 36 false,.m 38 37,.w 38 true (.L 39 10 3),.w 38 true (.bd 40 [.z,.z,.z,.z,.z] [(0,1,.i 2),(1,1,.i 2),(2,1,.i 2),(3,1,.i 2),(4,1,.i 2)]),.w 38 true (.bd 41 [.z,.z,.z,.z,.z,.z,.z,.z,.z,.z] [(5,5,.t 40)]),.g 42 38 true (.eqA false [.i .i64,.i .i64,.i .i64,.i .i64,.i .i64,.i .i64,.i .i64,.i .i64,.i .i64,.i .i64] (.t 39) (.t 41)),.pa 43 38 42 false,.m 44 43,.w 44 true (.L 45 14 1),.w 44 true (.k 46 11 [.t 45,.c (.n)]),.w 44 true (.e 47 46),.w 44 true (.bi 48 .eql 47 0),.pa 49 44 48 false,.m 0 49] .ret))))}
def F9 :MFunc:=
 {nargs:=2,ntmps:=69,res:=[.cell 4 10 true],body:=.q [.be 2 0,.nw 4 104 [.z,.z,.z,.z,.z,.z,.z,.z,.z,.z]] (.q [.L 10 14 2,.m 11 1,.k 12 26 [.t 10,.t 11],.m 9 12,.ex 13 9 0,.ex 14 9 1,.nw 5 105 [.z,.z,.z,.z,.z,.z,.z,.z,.z,.z,.n,.n,.n,.n,.n,.n,.z],.S 17 5 13,.m 6 14] (.k (.q [.m 15 6,.bi 16 .neq 15 0] (.i 16 (.q [.m 17 6,.m 18 6,.m 19 6,.m 20 6,.m 21 6,.bd 22 [.z,.z,.z,.z,.z] [(0,1,.t 17),(1,1,.t 18),(2,1,.t 19),(3,1,.t 20),(4,1,.t 21)],.bd 23 [.z,.z,.z,.z,.z,.z,.z,.z,.z,.z] [(5,5,.t 22)],.S 10 4 23] .ret))) (.q [.L 24 17 5,.k 25 27 [.t 24],.mx 7 25] (.q [.m 26 1,.e 27 26,.L 28 14 2,.kd 29 28 [.t 28],.L 30 14 2,.kd 31 29 [.t 30],.L 32 14 2,.kd 33 30 [.t 32],.m 34 7,.e 35 34,.bd 36 [.z,.z,.z,.z,.z,.z,.z,.z,.z,.z] [(0,1,.t 27),(1,1,.t 29),(2,1,.t 31),(3,1,.t 33),(4,1,.t 35)],.nw 8 108 [.z,.z,.z,.z,.z,.z,.z,.z,.z,.z],.S 10 8 36] (.q [.f 37 0 2,.L 38 11 37,.m 39 1,.f 40 14 5,.l 41 40,.f 42 2 8,.l 43 42,.k 44 31 [.t 38,.t 39,.t 41,.t 43],.f 45 5 8,.s 46 (.iaA 5 1 (.t 45) (.i 0)),.S 1 46 44] (.q [.L 47 17 5,.L 48 17 5,.s 49 (.mkB 33 [.t 48]),.kr 50 32 3000 [.t 47,.t 49],.f 51 5 8,.s 52 (.iaA 5 1 (.t 51) (.i 1)),.S 1 52 50] (.q [.L 53 17 5,.k 54 34 [.t 53],.f 55 5 8,.s 56 (.iaA 5 1 (.t 55) (.i 2)),.S 1 56 54] (.q [.L 57 17 5,.m 58 7,.k 59 35 [.t 57,.t 58],.f 60 5 8,.s 61 (.iaA 5 1 (.t 60) (.i 3)),.S 1 61 59] (.q [.L 62 17 5,.L 63 17 5,.s 64 (.mkB 36 [.t 63]),.kr 65 32 3600 [.t 62,.t 64],.f 66 5 8,.s 67 (.iaA 5 1 (.t 66) (.i 4)),.S 1 67 65] (.q [.L 68 10 8,.S 10 4 68] .ret))))))))))}
def F11 :MFunc:=
 {nargs:=2,ntmps:=17,res:=[.t 4],body:=.q [.be 2 0,.s 4 (.mv (.c (.n)))] (.q [.L 8 14 2,.m 9 1,.k 10 26 [.t 8,.t 9],.m 7 10,.ex 11 7 0,.ex 12 7 1,.nw 5 105 [.z,.z,.z,.z,.z,.z,.z,.z,.z,.z,.n,.n,.n,.n,.n,.n,.z],.S 17 5 11,.m 6 12] (.k (.q [.m 13 6,.bi 14 .neq 13 0] (.i 14 (.q [.s 4 (.mv (.c (.n)))] .ret))) (.q [.L 15 17 5,.k 16 27 [.t 15],.mx 4 16] .ret)))}
def B13_0 :MCode:=
 .q [.b 46 .lss 45 44] (.u 46 2 (.k (.o 3 (.q [.ix 47 2 43 45,.L 48 2 47,.nw 11 111 [.z,.e],.S 2 11 48] (.q [.f 49 0 11,.l 50 49,.m 51 1,.b 52 .eql 50 51] (.i 52 (.r [.f 53 0 3,.L 54 11 53,.f 55 1 11,.l 56 55,.k 57 45 [.t 54,.t 56],.s 58 (.fld 13 1 false (.t 57)),.m 7 58]))))) (.r [.bi 59 .add 45 1,.m 45 59])))
def B13_1 :MCode:=
 .q [.b 64 .lss 63 62] (.u 64 4 (.k (.o 5 (.q [.ix 65 2 61 63,.L 66 2 65,.nw 13 113 [.z,.e],.S 2 13 66] (.q [.f 67 0 13,.l 68 67,.m 69 1,.b 70 .eql 68 69] (.i 70 (.r [.f 71 1 13,.l 72 71,.m 7 72]))))) (.r [.bi 73 .add 63 1,.m 63 73])))
def B13_2 :MCode:=
 .q [.b 35 .lss 34 33] (.u 35 0 (.k (.o 1 (.q [.m 36 34,.ix 37 6 32 34,.L 38 6 37,.nw 9 109 [.n,.n,.n,.n,.n,.n],.m 8 36,.S 6 9 38] (.k (.q [.m 39 8,.m 40 2,.b 41 .gtr 39 40] (.i 41 (.exit 0))) (.k (.q [.f 42 3 9,.l 43 42,.e 44 43,.mi 45 0] (.o 2 (.loop [1,2,3,7,9,32,33,34,43,44,45] [109] [1,2,3,7,9,32,33,34] B13_0))) (.q [.f 60 5 9,.l 61 60,.e 62 61,.mi 63 0] (.o 4 (.loop [1,2,3,7,32,33,34,61,62,63] [109] [1,2,3,7,32,33,34] B13_1))))))) (.r [.bi 74 .add 34 1,.m 34 74])))
def F13 :MFunc:=
 {nargs:=3,ntmps:=76,res:=[.t 6],body:=.q [.be 3 0,.s 6 (.mv (.c (.str [])))] (.k (.q [.m 14 1,.bi 15 .lss 14 0,.m 16 15,.w 16 false (.m 17 1),.w 16 false (.f 18 0 3),.w 16 false (.f 19 0 18),.w 16 false (.l 20 19),.g 21 16 false (.mm false (.t 20) [.i 13]),.w 16 false (.b 22 .geq 17 21),.po 23 16 true 22] (.i 23 (.q [.s 6 (.mv (.c (.str [])))] .ret))) (.q [.f 24 0 3,.L 25 11 24,.L 26 14 3,.m 27 1,.kd 28 46 [.t 26,.t 27],.kd 29 45 [.t 25,.t 28],.s 30 (.fld 13 1 false (.t 29)),.m 7 30] (.k (.q [.f 31 13 3,.l 32 31,.e 33 32,.mi 34 0] (.o 0 (.loop [1,2,3,7,32,33,34] [] [7] B13_2))) (.q [.m 75 7,.m 6 75] .ret))))}
def F16 :MFunc:=
 {nargs:=1,ntmps:=15,res:=[.t 2],body:=.q [.be 1 0,.mi 2 0] (.k (.q [.L 3 14 1,.k 4 50 [.t 3],.bi 5 .neq 4 0] (.i 5 (.q [.L 6 14 1,.k 7 50 [.t 6],.m 2 7] .ret))) (.k (.q [.f 8 11 1,.l 9 8,.e 10 9,.f 11 0 1,.f 12 1 11,.l 13 12,.b 14 .gtr 10 13] (.i 14 (.q [.mi 2 7] .ret))) (.q [.mi 2 0] .ret)))}
def F18 :MFunc:=
 {nargs:=2,ntmps:=9,res:=[.t 4],body:=.q [.be 2 0,.mb 4 false] (.q [.f 5 11 2,.l 6 5,.m 7 1,.k 8 52 [.t 6,.t 7],.m 4 8] .ret)}
def F19 :MFunc:=
 {nargs:=4,ntmps:=29,res:=[.t 8],body:=.q [.be 7 3,.s 8 (.mv (.c (.n)))] (.q [.s 9 (.nilA 100002 1 false (.c (.n)))] (.q [.mx 11 9,.m 12 0,.s 13 (.appA 1 false (.x 11) (.t 12)),.mx 9 13] (.q [.s 10 (.nilA 100003 7 true (.c (.n)))] (.q [.mx 14 10,.m 15 0,.m 16 1,.ix 17 1 15 16,.l 18 17,.s 19 (.appA 7 true (.x 14) (.t 18)),.mx 10 19] (.q [.m 20 10,.m 21 2,.L 22 7 7,.ix 23 7 20 21,.S 7 23 22] (.q [.m 24 9,.m 25 1,.s 26 (.frz (.t 10)),.ix 27 1 24 25,.S 1 27 26] (.q [.m 28 9,.m 8 28] .ret)))))))}
def B20_0 :MCode:=
 .k (.q [.m 16 10,.m 17 1,.e 18 17,.b 19 .lss 16 18] (.c 19 .skip (.exit 0))) (.k (.o 1 (.q [.m 22 1,.m 23 10,.m 24 2,.k 25 54 [.t 22,.t 23,.t 24],.s 26 (.fld 0 1 false (.t 25)),.m 27 26,.w 27 true (.m 28 10),.w 27 true (.f 29 3 4),.w 27 true (.l 30 29),.w 27 true (.b 31 .add 28 30),.w 27 true (.m 32 1),.w 27 true (.e 33 32),.w 27 true (.b 34 .leq 31 33),.pa 35 27 34 false] (.i 35 (.r [.mx 36 9,.m 37 10,.li 38 1 false [.z] 1 [(0,.t 37)],.s 39 (.app 1 false (.x 36) (.t 38)),.mx 9 39])))) (.r [.m 20 10,.bi 21 .add 20 1,.m 10 21]))
def F20 :MFunc:=
 {nargs:=4,ntmps:=41,res:=[.t 8],body:=.q [.be 4 0,.s 8 (.mv (.c (.n)))] (.q [.s 9 (.mv (.c (.n)))] (.k (.q [.L 11 11 4,.k 12 53 [.t 11],.bi 13 .neq 12 0] (.i 13 (.q [.s 8 (.mv (.c (.n)))] .ret))) (.k (.q [.m 14 3,.s 15 (.mm true (.t 14) [.i 0]),.m 10 15] (.o 0 (.loop [1,2,4,9,10] [] [9] B20_0))) (.q [.m 40 9,.m 8 40] .ret))))}
def B21_0 :MCode:=
 .k (.q [.m 5 4,.f 6 0 1,.f 7 0 6,.l 8 7,.k 9 55 [.t 8,.i 0,.i 13],.b 10 .lss 5 9] (.c 10 .skip (.exit 0))) (.k (.o 1 (.q [.L 13 14 1,.m 14 4,.k 15 18 [.t 13,.t 14],.no 16 15] (.i 16 (.r [.mx 17 3,.m 18 4,.li 19 1 false [.z] 1 [(0,.t 18)],.s 20 (.app 1 false (.x 17) (.t 19)),.mx 3 20])))) (.r [.m 11 4,.bi 12 .add 11 1,.m 4 12]))
def F21 :MFunc:=
 {nargs:=1,ntmps:=22,res:=[.t 2],body:=.q [.be 1 0,.s 2 (.mv (.c (.n)))] (.q [.s 3 (.mv (.c (.n)))] (.k (.q [.mi 4 0] (.o 0 (.loop [1,3,4] [] [3] B21_0))) (.q [.m 21 3,.m 2 21] .ret)))}
def F22 :MFunc:=
 {nargs:=1,ntmps:=12,res:=[.t 2],body:=.q [.be 1 0,.mi 2 0] (.k (.q [.L 3 14 1,.k 4 50 [.t 3],.bi 5 .neq 4 0] (.i 5 (.q [.mi 2 0] .ret))) (.q [.L 6 14 1,.kd 7 38 [.t 6],.f 8 0 1,.L 9 11 8,.kd 10 56 [.t 9],.b 11 .add 7 10,.m 2 11] .ret))}
def B23_0 :MCode:=
 .k (.q [.m 34 5,.f 35 12 2,.l 36 35,.e 37 36,.b 38 .lss 34 37] (.c 38 .skip (.exit 0))) (.k (.o 1 (.q [.f 41 12 2,.l 42 41,.m 43 5,.ix 44 1 42 43,.l 45 44,.es 46 45,.bi 47 .gtr 46 16000] (.i 47 (.q [.mb 4 false] .ret)))) (.r [.m 39 5,.bi 40 .add 39 1,.m 5 40]))
def B23_1 :MCode:=
 .q [.b 98 .lss 97 96] (.u 98 4 (.k (.o 5 (.q [.ix 99 2 95 97,.L 100 2 99,.nw 9 109 [.z,.e],.S 2 9 100] (.q [.f 101 1 9,.l 102 101,.es 103 102,.bi 104 .gtr 103 16000] (.i 104 (.q [.mb 4 false] .ret))))) (.r [.bi 105 .add 97 1,.m 97 105])))
def B23_2 :MCode:=
 .k (.q [.m 48 6,.f 49 13 2,.l 50 49,.e 51 50,.b 52 .lss 48 51] (.c 52 .skip (.exit 2))) (.k (.o 3 (.q [.f 55 13 2,.l 56 55,.m 57 6,.ix 58 6 56 57,.L 59 6 58,.nw 7 107 [.n,.n,.n,.n,.n,.n],.S 6 7 59] (.k (.q [.f 60 0 7,.l 61 60,.e 62 61,.bi 63 .gtr 62 100,.m 64 63,.w 64 false (.f 65 1 7),.w 64 false (.l 66 65),.w 64 false (.e 67 66),.w 64 false (.bi 68 .gtr 67 400),.po 69 64 true 68,.m 70 69,.w 70 false (.f 71 2 7),.w 70 false (.l 72 71),.w 70 false (.e 73 72),.w 70 false (.bi 74 .gtr 73 100),.po 75 70 true 74,.m 76 75,.w 76 false (.f 77 3 7),.w 76 false (.l 78 77),.w 76 false (.e 79 78),.w 76 false (.bi 80 .gtr 79 100),.po 81 76 true 80,.m 82 81,.w 82 false (.f 83 4 7),.w 82 false (.l 84 83),.w 82 false (.e 85 84),.w 82 false (.bi 86 .gtr 85 100),.po 87 82 true 86,.m 88 87,.w 88 false (.f 89 5 7),.w 88 false (.l 90 89),.w 88 false (.e 91 90),.w 88 false (.bi 92 .gtr 91 100),.po 93 88 true 92] (.i 93 (.q [.mb 4 false] .ret))) (.q [.f 94 3 7,.l 95 94,.e 96 95,.mi 97 0] (.o 4 (.loop [2,6,95,96,97] [107] [2,4,6] B23_1)))))) (.r [.m 53 6,.bi 54 .add 53 1,.m 6 54]))
def F23 :MFunc:=
 {nargs:=2,ntmps:=106,res:=[.t 4],body:=.q [.be 2 0,.mb 4 false] (.k (.q [.f 10 13 2,.l 11 10,.e 12 11,.m 13 1,.b 14 .gtr 12 13,.m 15 14,.w 15 false (.f 16 0 2),.w 15 false (.f 17 10 16),.w 15 false (.l 18 17),.w 15 false (.e 19 18),.w 15 false (.bi 20 .gtr 19 100),.po 21 15 true 20,.m 22 21,.w 22 false (.f 23 11 2),.w 22 false (.l 24 23),.w 22 false (.e 25 24),.w 22 false (.bi 26 .gtr 25 100),.po 27 22 true 26,.m 28 27,.w 28 false (.f 29 12 2),.w 28 false (.l 30 29),.w 28 false (.e 31 30),.w 28 false (.bi 32 .gtr 31 100),.po 33 28 true 32] (.i 33 (.q [.mb 4 false] .ret))) (.k (.q [.mi 5 0] (.o 0 (.loop [2,5] [] [2,4] B23_0))) (.k (.q [.mi 6 0] (.o 2 (.loop [2,6] [] [4] B23_2))) (.q [.mb 4 true] .ret))))}
def B24_0 :MCode:=
 .k (.q [.m 23 6,.m 24 0,.m 25 5,.ix 26 1 24 25,.l 27 26,.e 28 27,.b 29 .lss 23 28] (.c 29 .skip (.exit 2))) (.k (.o 3 (.q [.m 32 0,.m 33 5,.ix 34 1 32 33,.l 35 34,.m 36 6,.ix 37 7 35 36,.f 38 6 37,.l 39 38,.e 40 39,.bi 41 .gtr 40 40] (.i 41 (.q [.mb 4 false] .ret)))) (.r [.m 30 6,.bi 31 .add 30 1,.m 6 31]))
def B24_1 :MCode:=
 .k (.q [.m 11 5,.m 12 0,.e 13 12,.b 14 .lss 11 13] (.c 14 .skip (.exit 0))) (.k (.o 1 (.k (.q [.m 17 0,.m 18 5,.ix 19 1 17 18,.l 20 19,.e 21 20,.bi 22 .gtr 21 20] (.i 22 (.q [.mb 4 false] .ret))) (.q [.mi 6 0] (.o 2 (.loop [0,5,6] [] [0,4,5] B24_0))))) (.r [.m 15 5,.bi 16 .add 15 1,.m 5 16]))
def F24 :MFunc:=
 {nargs:=2,ntmps:=42,res:=[.t 4],body:=.q [.mb 4 false] (.k (.q [.m 7 0,.e 8 7,.m 9 1,.b 10 .gtr 8 9] (.i 10 (.q [.mb 4 false] .ret))) (.k (.q [.mi 5 0] (.o 0 (.loop [0,5] [] [4] B24_1))) (.q [.mb 4 true] .ret)))}
def F25 :MFunc:=
 {nargs:=0,ntmps:=3,res:=[.cell 0 11 true],body:=.q [.nw 0 100 [.z,.z,.z,.z,.z,.z,.z,.z,.z,.z,.n]] (.q [.li 1 1 false [.z] 4 [(0,.i 0),(1,.i 1),(2,.i 2),(3,.i 3)],.bd 2 [.z,.z,.z,.z,.z,.z,.z,.z,.z,.z,.n] [(0,1,.i 4),(1,1,.i 1),(2,1,.i 1),(3,1,.i 20),(4,1,.i 64),(5,1,.i 1),(6,1,.i 64),(7,1,.i 190),(8,1,.i 10),(9,1,.i 3),(10,1,.t 1)],.S 11 0 2] .ret)}
def B26_0 :MCode:=
 .q [.b 25 .lss 24 23] (.u 25 0 (.k (.o 1 (.q [.ix 26 1 22 24,.l 27 26,.m 8 27] (.q [.m 28 8,.e 29 28,.f 30 0 2,.f 31 0 30,.l 32 31,.b 33 .neq 29 32] (.i 33 (.q [.bd 34 [.z,.z,.z,.z,.z,.z,.z,.z,.z,.z,.n,.n,.n,.n,.n,.n,.z] [],.S 17 4 34,.mi 5 2] .ret))))) (.r [.bi 35 .add 24 1,.m 24 35])))
def F26 :MFunc:=
 {nargs:=2,ntmps:=44,res:=[.cell 4 17 true,.t 5],body:=.q [.be 2 0,.nw 4 104 [.z,.z,.z,.z,.z,.z,.z,.z,.z,.z,.n,.n,.n,.n,.n,.n,.z],.mi 5 0] (.k (.q [.L 9 14 2,.k 10 57 [.t 9],.m 6 10] (.q [.m 11 6,.bi 12 .neq 11 0] (.i 12 (.q [.bd 13 [.z,.z,.z,.z,.z,.z,.z,.z,.z,.z,.n,.n,.n,.n,.n,.n,.z] [],.m 14 6,.S 17 4 13,.m 5 14] .ret)))) (.k (.q [.m 15 1,.e 16 15,.f 17 13 2,.l 18 17,.e 19 18,.b 20 .neq 16 19] (.i 20 (.q [.bd 21 [.z,.z,.z,.z,.z,.z,.z,.z,.z,.z,.n,.n,.n,.n,.n,.n,.z] [],.S 17 4 21,.mi 5 2] .ret))) (.k (.q [.m 22 1,.e 23 22,.mi 24 0] (.o 0 (.loop [1,2,4,22,23,24] [104] [1,2,4,5] B26_0))) (.q [.L 36 14 2,.L 37 14 2,.kd 38 58 [.t 37],.m 39 1,.L 40 14 2,.kd 41 30 [.t 40],.s 42 (.mm true (.i 0) [.t 41]),.bd 43 [.z,.z,.z,.z,.z,.z,.z,.z,.z,.z,.n,.n,.n,.n,.n,.n,.z] [(0,14,.t 36),(14,1,.t 38),(15,1,.t 39),(16,1,.t 42)],.S 17 4 43,.mi 5 0] .ret))))}
def B27_0 :MCode:=
 .q [.b 18 .lss 17 16] (.u 18 0 (.k (.o 1 (.q [.ix 19 1 15 17,.l 20 19,.m 5 20] (.r [.mx 21 3,.L 22 17 1,.m 23 5,.k 24 61 [.t 22,.t 23],.li 25 4 true [.z,.e,.n,.n] 1 [(0,.t 24)],.s 26 (.app 4 true (.x 21) (.t 25)),.mx 3 26]))) (.r [.bi 27 .add 17 1,.m 17 27])))
def F27 :MFunc:=
 {nargs:=1,ntmps:=29,res:=[.t 2],body:=.q [.be 1 0,.s 2 (.mv (.c (.n)))] (.q [.s 3 (.mv (.c (.n)))] (.k (.q [.f 6 0 1,.f 7 0 6,.L 8 11 7,.f 9 15 1,.l 10 9,.L 11 17 1,.kd 12 60 [.t 11],.f 13 16 1,.l 14 13,.kd 15 59 [.t 8,.t 10,.t 12,.t 14],.e 16 15,.mi 17 0] (.o 0 (.loop [1,3,15,16,17] [] [3] B27_0))) (.q [.m 28 3,.m 2 28] .ret)))}
def F28 :MFunc:=
 {nargs:=1,ntmps:=9,res:=[.t 2],body:=.q [.be 1 0,.mi 2 0] (.k (.q [.L 3 14 1,.k 4 62 [.t 3],.bi 5 .neq 4 0] (.i 5 (.q [.mi 2 (-1)] .ret))) (.q [.L 6 14 1,.bd 7 [.z,.z,.z,.z,.z,.z,.z,.z,.z,.z,.n,.n,.n,.n] [(0,14,.t 6)],.k 8 63 [.t 7],.m 2 8] .ret))}
def F29 :MFunc:=
 {nargs:=1,ntmps:=13,res:=[.t 2],body:=.q [.be 1 0,.mi 2 0] (.k (.q [.L 3 14 1,.k 4 62 [.t 3],.bi 5 .neq 4 0] (.i 5 (.q [.mi 2 0] .ret))) (.q [.L 6 14 1,.bd 7 [.z,.z,.z,.z,.z,.z,.z,.z,.z,.z,.n,.n,.n,.n] [(0,14,.t 6)],.kd 8 63 [.t 7],.f 9 0 1,.L 10 11 9,.kd 11 64 [.t 10],.b 12 .add 8 11,.m 2 12] .ret))}
def F30 :MFunc:=
 {nargs:=1,ntmps:=13,res:=[.t 2],body:=.q [.be 1 0,.mi 2 0] (.k (.q [.L 3 14 1,.k 4 62 [.t 3],.bi 5 .neq 4 0] (.i 5 (.q [.mi 2 0] .ret))) (.q [.L 6 14 1,.bd 7 [.z,.z,.z,.z,.z,.z,.z,.z,.z,.z,.n,.n,.n,.n] [(0,14,.t 6)],.kd 8 63 [.t 7],.f 9 0 1,.L 10 11 9,.kd 11 65 [.t 10],.b 12 .add 8 11,.m 2 12] .ret))}
def F31 :MFunc:=
 {nargs:=4,ntmps:=46,res:=[.t 8],body:=.q [.be 4 0,.mi 8 0] (.k (.q [.L 12 11 4,.k 13 66 [.t 12],.m 9 13] (.q [.m 14 9,.bi 15 .neq 14 0] (.i 15 (.q [.m 16 9,.m 8 16] .ret)))) (.k (.q [.m 17 2,.e 18 17,.bi 19 .eql 18 0] (.i 19 (.q [.mi 8 0] .ret))) (.q [.m 20 3,.s 21 (.mm true (.t 20) [.i 0]),.m 3 21] (.k (.q [.m 22 1,.m 23 2,.m 24 3,.k 25 67 [.t 22,.t 23,.t 24],.no 26 25] (.i 26 (.q [.mi 8 7] .ret))) (.q [.m 28 1,.m 29 2,.s 30 (.ia 1 (.t 29) (.i 0)),.l 31 30,.m 32 3,.k 33 68 [.t 28,.t 31,.t 32],.m 27 33,.ex 34 27 0,.ex 35 27 1,.m 10 34,.m 11 35] (.k (.o 0 (.q [.m 37 10,.f 38 3 4,.l 39 38,.b 40 .lss 37 39,.m 36 40] (.c 36 (.q [.mi 8 13] .ret) (.q [.m 42 11,.f 43 3 4,.l 44 43,.b 45 .geq 42 44,.m 41 45] (.i 41 (.q [.mi 8 10] .ret)))))) (.q [.mi 8 0] .ret)))))))}
def B32_0 :MCode:=
 .k (.q [.m 9 5,.f 10 15 2,.l 11 10,.e 12 11,.b 13 .lss 9 12] (.c 13 .skip (.exit 0))) (.k (.o 1 (.q [.m 16 1,.m 17 5,.s 18 (.callv (.t 16) (.ref 1720) [.t 17]),.m 6 18] (.q [.m 19 6,.bi 20 .neq 19 0] (.i 20 (.q [.m 21 6,.m 4 21] .ret))))) (.r [.m 14 5,.bi 15 .add 14 1,.m 5 15]))
def F32 :MFunc:=
 {nargs:=2,ntmps:=22,res:=[.t 4],body:=.q [.be 2 0,.mi 4 0] (.k (.q [.f 7 16 2,.l 8 7,.m 5 8] (.o 0 (.loop [1,2,5] [] [4] B32_0))) (.q [.mi 4 0] .ret))}
def F33 :MFunc:=
 {nargs:=2,ntmps:=52,res:=[.t 4],body:=.q [.be 2 0,.mi 4 0] (.q [.f 7 15 2,.l 8 7,.m 9 1,.ix 10 1 8 9,.l 11 10,.L 12 17 2,.kd 13 60 [.t 12],.ix 14 7 11 13,.L 15 7 14,.nw 5 105 [.o,.o,.z,.z,.e,.z,.n],.S 7 5 15] (.k (.o 0 (.q [.L 17 17 2,.m 18 1,.kr 19 69 1760 [.t 17,.t 18,.c (.fn 70 [])],.m 16 19] (.c 16 (.q [.mi 4 14] .ret) (.q [.L 21 17 2,.m 22 1,.s 23 (.mk 71 [.t 5]),.kr 24 69 1960 [.t 21,.t 22,.t 23],.m 20 24] (.c 20 (.q [.mi 4 7] .ret) (.q [.m 26 1,.f 27 16 2,.l 28 27,.b 29 .eql 26 28,.m 25 29] (.i 25 (.q [.mi 4 0] .ret)))))))) (.q [.f 30 15 2,.l 31 30,.m 32 1,.bi 33 .sub 32 1,.ix 34 1 31 33,.l 35 34,.L 36 17 2,.kd 37 60 [.t 36],.ix 38 7 35 37,.f 39 2 38,.l 40 39,.m 6 40] (.k (.q [.f 41 0 5,.l 42 41] (.i 42 (.r [.f 43 0 2,.f 44 0 43,.L 45 11 44,.m 46 6,.k 47 72 [.t 45,.t 46,.c (.str [])],.m 6 47]))) (.k (.q [.f 48 2 5,.l 49 48,.m 50 6,.b 51 .neq 49 50] (.i 51 (.q [.mi 4 16] .ret))) (.q [.mi 4 0] .ret))))))}
def B34_0 :MCode:=
 .k (.q [.m 8 3,.f 9 15 1,.l 10 9,.e 11 10,.b 12 .lss 8 11] (.c 12 .skip (.exit 0))) (.k (.o 1 (.q [.f 15 15 1,.l 16 15,.L 17 17 1,.kd 18 60 [.t 17],.m 19 3,.kd 20 73 [.t 16,.t 18,.t 19],.m 4 20] (.k (.q [.m 21 4,.bi 22 .lss 21 0,.m 23 22,.w 23 false (.m 24 3),.w 23 false (.m 25 4),.w 23 false (.b 26 .sub 24 25),.w 23 false (.f 27 16 1),.w 23 false (.l 28 27),.w 23 false (.b 29 .lss 26 28),.po 30 23 true 29,.m 31 30,.w 31 false (.f 32 0 1),.w 31 false (.f 33 0 32),.w 31 false (.L 34 11 33),.w 31 false (.m 35 4),.w 31 false (.k 36 74 [.t 34,.t 35]),.w 31 false (.no 37 36),.po 38 31 true 37] (.i 38 (.exit 1))) (.q [.f 39 0 1,.f 40 0 39,.L 41 11 40,.m 42 4,.k 43 75 [.t 41,.t 42],.nw 5 105 [.z],.S 1 5 43] (.q [.L 44 17 1,.m 45 3,.s 46 (.mk 76 [.t 5]),.kr 47 69 2880 [.t 44,.t 45,.t 46]] (.i 47 (.q [.mi 2 11] .ret))))))) (.r [.m 13 3,.bi 14 .add 13 1,.m 3 14]))
def F34 :MFunc:=
 {nargs:=1,ntmps:=48,res:=[.t 2],body:=.q [.be 1 0,.mi 2 0] (.k (.q [.f 6 16 1,.l 7 6,.m 3 7] (.o 0 (.loop [1,3] [] [2] B34_0))) (.q [.mi 2 0] .ret))}
def B35_0 :MCode:=
 .q [.b 11 .lss 10 9] (.u 11 0 (.k (.o 1 (.q [.m 12 10,.ix 13 4 8 10,.L 14 4 13,.nw 6 106 [.z,.e,.n,.n],.m 5 12,.S 4 6 14] (.k (.q [.f 15 0 2,.f 16 0 15,.L 17 11 16,.f 18 0 2,.f 19 11 18,.l 20 19,.L 21 4 6,.k 22 77 [.t 17,.t 20,.t 21],.m 7 22] (.q [.m 23 7,.bi 24 .neq 23 0] (.i 24 (.q [.m 25 7,.m 4 25] .ret)))) (.q [.m 26 5,.bi 27 .gtr 26 0,.m 28 27,.w 28 true (.f 29 0 2),.w 28 true (.f 30 0 29),.w 28 true (.L 31 11 30),.w 28 true (.m 32 1),.w 28 true (.m 33 5),.w 28 true (.bi 34 .sub 33 1),.w 28 true (.ix 35 4 32 34),.w 28 true (.L 36 4 35),.w 28 true (.L 37 4 6),.w 28 true (.kd 38 78 [.t 31,.t 36,.t 37]),.w 28 true (.no 39 38),.pa 40 28 39 false] (.i 40 (.q [.mi 4 16] .ret)))))) (.r [.bi 41 .add 10 1,.m 10 41])))
def F35 :MFunc:=
 {nargs:=2,ntmps:=42,res:=[.t 4],body:=.q [.be 2 0,.mi 4 0] (.k (.q [.m 8 1,.e 9 8,.mi 10 0] (.o 0 (.loop [1,2,8,9,10] [] [4] B35_0))) (.q [.mi 4 0] .ret))}
def F36 :MFunc:=
 {nargs:=2,ntmps:=26,res:=[.t 4],body:=.q [.be 2 0,.mi 4 0] (.q [.f 6 15 2,.l 7 6,.m 8 1,.ix 9 1 7 8,.l 10 9,.L 11 17 2,.kd 12 60 [.t 11],.ix 13 7 10 12,.f 14 4 13,.l 15 14,.nw 5 105 [.e],.S 1 5 15] (.k (.o 0 (.q [.L 17 17 2,.m 18 1,.s 19 (.mk 79 [.t 5]),.kr 20 69 1800 [.t 17,.t 18,.t 19],.m 16 20] (.c 16 (.q [.mi 4 7] .ret) (.q [.L 22 17 2,.m 23 1,.s 24 (.mk 80 [.t 5]),.kr 25 69 2000 [.t 22,.t 23,.t 24],.m 21 25] (.i 21 (.q [.mi 4 12] .ret)))))) (.q [.mi 4 0] .ret)))}
def B38_0 :MCode:=
 .k (.q [.m 8 4,.f 9 13 1,.l 10 9,.e 11 10,.b 12 .lss 8 11] (.c 12 .skip (.exit 0))) (.k (.o 1 (.q [.L 15 14 1,.m 16 4,.k 17 82 [.t 15,.t 16],.no 18 17] (.i 18 (.r [.m 19 4,.m 3 19])))) (.r [.m 13 4,.bi 14 .add 13 1,.m 4 14]))
def F38 :MFunc:=
 {nargs:=1,ntmps:=21,res:=[.t 2],body:=.q [.be 1 0,.mi 2 0] (.k (.q [.L 5 14 1,.k 6 50 [.t 5],.bi 7 .neq 6 0] (.i 7 (.q [.mi 2 (-1)] .ret))) (.q [.mi 3 (-1)] (.k (.q [.mi 4 0] (.o 0 (.loop [1,3,4] [] [3] B38_0))) (.q [.m 20 3,.m 2 20] .ret))))}
def F45 :MFunc:=
 {nargs:=2,ntmps:=21,res:=[.cell 4 24 true],body:=.q [.be 2 0,.nw 4 104 [.z,.z,.z,.e,.z,.e,.e,.z,.z,.e,.e,.e,.e,.e,.e,.n,.n,.n,.z,.z,.z,.z,.z,.z]] (.k (.q [.L 7 11 2,.k 8 66 [.t 7],.bi 9 .neq 8 0] (.i 9 (.q [.bd 10 [.z,.z,.z,.e,.z,.e,.e,.z,.z,.e,.e,.e,.e,.e,.e,.n,.n,.n,.z,.z,.z,.z,.z,.z] [],.S 24 4 10] .ret))) (.q [.m 11 1,.bd 12 [.e,.z] [(0,1,.t 11)],.L 13 11 2,.bd 14 [.e,.z,.z,.z,.z,.z,.z,.z,.z,.z,.z,.z,.n] [(0,2,.t 12),(2,11,.t 13)],.nw 5 105 [.e,.z,.z,.z,.z,.z,.z,.z,.z,.z,.z,.z,.n],.S 13 5 14] (.q [.nw 6 106 [.z,.z,.z,.e,.z,.e,.e,.z,.z,.e,.e,.e,.e,.e,.e,.n,.n,.n,.z,.z,.z,.z,.z,.z]] (.q [.kr 15 91 1600 [.t 5,.t 6]] (.q [.kr 16 92 1640 [.t 5,.t 6]] (.q [.kr 17 93 1680 [.t 5,.t 6]] (.q [.L 18 11 2,.L 19 24 6,.k 20 94 [.t 18,.t 19],.S 24 4 20] .ret)))))))}
def F46 :MFunc:=
 {nargs:=2,ntmps:=14,res:=[.t 4],body:=.q [.be 2 0,.s 4 (.mv (.c (.str [])))] (.k (.q [.f 5 0 2,.L 6 11 5,.m 7 1,.k 8 95 [.t 6,.t 7],.no 9 8] (.i 9 (.q [.s 4 (.mv (.c (.str [])))] .ret))) (.q [.f 10 12 2,.l 11 10,.m 12 1,.k 13 96 [.t 11,.t 12,.c (.str [])],.m 4 13] .ret))}
def B50_0 :MCode:=
 .k (.q [.m 14 3,.f 15 11 1,.l 16 15,.e 17 16,.b 18 .lss 14 17] (.c 18 .skip (.exit 0))) (.k (.o 1 (.q [.f 21 0 1,.L 22 11 21,.f 23 11 1,.l 24 23,.m 25 3,.ix 26 1 24 25,.l 27 26,.kd 28 105 [.t 22,.t 27],.no 29 28,.m 30 29,.w 30 false (.f 31 11 1),.w 30 false (.l 32 31),.w 30 false (.m 33 3),.g 34 30 false (.slc 1 (.t 32) none (some (.t 33)) none),.w 30 false (.f 35 11 1),.w 30 false (.l 36 35),.w 30 false (.m 37 3),.w 30 false (.ix 38 1 36 37),.w 30 false (.l 39 38),.w 30 false (.kd 40 52 [.t 34,.t 39]),.po 41 30 true 40] (.i 41 (.q [.mi 2 7] .ret)))) (.r [.m 19 3,.bi 20 .add 19 1,.m 3 20]))
def B50_1 :MCode:=
 .k (.q [.m 55 4,.f 56 12 1,.l 57 56,.e 58 57,.b 59 .lss 55 58] (.c 59 .skip (.exit 2))) (.k (.o 3 (.q [.f 62 12 1,.l 63 62,.m 64 4,.ix 65 1 63 64,.l 66 65,.es 67 66,.bi 68 .gtr 67 8000] (.i 68 (.q [.mi 2 6] .ret)))) (.r [.m 60 4,.bi 61 .add 60 1,.m 4 61]))
def B50_2 :MCode:=
 .k (.q [.m 69 5,.f 70 13 1,.l 71 70,.e 72 71,.b 73 .lss 69 72] (.c 73 .skip (.exit 4))) (.k (.o 5 (.q [.f 76 0 1,.L 77 11 76,.f 78 13 1,.l 79 78,.m 80 5,.ix 81 6 79 80,.L 82 6 81,.kd 83 107 [.t 77,.t 82],.m 6 83] (.q [.m 84 6,.bi 85 .neq 84 0] (.i 85 (.q [.m 86 6,.m 2 86] .ret))))) (.r [.m 74 5,.bi 75 .add 74 1,.m 5 75]))
def F50 :MFunc:=
 {nargs:=1,ntmps:=87,res:=[.t 2],body:=.q [.be 1 0,.mi 2 0] (.k (.q [.f 7 0 1,.L 8 11 7,.k 9 106 [.t 8],.bi 10 .neq 9 0] (.i 10 (.q [.f 11 0 1,.L 12 11 11,.k 13 106 [.t 12],.m 2 13] .ret))) (.k (.q [.mi 3 0] (.o 0 (.loop [1,3] [] [1,2] B50_0))) (.k (.q [.f 42 12 1,.l 43 42,.e 44 43,.f 45 0 1,.f 46 0 45,.l 47 46,.b 48 .gtr 44 47,.m 49 48,.w 49 false (.f 50 13 1),.w 49 false (.l 51 50),.w 49 false (.e 52 51),.w 49 false (.bi 53 .gtr 52 2000),.po 54 49 true 53] (.i 54 (.q [.mi 2 6] .ret))) (.k (.q [.mi 4 0] (.o 2 (.loop [1,4] [] [1,2] B50_1))) (.k (.q [.mi 5 0] (.o 4 (.loop [1,5] [] [2] B50_2))) (.q [.mi 2 0] .ret))))))}
def F51 :MFunc:=
 {nargs:=1,ntmps:=14,res:=[.t 2],body:=.q [.be 1 0,.mi 2 0] (.k (.q [.L 3 11 1,.k 4 53 [.t 3],.bi 5 .neq 4 0] (.i 5 (.q [.mi 2 0] .ret))) (.q [.L 6 11 1,.kd 7 99 [.t 6],.s 8 (.bin .mul (.i 4) (.t 7)),.s 9 (.bin .add (.i 1) (.t 8)),.f 10 3 1,.l 11 10,.s 12 (.bin .mul (.i 2) (.t 11)),.b 13 .add 9 12,.m 2 13] .ret))}
def B52_0 :MCode:=
 .k (.q [.m 6 5,.m 7 0,.e 8 7,.b 9 .lss 6 8] (.c 9 .skip (.exit 0))) (.k (.o 1 (.q [.m 12 0,.m 13 5,.ix 14 1 12 13,.l 15 14,.m 16 1,.b 17 .eql 15 16] (.i 17 (.q [.mb 4 true] .ret)))) (.r [.m 10 5,.bi 11 .add 10 1,.m 5 11]))
def F52 :MFunc:=
 {nargs:=2,ntmps:=18,res:=[.t 4],body:=.q [.mb 4 false] (.k (.q [.mi 5 0] (.o 0 (.loop [0,1,5] [] [4] B52_0))) (.q [.mb 4 false] .ret))}
def F53 :MFunc:=
 {nargs:=1,ntmps:=86,res:=[.t 2],body:=.q [.be 1 0,.mi 2 0] (.k (.q [.f 3 0 1,.l 4 3,.k 5 108 [.t 4,.i 4,.i 13],.no 6 5,.m 7 6,.w 7 false (.f 8 1 1),.w 7 false (.l 9 8),.w 7 false (.k 10 108 [.t 9,.i 0,.i 4]),.w 7 false (.no 11 10),.po 12 7 true 11,.m 13 12,.w 13 false (.f 14 0 1),.w 13 false (.l 15 14),.w 13 false (.f 16 1 1),.w 13 false (.l 17 16),.g 18 13 false (.bin .mul (.i 3) (.t 17)),.w 13 false (.b 19 .leq 15 18),.po 20 13 true 19] (.i 20 (.q [.mi 2 7] .ret))) (.k (.q [.f 21 2 1,.l 22 21,.k 23 108 [.t 22,.i 1,.i 4],.no 24 23] (.i 24 (.q [.mi 2 10] .ret))) (.k (.q [.f 25 3 1,.l 26 25,.f 27 1 1,.l 28 27,.bi 29 .add 28 1,.s 30 (.bin .mul (.i 6) (.t 29)),.f 31 2 1,.l 32 31,.b 33 .mul 30 32,.bi 34 .add 33 1,.k 35 108 [.t 26,.t 34,.i 400],.no 36 35,.m 37 36,.w 37 false (.f 38 4 1),.w 37 false (.l 39 38),.w 37 false (.k 40 108 [.t 39,.i 1,.i 64]),.w 37 false (.no 41 40),.po 42 37 true 41,.m 43 42,.w 43 false (.f 44 5 1),.w 43 false (.l 45 44),.w 43 false (.f 46 4 1),.w 43 false (.l 47 46),.w 43 false (.bi 48 .sub 47 1),.w 43 false (.k 49 108 [.t 45,.i 0,.t 48]),.w 43 false (.no 50 49),.po 51 43 true 50,.m 52 51,.w 52 false (.f 53 6 1),.w 52 false (.l 54 53),.w 52 false (.k 55 108 [.t 54,.i 0,.i 30000]),.w 52 false (.no 56 55),.po 57 52 true 56,.m 58 57,.w 58 false (.f 59 7 1),.w 58 false (.l 60 59),.w 58 false (.k 61 108 [.t 60,.i 1,.i 30000]),.w 58 false (.no 62 61),.po 63 58 true 62,.m 64 63,.w 64 false (.f 65 8 1),.w 64 false (.l 66 65),.w 64 false (.k 67 108 [.t 66,.i 2,.i 250]),.w 64 false (.no 68 67),.po 69 64 true 68,.m 70 69,.w 70 false (.f 71 9 1),.w 70 false (.l 72 71),.w 70 false (.k 73 108 [.t 72,.i 1,.i 100]),.w 70 false (.no 74 73),.po 75 70 true 74] (.i 75 (.q [.mi 2 8] .ret))) (.k (.q [.f 76 10 1,.l 77 76,.e 78 77,.k 79 108 [.t 78,.i 1,.i 32],.no 80 79,.m 81 80,.w 81 false (.L 82 11 1),.w 81 false (.k 83 109 [.t 82]),.w 81 false (.no 84 83),.po 85 81 true 84] (.i 85 (.q [.mi 2 11] .ret))) (.q [.mi 2 0] .ret)))))}
def F54 :MFunc:=
 {nargs:=3,ntmps:=36,res:=[.cell 6 7 true],body:=.q [.nw 6 106 [.o,.o,.z,.z,.e,.z,.n]] (.k (.q [.m 7 1,.bi 8 .lss 7 0,.m 9 8,.w 9 false (.m 10 1),.w 9 false (.m 11 0),.w 9 false (.e 12 11),.w 9 false (.b 13 .geq 10 12),.po 14 9 true 13,.m 15 14,.w 15 false (.m 16 2),.w 15 false (.bi 17 .lss 16 0),.po 18 15 true 17,.m 19 18,.w 19 false (.m 20 2),.w 19 false (.m 21 0),.w 19 false (.m 22 1),.w 19 false (.ix 23 1 21 22),.w 19 false (.l 24 23),.w 19 false (.e 25 24),.w 19 false (.b 26 .geq 20 25),.po 27 19 true 26] (.i 27 (.q [.bd 28 [.o,.o,.z,.z,.e,.z,.n] [],.S 7 6 28] .ret))) (.q [.m 29 0,.m 30 1,.ix 31 1 29 30,.l 32 31,.m 33 2,.ix 34 7 32 33,.L 35 7 34,.S 7 6 35] .ret))}
def F55 :MFunc:=
 {nargs:=3,ntmps:=19,res:=[.t 6],body:=.q [.mi 6 0] (.k (.q [.m 7 0,.m 8 1,.b 9 .lss 7 8,.m 10 9,.w 10 false (.m 11 2),.w 10 false (.m 12 1),.w 10 false (.b 13 .lss 11 12),.po 14 10 true 13] (.i 14 (.q [.m 15 1,.m 6 15] .ret))) (.q [.m 16 0,.m 17 2,.s 18 (.mm false (.t 16) [.t 17]),.m 6 18] .ret))}
def F56 :MFunc:=
 {nargs:=1,ntmps:=12,res:=[.t 2],body:=.q [.be 1 0,.mi 2 0] (.k (.q [.L 3 11 1,.k 4 53 [.t 3],.bi 5 .neq 4 0] (.i 5 (.q [.mi 2 0] .ret))) (.q [.L 6 11 1,.kd 7 51 [.t 6],.f 8 3 1,.l 9 8,.s 10 (.bin .mul (.i 4) (.t 9)),.b 11 .add 7 10,.m 2 11] .ret))}
def F57 :MFunc:=
 {nargs:=1,ntmps:=16,res:=[.t 2],body:=.q [.be 1 0,.mi 2 0] (.k (.q [.L 4 14 1,.k 5 62 [.t 4],.m 3 5] (.q [.m 6 3,.bi 7 .neq 6 0] (.i 7 (.q [.m 8 3,.m 2 8] .ret)))) (.k (.q [.f 9 11 1,.l 10 9,.e 11 10,.f 12 0 1,.f 13 1 12,.l 14 13,.b 15 .gtr 11 14] (.i 15 (.q [.mi 2 7] .ret))) (.q [.mi 2 0] .ret)))}
def B58_0 :MCode:=
 .q [.b 9 .lss 8 7] (.u 9 0 (.k (.o 1 (.q [.m 10 8,.m 4 10] (.q [.L 11 14 1,.m 12 4,.k 13 111 [.t 11,.t 12],.no 14 13] (.i 14 (.r [.mx 15 3,.m 16 4,.li 17 1 false [.z] 1 [(0,.t 16)],.s 18 (.app 1 false (.x 15) (.t 17)),.mx 3 18]))))) (.r [.bi 19 .add 8 1,.m 8 19])))
def F58 :MFunc:=
 {nargs:=1,ntmps:=21,res:=[.t 2],body:=.q [.be 1 0,.s 2 (.mv (.c (.n)))] (.q [.s 3 (.mv (.c (.n)))] (.k (.q [.f 5 0 1,.L 6 11 5,.k 7 110 [.t 6],.mi 8 0] (.o 0 (.loop [1,3,7,8] [] [3] B58_0))) (.q [.m 20 3,.m 2 20] .ret)))}
def B59_0 :MCode:=
 .k (.q [.m 16 10,.m 17 1,.e 18 17,.f 19 3 4,.l 20 19,.b 21 .sub 18 20,.b 22 .leq 16 21] (.c 22 .skip (.exit 0))) (.k (.o 1 (.q [.m 25 1,.m 26 10,.m 27 2,.k 28 112 [.t 25,.t 26,.t 27],.s 29 (.fld 0 1 false (.t 28))] (.i 29 (.r [.mx 30 9,.m 31 10,.li 32 1 false [.z] 1 [(0,.t 31)],.s 33 (.app 1 false (.x 30) (.t 32)),.mx 9 33])))) (.r [.m 23 10,.bi 24 .add 23 1,.m 10 24]))
def F59 :MFunc:=
 {nargs:=4,ntmps:=35,res:=[.t 8],body:=.q [.be 4 0,.s 8 (.mv (.c (.n)))] (.k (.q [.L 11 11 4,.k 12 66 [.t 11],.bi 13 .neq 12 0] (.i 13 (.q [.s 8 (.mv (.c (.n)))] .ret))) (.q [.s 9 (.mv (.c (.n)))] (.k (.q [.m 14 3,.s 15 (.mm true (.t 14) [.i 0]),.m 10 15] (.o 0 (.loop [1,2,4,9,10] [] [9] B59_0))) (.q [.m 34 9,.m 8 34] .ret))))}
def F60 :MFunc:=
 {nargs:=1,ntmps:=7,res:=[.t 2],body:=.q [.be 1 0,.mi 2 0] (.q [.f 3 14 1,.l 4 3,.s 5 (.ia 1 (.t 4) (.i 0)),.l 6 5,.m 2 6] .ret)}
def B61_0 :MCode:=
 .q [.b 37 .lss 36 35] (.u 37 0 (.k (.o 1 (.q [.ix 38 1 34 36,.l 39 38,.m 8 39] (.q [.f 40 2 6,.l 41 40,.m 42 8,.f 43 0 2,.L 44 14 43,.m 45 8,.m 46 1,.kd 47 13 [.t 44,.t 45,.t 46],.ix 48 1 41 42,.S 1 48 47] (.r [.f 49 3 6,.l 50 49,.m 51 8,.f 52 15 2,.l 53 52,.m 54 8,.m 55 1,.m 56 1,.f 57 0 2,.f 58 0 57,.f 59 3 58,.l 60 59,.b 61 .add 56 60,.kd 62 113 [.t 53,.t 54,.t 55,.t 61],.ix 63 1 50 51,.S 1 63 62])))) (.r [.bi 64 .add 36 1,.m 36 64])))
def F61 :MFunc:=
 {nargs:=2,ntmps:=66,res:=[.cell 4 4 true],body:=.q [.be 2 0,.nw 4 104 [.z,.e,.n,.n]] (.q [.f 9 15 2,.l 10 9,.m 11 1,.ix 12 1 10 11,.l 13 12,.L 14 17 2,.kd 15 60 [.t 14],.ix 16 7 13 15,.L 17 7 16,.nw 5 105 [.o,.o,.z,.z,.e,.z,.n],.S 7 5 17] (.q [.f 18 2 5,.l 19 18,.f 20 4 5,.l 21 20,.f 22 0 2,.f 23 0 22,.f 24 0 23,.l 25 24,.s 26 (.makeA 126 1 false [.e] (.t 25)),.f 27 0 2,.f 28 0 27,.f 29 0 28,.s 30 (.ldd 1 false (.t 29)),.s 31 (.makeA 131 1 false [.n] (.t 30)),.bd 32 [.z,.e,.n,.n] [(0,1,.t 19),(1,1,.t 21),(2,1,.t 26),(3,1,.t 31)],.nw 6 106 [.z,.e,.n,.n],.S 4 6 32] (.k (.q [.f 33 14 2,.l 34 33,.e 35 34,.mi 36 0] (.o 0 (.loop [1,2,4,6,34,35,36] [104,105,106,126,131] [4,6] B61_0))) (.q [.L 65 4 6,.S 4 4 65] .ret))))}
def B62_0 :MCode:=
 .q [.b 39 .lss 38 37] (.u 39 0 (.k (.o 1 (.q [.ix 40 6 36 38,.L 41 6 40,.nw 5 105 [.n,.n,.n,.n,.n,.n],.S 6 5 41] (.q [.f 42 0 1,.L 43 11 42,.L 44 6 5,.k 45 118 [.t 43,.t 44],.m 6 45] (.q [.m 46 6,.bi 47 .neq 46 0] (.i 47 (.q [.m 48 6,.m 2 48] .ret)))))) (.r [.bi 49 .add 38 1,.m 38 49])))
def F62 :MFunc:=
 {nargs:=1,ntmps:=50,res:=[.t 2],body:=.q [.be 1 0,.mi 2 0] (.k (.q [.f 7 0 1,.L 8 11 7,.k 9 114 [.t 8],.m 3 9] (.q [.m 10 3,.bi 11 .neq 10 0] (.i 11 (.q [.m 12 3,.m 2 12] .ret)))) (.k (.q [.L 13 14 1,.k 14 115 [.t 13],.no 15 14] (.i 15 (.q [.mi 2 7] .ret))) (.k (.q [.f 16 12 1,.l 17 16,.e 18 17,.f 19 0 1,.f 20 0 19,.l 21 20,.b 22 .gtr 18 21,.m 23 22,.w 23 false (.f 24 13 1),.w 23 false (.l 25 24),.w 23 false (.e 26 25),.w 23 false (.bi 27 .gtr 26 2000),.po 28 23 true 27,.m 29 28,.w 29 false (.f 30 12 1),.w 29 false (.l 31 30),.w 29 false (.kr 32 116 2280 [.t 31,.c (.fn 117 [])]),.w 29 false (.no 33 32),.po 34 29 true 33] (.i 34 (.q [.mi 2 6] .ret))) (.k (.q [.f 35 13 1,.l 36 35,.e 37 36,.mi 38 0] (.o 0 (.loop [1,36,37,38] [] [2] B62_0))) (.q [.mi 2 0] .ret)))))}
def B63_0 :MCode:=
 .k (.q [.m 9 3,.bi 10 .geq 9 0,.m 11 10,.w 11 true (.L 12 14 1),.w 11 true (.m 13 3),.w 11 true (.k 14 119 [.t 12,.t 13]),.pa 15 11 14 false] (.c 15 .skip (.exit 0))) (.o 1 (.r [.m 16 3,.bi 17 .sub 16 1,.m 3 17]))
def F63 :MFunc:=
 {nargs:=1,ntmps:=19,res:=[.t 2],body:=.q [.be 1 0,.mi 2 0] (.q [.f 4 0 1,.f 5 13 4,.l 6 5,.e 7 6,.bi 8 .sub 7 1,.m 3 8] (.k (.o 0 (.loop [1,3] [] [3] B63_0)) (.q [.m 18 3,.m 2 18] .ret)))}
def F64 :MFunc:=
 {nargs:=1,ntmps:=20,res:=[.t 2],body:=.q [.be 1 0,.mi 2 0] (.k (.q [.L 6 11 1,.k 7 120 [.t 6],.m 5 7,.ex 8 5 0,.ex 9 5 1,.nw 3 103 [.z,.z,.z,.z,.z,.z,.z,.z,.z,.z,.n],.S 11 3 8,.m 4 9] (.q [.m 10 4,.no 11 10] (.i 11 (.q [.mi 2 0] .ret)))) (.q [.L 12 11 1,.kd 13 121 [.t 12],.s 14 (.bin .mul (.i 4) (.t 13)),.s 15 (.bin .add (.i 1) (.t 14)),.f 16 3 1,.l 17 16,.s 18 (.bin .mul (.i 2) (.t 17)),.b 19 .add 15 18,.m 2 19] .ret))}
def F65 :MFunc:=
 {nargs:=1,ntmps:=18,res:=[.t 2],body:=.q [.be 1 0,.mi 2 0] (.k (.q [.L 6 11 1,.k 7 120 [.t 6],.m 5 7,.ex 8 5 0,.ex 9 5 1,.nw 3 103 [.z,.z,.z,.z,.z,.z,.z,.z,.z,.z,.n],.S 11 3 8,.m 4 9] (.q [.m 10 4,.no 11 10] (.i 11 (.q [.mi 2 0] .ret)))) (.q [.L 12 11 1,.kd 13 64 [.t 12],.f 14 3 1,.l 15 14,.s 16 (.bin .mul (.i 4) (.t 15)),.b 17 .add 13 16,.m 2 17] .ret))}
def F66 :MFunc:=
 {nargs:=1,ntmps:=23,res:=[.t 2],body:=.q [.be 1 0,.mi 2 0] (.q [.bd 4 [.z,.z] [(0,1,.i 1),(1,1,.i 4)],.nw 3 103 [.z,.z],.S 2 3 4] (.k (.o 0 (.q [.L 6 11 1,.k 7 122 [.t 6],.no 8 7,.m 5 8] (.c 5 (.q [.mi 2 7] .ret) (.q [.L 10 2 3,.f 11 2 1,.l 12 11,.k 13 123 [.t 10,.t 12],.no 14 13,.m 9 14] (.c 9 (.q [.mi 2 10] .ret) (.q [.L 16 11 1,.k 17 124 [.t 16],.no 18 17,.m 15 18] (.c 15 (.q [.mi 2 8] .ret) (.q [.L 20 11 1,.k 21 125 [.t 20],.no 22 21,.m 19 22] (.i 19 (.q [.mi 2 11] .ret)))))))))) (.q [.mi 2 0] .ret)))}
def B67_0 :MCode:=
 .k (.q [.m 9 7,.m 10 0,.e 11 10,.b 12 .lss 9 11] (.c 12 .skip (.exit 0))) (.k (.o 1 (.q [.m 15 0,.m 16 1,.m 17 7,.k 18 126 [.t 15,.t 16,.t 17],.no 19 18] (.i 19 (.q [.mb 6 false] .ret)))) (.r [.m 13 7,.bi 14 .add 13 1,.m 7 14]))
def F67 :MFunc:=
 {nargs:=3,ntmps:=20,res:=[.t 6],body:=.q [.mb 6 false] (.k (.q [.m 8 2,.m 7 8] (.o 0 (.loop [0,1,7] [] [6] B67_0))) (.q [.mb 6 true] .ret))}
def B68_0 :MCode:=
 .k (.q [.m 15 10,.m 16 0,.e 17 16,.b 18 .lss 15 17] (.c 18 .skip (.exit 0))) (.k (.o 1 (.k (.q [.m 21 0,.m 22 10,.m 23 1,.k 24 112 [.t 21,.t 22,.t 23],.s 25 (.fld 0 1 false (.t 24)),.no 26 25] (.i 26 (.q [.m 27 9,.bi 28 .add 27 1,.m 9 28] (.q [.m 29 7,.m 30 9,.s 31 (.mm true (.t 29) [.t 30]),.m 7 31] (.exit 1))))) (.k (.q [.m 32 8,.bi 33 .neq 32 (-1)] (.i 33 (.r [.m 34 6,.m 35 10,.m 36 8,.b 37 .sub 35 36,.s 38 (.mm false (.t 34) [.t 37]),.m 6 38]))) (.r [.m 39 10,.m 8 39,.mi 9 0])))) (.r [.m 19 10,.bi 20 .add 19 1,.m 10 20]))
def F68 :MFunc:=
 {nargs:=3,ntmps:=42,res:=[.t 6,.t 7],body:=.q [.mi 6 0,.mi 7 0] (.q [.m 11 0,.e 12 11,.bi 13 .add 12 400,.m 6 13] (.q [.mi 8 (-1),.mi 9 0] (.k (.q [.m 14 2,.m 10 14] (.o 0 (.loop [0,1,6,7,8,9,10] [] [6,7] B68_0))) (.q [.m 40 6,.m 41 7,.m 6 40,.m 7 41] .ret))))}
def B69_0 :MCode:=
 .q [.b 13 .lss 12 11] (.u 13 0 (.k (.o 1 (.q [.ix 14 1 10 12,.l 15 14,.m 8 15] (.q [.m 16 2,.m 17 8,.f 18 15 3,.l 19 18,.m 20 1,.ix 21 1 19 20,.l 22 21,.m 23 8,.ix 24 7 22 23,.L 25 7 24,.s 26 (.callv (.t 16) (.ref 2040) [.t 17,.t 25])] (.i 26 (.q [.mb 6 true] .ret))))) (.r [.bi 27 .add 12 1,.m 12 27])))
def F69 :MFunc:=
 {nargs:=3,ntmps:=28,res:=[.t 6],body:=.q [.be 3 0,.mb 6 false] (.k (.q [.f 9 14 3,.l 10 9,.e 11 10,.mi 12 0] (.o 0 (.loop [1,2,3,10,11,12] [] [6] B69_0))) (.q [.mb 6 false] .ret))}
def F70 :MFunc:=
 {nargs:=2,ntmps:=8,res:=[.t 4],body:=.q [.be 3 1,.mb 4 false] (.q [.f 5 1 3,.l 6 5,.no 7 6,.m 4 7] .ret)}
def F71 :MFunc:=
 {nargs:=3,ntmps:=11,res:=[.t 5],body:=.q [.be 4 1,.mb 5 false] (.q [.f 6 2 4,.l 7 6,.f 8 2 2,.l 9 8,.b 10 .neq 7 9,.m 5 10] .ret)}
def F72 :MFunc:=
 {nargs:=3,ntmps:=18,res:=[.t 6],body:=.q [.be 3 0,.mi 6 0] (.k (.q [.L 7 11 3,.k 8 66 [.t 7],.bi 9 .neq 8 0] (.i 9 (.q [.mi 6 0] .ret))) (.k (.q [.m 10 2,.bc 11 .neq 10 (.str [])] (.i 11 (.r [.m 12 2,.k 13 127 [.t 12],.m 1 13]))) (.q [.L 14 11 3,.kr 15 128 1600 [.t 14],.m 16 1,.s 17 (.callv (.t 15) (.ref 1680) [.t 16]),.m 6 17] .ret)))}
def B73_0 :MCode:=
 .k (.q [.m 12 2,.m 13 7,.b 14 .sub 12 13,.bi 15 .geq 14 0] (.c 15 .skip (.exit 0))) (.o 1 (.k (.q [.m 16 0,.m 17 2,.m 18 7,.b 19 .sub 17 18,.m 20 1,.k 21 112 [.t 16,.t 19,.t 20],.s 22 (.fld 0 1 false (.t 21))] (.i 22 (.exit 0))) (.r [.m 23 7,.bi 24 .add 23 1,.m 7 24])))
def B73_1 :MCode:=
 .k (.q [.m 12 2,.m 13 7,.b 14 .sub 12 13,.bi 15 .geq 14 0] (.c 15 .skip (.exit 0))) (.o 1 (.k (.q [.m 16 0,.m 17 2,.m 18 7,.b 19 .sub 17 18,.m 20 1,.k 21 112 [.t 16,.t 19,.t 20],.s 22 (.fld 0 1 false (.t 21))] (.i 22 (.exit 0))) (.r [.m 23 7,.bi 24 .add 23 1,.m 7 24])))
def B73_2 :MCode:=
 .o 1000000 (.k (.k .skip (.k (.o 0 (.loop [0,1,2,7] [] [2,7] B73_1)) (.k (.q [.m 25 2,.m 26 7,.b 27 .sub 25 26,.bi 28 .lss 27 0] (.i 28 (.q [.mi 6 (-1)] .ret))) (.q [.m 29 7,.m 6 29] .ret)))) (.exit 2000000))
def F73 :MFunc:=
 {nargs:=3,ntmps:=30,res:=[.t 6],body:=.q [.mi 6 0] (.o 2000000 (.k (.o 1000000 (.k (.k (.q [.m 8 2,.m 9 0,.e 10 9,.b 11 .geq 8 10] (.i 11 (.q [.mi 6 (-1)] .ret))) (.q [.mi 7 0] (.k .skip (.k (.o 0 (.loop [0,1,2,7] [] [2,7] B73_0)) (.k (.q [.m 25 2,.m 26 7,.b 27 .sub 25 26,.bi 28 .lss 27 0] (.i 28 (.q [.mi 6 (-1)] .ret))) (.q [.m 29 7,.m 6 29] .ret)))))) (.exit 2000000))) (.loop [0,1,2,7] [] [6] B73_2)))}
def F74 :MFunc:=
 {nargs:=2,ntmps:=34,res:=[.t 4],body:=.q [.be 2 0,.mb 4 false] (.k (.q [.m 6 1,.k 7 129 [.t 6],.no 8 7,.m 9 8,.w 9 false (.L 10 11 2),.w 9 false (.k 11 66 [.t 10]),.w 9 false (.bi 12 .neq 11 0),.po 13 9 true 12] (.i 13 (.q [.mb 4 false] .ret))) (.q [.m 14 1,.f 15 4 2,.l 16 15,.f 17 5 2,.l 18 17,.b 19 .sub 16 18,.b 20 .mul 14 19,.m 21 1,.f 22 4 2,.l 23 22,.f 24 5 2,.l 25 24,.b 26 .add 23 25,.b 27 .mul 21 26,.bd 28 [.z,.z] [(0,1,.t 20),(1,1,.t 27)],.nw 5 105 [.z,.z],.S 2 5 28] (.q [.L 29 11 2,.kd 30 131 [.t 29],.L 31 2 5,.s 32 (.mkB 132 [.t 31]),.kr 33 130 2320 [.t 30,.t 32],.m 4 33] .ret)))}
def F75 :MFunc:=
 {nargs:=2,ntmps:=19,res:=[.t 4],body:=.q [.be 2 0,.mi 4 0] (.k (.q [.m 5 1,.k 6 129 [.t 5],.no 7 6,.m 8 7,.w 8 false (.L 9 11 2),.w 8 false (.k 10 66 [.t 9]),.w 8 false (.bi 11 .neq 10 0),.po 12 8 true 11] (.i 12 (.q [.mi 4 (-1)] .ret))) (.q [.L 13 11 2,.m 14 1,.f 15 4 2,.l 16 15,.b 17 .mul 14 16,.k 18 133 [.t 13,.t 17],.m 4 18] .ret))}
def F76 :MFunc:=
 {nargs:=3,ntmps:=10,res:=[.t 5],body:=.q [.be 4 1,.mb 5 false] (.q [.f 6 3 4,.l 7 6,.l 8 2,.b 9 .neq 7 8,.m 5 9] .ret)}
def B77_0 :MCode:=
 .q [.b 44 .lss 43 42] (.u 44 1 (.k (.o 2 (.q [.ix 45 1 41 43,.l 46 45,.m 10 46] (.q [.L 47 12 8,.L 48 4 5,.f 49 3 5,.l 50 49,.m 51 10,.ix 52 1 50 51,.l 53 52,.kd 54 137 [.t 47,.t 48,.t 53],.m 11 54] (.q [.m 55 11,.bi 56 .neq 55 0] (.i 56 (.q [.m 57 11,.m 6 57] .ret)))))) (.r [.bi 58 .add 43 1,.m 43 58])))
def F77 :MFunc:=
 {nargs:=3,ntmps:=59,res:=[.t 6],body:=.q [.be 3 0,.be 5 2,.mi 6 0] (.k (.q [.L 12 11 3,.k 13 66 [.t 12],.m 7 13] (.q [.m 14 7,.bi 15 .neq 14 0] (.i 15 (.q [.m 16 7,.m 6 16] .ret)))) (.q [.L 17 11 3,.m 18 1,.bd 19 [.z,.z,.z,.z,.z,.z,.z,.z,.z,.z,.n,.n] [(0,11,.t 17),(11,1,.t 18)],.nw 8 108 [.z,.z,.z,.z,.z,.z,.z,.z,.z,.z,.n,.n],.S 12 8 19] (.k (.o 0 (.k (.q [.f 21 0 5,.l 22 21,.bi 23 .lss 22 0,.m 20 23] (.c 20 .skip (.r [.f 24 0 5,.l 25 24,.f 26 8 3,.l 27 26,.b 28 .geq 25 27,.m 20 28]))) (.c 20 (.q [.mi 6 2] .ret) (.q [.L 30 12 8,.f 31 1 5,.l 32 31,.k 33 134 [.t 30,.t 32],.no 34 33,.m 29 34] (.c 29 (.q [.mi 6 7] .ret) (.q [.L 36 12 8,.L 37 4 5,.k 38 135 [.t 36,.t 37],.no 39 38,.m 35 39] (.i 35 (.q [.mi 6 6] .ret)))))))) (.k (.q [.L 40 12 8,.k 41 136 [.t 40],.e 42 41,.mi 43 0] (.o 1 (.loop [5,8,41,42,43] [108] [6] B77_0))) (.q [.mi 6 0] .ret)))))}
def F78 :MFunc:=
 {nargs:=3,ntmps:=19,res:=[.t 6],body:=.q [.be 3 0,.be 4 1,.be 5 2,.mb 6 false] (.q [.L 7 11 3,.k 8 66 [.t 7],.bi 9 .eql 8 0,.m 10 9,.w 10 true (.L 11 11 3),.w 10 true (.f 12 0 4),.w 10 true (.l 13 12),.w 10 true (.f 14 0 5),.w 10 true (.l 15 14),.w 10 true (.k 16 138 [.t 11,.t 13,.t 15]),.w 10 true (.bi 17 .eql 16 1),.pa 18 10 17 false,.m 6 18] .ret)}
def F79 :MFunc:=
 {nargs:=3,ntmps:=10,res:=[.t 5],body:=.q [.be 4 1,.mb 5 false] (.q [.f 6 4 4,.l 7 6,.l 8 2,.b 9 .neq 7 8,.m 5 9] .ret)}
def F80 :MFunc:=
 {nargs:=3,ntmps:=10,res:=[.t 5],body:=.q [.be 4 1,.mb 5 false] (.q [.l 6 2,.m 7 0,.k 8 81 [.t 6,.t 7],.no 9 8,.m 5 9] .ret)}
def F81 :MFunc:=
 {nargs:=2,ntmps:=19,res:=[.t 4],body:=.q [.mb 4 false] (.q [.m 5 1,.bi 6 .geq 5 0,.m 7 6,.w 7 true (.m 8 1),.w 7 true (.m 9 0),.w 7 true (.es 10 9),.w 7 true (.b 11 .lss 8 10),.pa 12 7 11 false,.m 13 12,.w 13 true (.m 14 0),.w 13 true (.m 15 1),.w 13 true (.is 16 14 15),.w 13 true (.bc 17 .eql 16 (.int .u8 49)),.pa 18 13 17 false,.m 4 18] .ret)}
def B82_0 :MCode:=
 .q [.b 80 .lss 79 78] (.u 80 2 (.k (.o 3 (.q [.ix 81 1 77 79,.l 82 81,.m 11 82] (.q [.L 83 14 2,.m 84 1,.m 85 8,.m 86 11,.k 87 140 [.t 83,.t 84,.t 85,.t 86],.m 12 87] (.q [.m 88 12,.bi 89 .lss 88 1,.m 90 89,.w 90 false (.m 91 12),.w 90 false (.f 92 2 5),.w 90 false (.l 93 92),.w 90 false (.b 94 .gtr 91 93),.po 95 90 true 94] (.i 95 (.q [.mb 4 false] .ret)))))) (.r [.bi 96 .add 79 1,.m 79 96])))
def B82_1 :MCode:=
 .q [.b 54 .lss 53 52] (.u 54 0 (.k (.o 1 (.q [.ix 55 1 51 53,.l 56 55,.m 8 56] (.q [.L 57 14 2,.m 58 1,.m 59 8,.k 60 139 [.t 57,.t 58,.t 59],.m 9 60] (.k (.q [.m 61 9,.f 62 4 5,.l 63 62,.f 64 5 5,.l 65 64,.b 66 .sub 63 65,.b 67 .lss 61 66,.m 68 67,.w 68 false (.m 69 9),.w 68 false (.f 70 4 5),.w 68 false (.l 71 70),.w 68 false (.f 72 5 5),.w 68 false (.l 73 72),.w 68 false (.b 74 .add 71 73),.w 68 false (.b 75 .gtr 69 74),.po 76 68 true 75] (.i 76 (.q [.mb 4 false] .ret))) (.q [.m 77 6,.e 78 77,.mi 79 0] (.o 2 (.loop [1,2,5,6,8,51,52,53,77,78,79] [105] [1,2,4,5,6,51,52,53] B82_0))))))) (.r [.bi 97 .add 53 1,.m 53 97])))
def F82 :MFunc:=
 {nargs:=2,ntmps:=98,res:=[.t 4],body:=.q [.be 2 0,.mb 4 false] (.q [.f 13 0 2,.L 14 11 13,.nw 5 105 [.z,.z,.z,.z,.z,.z,.z,.z,.z,.z,.n],.S 11 5 14] (.k (.q [.m 15 1,.bi 16 .lss 15 0,.m 17 16,.w 17 false (.m 18 1),.w 17 false (.f 19 13 2),.w 17 false (.l 20 19),.w 17 false (.e 21 20),.w 17 false (.b 22 .geq 18 21),.po 23 17 true 22,.m 24 23,.w 24 false (.L 25 11 5),.w 24 false (.k 26 53 [.t 25]),.w 24 false (.bi 27 .neq 26 0),.po 28 24 true 27,.m 29 28,.w 29 false (.f 30 13 2),.w 29 false (.l 31 30),.w 29 false (.m 32 1),.w 29 false (.ix 33 6 31 32),.w 29 false (.f 34 3 33),.w 29 false (.l 35 34),.w 29 false (.e 36 35),.w 29 false (.bi 37 .gtr 36 0),.po 38 29 true 37,.m 39 38,.w 39 false (.f 40 13 2),.w 39 false (.l 41 40),.w 39 false (.m 42 1),.w 39 false (.ix 43 6 41 42),.w 39 false (.f 44 4 43),.w 39 false (.l 45 44),.w 39 false (.e 46 45),.w 39 false (.bi 47 .gtr 46 0),.po 48 39 true 47] (.i 48 (.q [.mb 4 false] .ret))) (.q [.L 49 14 2,.k 50 21 [.t 49],.mx 6 50] (.k (.q [.m 51 6,.e 52 51,.mi 53 0] (.o 0 (.loop [1,2,5,6,51,52,53] [105] [4] B82_1))) (.q [.mb 4 true] .ret)))))}
def F91 :MFunc:=
 {nargs:=2,ntmps:=46,res:=[],body:=.q [.m 4 1,.m 5 0,.nc 6 5,.f 7 0 6,.kr 8 151 1320 [.t 7],.nc 9 4,.f 10 0 9,.S 1 10 8] (.q [.m 11 1,.m 12 0,.nc 13 12,.f 14 0 13,.kr 15 151 1600 [.t 14],.nc 16 11,.f 17 1 16,.S 1 17 15] (.q [.m 18 1,.m 19 0,.nc 20 19,.f 21 0 20,.kr 22 151 1880 [.t 21],.nc 23 18,.f 24 2 23,.S 1 24 22] (.q [.m 25 1,.m 26 0,.nc 27 26,.f 28 0 27,.kr 29 152 2160 [.t 28],.nc 30 25,.f 31 4 30,.S 1 31 29] (.q [.m 32 1,.m 33 0,.nc 34 33,.f 35 0 34,.kr 36 152 2440 [.t 35],.nc 37 32,.f 38 7 37,.S 1 38 36] (.r [.m 39 1,.m 40 0,.nc 41 40,.f 42 0 41,.kr 43 152 2720 [.t 42],.nc 44 39,.f 45 8 44,.S 1 45 43])))))}
def F92 :MFunc:=
 {nargs:=2,ntmps:=104,res:=[],body:=.q [.m 4 1,.m 5 0,.nc 6 5,.f 7 0 6,.m 8 0,.nc 9 8,.f 10 2 9,.L 11 11 10,.kd 12 121 [.t 11],.kr 13 153 1520 [.t 7,.t 12],.nc 14 4,.f 15 3 14,.S 1 15 13] (.q [.m 16 1,.m 17 0,.nc 18 17,.f 19 0 18,.m 20 0,.nc 21 20,.f 22 2 21,.L 23 11 22,.kd 24 155 [.t 23],.kr 25 154 2000 [.t 19,.t 24],.nc 26 16,.f 27 5 26,.S 1 27 25] (.q [.m 28 1,.m 29 0,.nc 30 29,.f 31 0 30,.m 32 0,.nc 33 32,.f 34 2 33,.L 35 11 34,.kd 36 155 [.t 35],.kr 37 154 2480 [.t 31,.t 36],.nc 38 28,.f 39 6 38,.S 1 39 37] (.q [.m 40 1,.m 41 0,.nc 42 41,.f 43 0 42,.m 44 0,.nc 45 44,.f 46 2 45,.f 47 0 46,.l 48 47,.kr 49 153 2960 [.t 43,.t 48],.nc 50 40,.f 51 9 50,.S 1 51 49] (.q [.m 52 1,.m 53 0,.nc 54 53,.f 55 0 54,.m 56 0,.nc 57 56,.f 58 2 57,.f 59 0 58,.l 60 59,.kr 61 153 3440 [.t 55,.t 60],.nc 62 52,.f 63 10 62,.S 1 63 61] (.q [.m 64 1,.m 65 0,.nc 66 65,.f 67 0 66,.m 68 0,.nc 69 68,.f 70 2 69,.f 71 10 70,.l 72 71,.e 73 72,.kr 74 153 3960 [.t 67,.t 73],.nc 75 64,.f 76 11 75,.S 1 76 74] (.q [.m 77 1,.m 78 0,.nc 79 78,.f 80 0 79,.m 81 0,.nc 82 81,.f 83 2 82,.f 84 10 83,.l 85 84,.e 86 85,.kr 87 153 4480 [.t 80,.t 86],.nc 88 77,.f 89 12 88,.S 1 89 87] (.q [.m 90 1,.m 91 0,.nc 92 91,.f 93 0 92,.kr 94 156 4760 [.t 93,.i 16],.nc 95 90,.f 96 13 95,.S 1 96 94] (.r [.m 97 1,.m 98 0,.nc 99 98,.f 100 0 99,.kr 101 156 5040 [.t 100,.i 16],.nc 102 97,.f 103 14 102,.S 1 103 101]))))))))}
def B93_0 :MCode:=
 .q [.b 14 .lss 13 12] (.u 14 0 (.k (.o 1 (.q [.nw 4 104 [.e,.z,.z]] (.q [.m 15 0,.nc 16 15,.f 17 0 16,.kr 18 156 1720 [.t 17,.i 16],.f 19 0 4,.S 1 19 18] (.q [.m 20 0,.nc 21 20,.f 22 0 21,.kr 23 152 1920 [.t 22],.f 24 1 4,.S 1 24 23] (.q [.m 25 0,.nc 26 25,.f 27 0 26,.kr 28 152 2120 [.t 27],.f 29 2 4,.S 1 29 28] (.r [.m 30 1,.m 31 1,.nc 32 31,.f 33 15 32,.s 34 (.ldx (.t 33)),.L 35 3 4,.li 36 3 true [.e,.z,.z] 1 [(0,.t 35)],.s 37 (.app 3 true (.x 34) (.t 36)),.nc 38 30,.f 39 15 38,.n (.st 1 (.t 39) (.x 37))])))))) (.r [.bi 40 .add 13 1,.m 13 40])))
def B93_1 :MCode:=
 .q [.b 53 .lss 52 51] (.u 53 2 (.k (.o 3 (.q [.m 54 0,.nc 55 54,.f 56 0 55,.kr 57 156 3280 [.t 56,.i 40],.m 5 57] (.r [.m 58 1,.m 59 1,.nc 60 59,.f 61 16 60,.s 62 (.ldx (.t 61)),.m 63 5,.li 64 1 false [.e] 1 [(0,.t 63)],.s 65 (.app 1 false (.x 62) (.t 64)),.nc 66 58,.f 67 16 66,.n (.st 1 (.t 67) (.x 65))]))) (.r [.bi 68 .add 52 1,.m 52 68])))
def B93_2 :MCode:=
 .q [.b 75 .lss 74 73] (.u 75 4 (.k (.o 5 (.q [.nw 6 106 [.z,.z]] (.q [.m 76 0,.nc 77 76,.f 78 0 77,.s 79 (.callk 152 4160 [.t 78] [(.t 0,2)]),.m 80 0,.nc 81 80,.f 82 2 81,.f 83 0 82,.s 84 (.ldk (.t 83) (.t 0) 2),.b 85 .rem 79 84,.f 86 0 6,.S 1 86 85] (.q [.m 87 0,.nc 88 87,.f 89 0 88,.kr 90 151 4600 [.t 89],.f 91 1 6,.S 1 91 90] (.r [.m 92 1,.m 93 1,.nc 94 93,.f 95 17 94,.s 96 (.ldx (.t 95)),.L 97 2 6,.li 98 2 true [.z,.z] 1 [(0,.t 97)],.s 99 (.app 2 true (.x 96) (.t 98)),.nc 100 92,.f 101 17 100,.n (.st 1 (.t 101) (.x 99))]))))) (.r [.bi 102 .add 74 1,.m 74 102])))
def B93_3 :MCode:=
 .q [.bi 104 .lss 103 6] (.u 104 6 (.k (.o 7 (.q [.m 105 103,.m 7 105] (.r [.m 106 1,.m 107 7,.m 108 0,.nc 109 108,.f 110 0 109,.kr 111 151 5440 [.t 110],.nc 112 106,.f 113 18 112,.s 114 (.iaA 6 1 (.t 113) (.t 107)),.S 1 114 111]))) (.r [.bi 115 .add 103 1,.m 103 115])))
def F93 :MFunc:=
 {nargs:=2,ntmps:=116,res:=[],body:=.k (.q [.m 8 0,.nc 9 8,.f 10 2 9,.f 11 0 10,.l 12 11,.mi 13 0] (.o 0 (.loop [0,1,12,13] [] [0,1] B93_0))) (.k (.q [.m 41 0,.nc 42 41,.f 43 2 42,.f 44 0 43,.l 45 44,.m 46 0,.nc 47 46,.f 48 2 47,.f 49 2 48,.l 50 49,.b 51 .mul 45 50,.mi 52 0] (.o 2 (.loop [0,1,51,52] [] [0,1] B93_1))) (.k (.q [.m 69 0,.nc 70 69,.f 71 0 70,.kr 72 152 3880 [.t 71],.bi 73 .rem 72 65,.mi 74 0] (.o 4 (.loop [0,1,73,74] [] [0,1] B93_2))) (.q [.mi 103 0] (.o 6 (.loop [0,1,103] [] [] B93_3)))))}
def F94 :MFunc:=
 {nargs:=2,ntmps:=16,res:=[.cell 4 24 true],body:=.q [.be 2 0,.s 3 (.box 103 (.t 1)),.nw 4 104 [.z,.z,.z,.e,.z,.e,.e,.z,.z,.e,.e,.e,.e,.e,.e,.n,.n,.n,.z,.z,.z,.z,.z,.z]] (.k (.q [.L 5 11 2,.k 6 66 [.t 5],.bi 7 .neq 6 0] (.i 7 (.q [.bd 8 [.z,.z,.z,.e,.z,.e,.e,.z,.z,.e,.e,.e,.e,.e,.e,.n,.n,.n,.z,.z,.z,.z,.z,.z] [],.S 24 4 8] .ret))) (.q [.L 9 11 2,.kr 10 157 1400 [.t 9,.t 3]] (.q [.L 11 11 2,.kr 12 158 1480 [.t 11,.t 3]] (.q [.L 13 11 2,.kr 14 159 1560 [.t 13,.t 3]] (.q [.L 15 24 3,.S 24 4 15] .ret)))))}
def F95 :MFunc:=
 {nargs:=2,ntmps:=13,res:=[.t 4],body:=.q [.be 2 0,.mb 4 false] (.q [.m 5 1,.bi 6 .geq 5 0,.m 7 6,.w 7 true (.m 8 1),.w 7 true (.L 9 11 2),.w 7 true (.k 10 110 [.t 9]),.w 7 true (.b 11 .lss 8 10),.pa 12 7 11 false,.m 4 12] .ret)}
def F96 :MFunc:=
 {nargs:=3,ntmps:=16,res:=[.t 6],body:=.q [.s 6 (.mv (.c (.str [])))] (.k (.q [.m 7 1,.m 8 0,.e 9 8,.b 10 .lss 7 9] (.i 10 (.q [.m 11 0,.m 12 1,.ix 13 1 11 12,.l 14 13,.m 6 14] .ret))) (.q [.m 15 2,.m 6 15] .ret))}
def F99 :MFunc:=
 {nargs:=1,ntmps:=13,res:=[.t 2],body:=.q [.be 1 0,.mi 2 0] (.k (.q [.L 3 11 1,.k 4 53 [.t 3],.bi 5 .neq 4 0] (.i 5 (.q [.mi 2 0] .ret))) (.q [.f 6 1 1,.l 7 6,.bi 8 .add 7 1,.s 9 (.bin .mul (.i 3) (.t 8)),.f 10 2 1,.l 11 10,.b 12 .mul 9 11,.m 2 12] .ret))}
def F105 :MFunc:=
 {nargs:=2,ntmps:=14,res:=[.t 4],body:=.q [.be 2 0,.mb 4 false] (.q [.m 5 1,.bi 6 .geq 5 0,.m 7 6,.w 7 true (.m 8 1),.w 7 true (.f 9 0 2),.w 7 true (.l 10 9),.w 7 true (.k 11 55 [.t 10,.i 0,.i 13]),.w 7 true (.b 12 .lss 8 11),.pa 13 7 12 false,.m 4 13] .ret)}
def F106 :MFunc:=
 {nargs:=1,ntmps:=55,res:=[.t 2],body:=.q [.be 1 0,.mi 2 0] (.k (.q [.L 5 11 1,.k 6 53 [.t 5],.bi 7 .neq 6 0] (.i 7 (.q [.L 8 11 1,.k 9 53 [.t 8],.m 2 9] .ret))) (.q [.L 10 11 1,.k 11 172 [.t 10],.m 3 11] (.q [.L 12 11 1,.f 13 10 1,.l 14 13,.e 15 14,.bi 16 .sub 15 1,.kd 17 173 [.t 12,.t 16],.f 18 2 1,.l 19 18,.f 20 4 1,.l 21 20,.b 22 .mul 19 21,.b 23 .add 17 22,.m 24 3,.b 25 .add 23 24,.m 4 25] (.k (.q [.f 26 7 1,.l 27 26,.m 28 3,.s 29 (.bin .mul (.i 2) (.t 28)),.b 30 .leq 27 29,.m 31 30,.w 31 false (.m 32 4),.w 31 false (.f 33 3 1),.w 31 false (.l 34 33),.w 31 false (.bi 35 .sub 34 1),.w 31 false (.f 36 4 1),.w 31 false (.l 37 36),.w 31 false (.f 38 5 1),.w 31 false (.l 39 38),.w 31 false (.b 40 .sub 37 39),.w 31 false (.b 41 .mul 35 40),.w 31 false (.b 42 .gtr 32 41),.po 43 31 true 42,.m 44 43,.w 44 false (.f 45 3 1),.w 44 false (.l 46 45),.w 44 false (.f 47 4 1),.w 44 false (.l 48 47),.w 44 false (.f 49 5 1),.w 44 false (.l 50 49),.w 44 false (.b 51 .add 48 50),.w 44 false (.b 52 .mul 46 51),.w 44 false (.bi 53 .geq 52 32768),.po 54 44 true 53] (.i 54 (.q [.mi 2 8] .ret))) (.q [.mi 2 0] .ret)))))}
def B107_0 :MCode:=
 .q [.b 69 .lss 68 67] (.u 69 0 (.k (.o 1 (.q [.ix 70 2 66 68,.L 71 2 70,.nw 6 106 [.z,.e],.S 2 6 71] (.q [.f 72 1 6,.l 73 72,.es 74 73,.bi 75 .gtr 74 16] (.i 75 (.q [.mi 4 15] .ret))))) (.r [.bi 76 .add 68 1,.m 68 76])))
def F107 :MFunc:=
 {nargs:=2,ntmps:=77,res:=[.t 4],body:=.q [.be 2 0,.be 3 1,.mi 4 0] (.k (.q [.f 7 0 3,.l 8 7,.f 9 0 2,.l 10 9,.kd 11 174 [.t 8,.t 10],.no 12 11,.m 13 12,.w 13 false (.f 14 1 3),.w 13 false (.l 15 14),.w 13 false (.f 16 0 2),.w 13 false (.l 17 16),.w 13 false (.f 18 0 2),.w 13 false (.l 19 18),.w 13 false (.b 20 .mul 17 19),.w 13 false (.kd 21 174 [.t 15,.t 20]),.w 13 false (.no 22 21),.po 23 13 true 22,.m 24 23,.w 24 false (.L 25 6 3),.w 24 false (.kd 26 175 [.t 25]),.w 24 false (.f 27 2 3),.w 24 false (.l 28 27),.w 24 false (.e 29 28),.w 24 false (.f 30 4 3),.w 24 false (.l 31 30),.w 24 false (.e 32 31),.w 24 false (.b 33 .add 29 32),.w 24 false (.kd 34 174 [.t 26,.t 33]),.w 24 false (.no 35 34),.po 36 24 true 35] (.i 36 (.q [.mi 4 2] .ret))) (.k (.q [.f 37 2 3,.l 38 37,.e 39 38,.bi 40 .gtr 39 40,.m 41 40,.w 41 false (.f 42 3 3),.w 41 false (.l 43 42),.w 41 false (.e 44 43),.w 41 false (.bi 45 .gtr 44 40),.po 46 41 true 45,.m 47 46,.w 47 false (.f 48 4 3),.w 47 false (.l 49 48),.w 47 false (.e 50 49),.w 47 false (.bi 51 .gtr 50 40),.po 52 47 true 51,.m 53 52,.w 53 false (.f 54 5 3),.w 53 false (.l 55 54),.w 53 false (.e 56 55),.w 53 false (.bi 57 .gtr 56 40),.po 58 53 true 57] (.i 58 (.q [.mi 4 9] .ret))) (.k (.q [.L 59 11 2,.L 60 6 3,.k 61 176 [.t 59,.t 60],.no 62 61] (.i 62 (.q [.mi 4 7] .ret))) (.k (.q [.L 63 6 3,.k 64 177 [.t 63]] (.i 64 (.q [.mi 4 6] .ret))) (.k (.q [.f 65 5 3,.l 66 65,.e 67 66,.mi 68 0] (.o 0 (.loop [66,67,68] [] [4] B107_0))) (.q [.mi 4 0] .ret))))))}
def F108 :MFunc:=
 {nargs:=3,ntmps:=15,res:=[.t 6],body:=.q [.mb 6 false] (.q [.m 7 0,.m 8 1,.b 9 .geq 7 8,.m 10 9,.w 10 true (.m 11 0),.w 10 true (.m 12 2),.w 10 true (.b 13 .leq 11 12),.pa 14 10 13 false,.m 6 14] .ret)}
def B109_0 :MCode:=
 .k (.q [.m 7 3,.f 8 10 1,.l 9 8,.e 10 9,.b 11 .lss 7 10] (.c 11 .skip (.exit 0))) (.k (.o 1 (.q [.f 14 10 1,.l 15 14,.m 16 3,.ix 17 1 15 16,.l 18 17,.f 19 0 1,.l 20 19,.bi 21 .sub 20 1,.kd 22 108 [.t 18,.i 0,.t 21],.no 23 22] (.i 23 (.q [.mb 2 false] .ret)))) (.r [.m 12 3,.bi 13 .add 12 1,.m 3 13]))
def B109_1 :MCode:=
 .k (.q [.m 30 6,.f 31 10 1,.l 32 31,.e 33 32,.b 34 .lss 30 33] (.c 34 .skip (.exit 4))) (.k (.o 5 (.r [.m 37 5,.m 38 37,.w 38 false (.f 39 10 1),.w 38 false (.l 40 39),.w 38 false (.m 41 6),.w 38 false (.ix 42 1 40 41),.w 38 false (.l 43 42),.w 38 false (.m 44 4),.w 38 false (.b 45 .eql 43 44),.po 46 38 true 45,.m 5 46])) (.r [.m 35 6,.bi 36 .add 35 1,.m 6 36]))
def B109_2 :MCode:=
 .k (.q [.m 24 4,.f 25 0 1,.l 26 25,.b 27 .lss 24 26] (.c 27 .skip (.exit 2))) (.k (.o 3 (.q [.mb 5 false] (.k (.q [.mi 6 0] (.o 4 (.loop [1,4,5,6] [] [1,4,5] B109_1))) (.q [.m 47 5,.no 48 47] (.i 48 (.q [.mb 2 false] .ret)))))) (.r [.m 28 4,.bi 29 .add 28 1,.m 4 29]))
def F109 :MFunc:=
 {nargs:=1,ntmps:=49,res:=[.t 2],body:=.q [.be 1 0,.mb 2 false] (.k (.q [.mi 3 0] (.o 0 (.loop [1,3] [] [1,2] B109_0))) (.k (.q [.mi 4 0] (.o 2 (.loop [1,4] [] [2] B109_2))) (.q [.mb 2 true] .ret)))}
def F110 :MFunc:=
 {nargs:=1,ntmps:=6,res:=[.t 2],body:=.q [.be 1 0,.mi 2 0] (.q [.f 3 0 1,.l 4 3,.k 5 178 [.t 4,.i 0,.i 13],.m 2 5] .ret)}
def F111 :MFunc:=
 {nargs:=2,ntmps:=9,res:=[.t 4],body:=.q [.be 2 0,.mb 4 false] (.q [.f 5 11 2,.l 6 5,.m 7 1,.k 8 179 [.t 6,.t 7],.m 4 8] .ret)}
def F112 :MFunc:=
 {nargs:=3,ntmps:=36,res:=[.cell 6 7 true],body:=.q [.nw 6 106 [.o,.o,.z,.z,.e,.z,.n]] (.k (.q [.m 7 1,.bi 8 .lss 7 0,.m 9 8,.w 9 false (.m 10 1),.w 9 false (.m 11 0),.w 9 false (.e 12 11),.w 9 false (.b 13 .geq 10 12),.po 14 9 true 13,.m 15 14,.w 15 false (.m 16 2),.w 15 false (.bi 17 .lss 16 0),.po 18 15 true 17,.m 19 18,.w 19 false (.m 20 2),.w 19 false (.m 21 0),.w 19 false (.m 22 1),.w 19 false (.ix 23 1 21 22),.w 19 false (.l 24 23),.w 19 false (.e 25 24),.w 19 false (.b 26 .geq 20 25),.po 27 19 true 26] (.i 27 (.q [.bd 28 [.o,.o,.z,.z,.e,.z,.n] [],.S 7 6 28] .ret))) (.q [.m 29 0,.m 30 1,.ix 31 1 29 30,.l 32 31,.m 33 2,.ix 34 7 32 33,.L 35 7 34,.S 7 6 35] .ret))}
def F114 :MFunc:=
 {nargs:=1,ntmps:=32,res:=[.t 2],body:=.q [.be 1 0,.mi 2 0] (.q [.L 7 11 1,.k 8 120 [.t 7],.m 6 8,.ex 9 6 0,.ex 10 6 1,.nw 3 103 [.z,.z,.z,.z,.z,.z,.z,.z,.z,.z,.n],.S 11 3 9,.m 4 10] (.k (.q [.m 11 4,.no 12 11] (.i 12 (.q [.L 13 11 1,.k 14 66 [.t 13],.m 2 14] .ret))) (.q [.L 15 11 3,.L 16 11 3,.kd 17 181 [.t 16],.bd 18 [.z,.z,.z,.z,.z,.z,.z,.z,.z,.z,.n,.z] [(0,11,.t 15),(11,1,.t 17)],.nw 5 105 [.z,.z,.z,.z,.z,.z,.z,.z,.z,.z,.n,.z],.S 12 5 18] (.k (.q [.L 19 12 5,.k 20 182 [.t 19],.no 21 20,.m 22 21,.w 22 false (.L 23 12 5),.w 22 false (.k 24 183 [.t 23]),.w 22 false (.no 25 24),.po 26 22 true 25,.m 27 26,.w 27 false (.L 28 12 5),.w 27 false (.k 29 184 [.t 28]),.w 27 false (.no 30 29),.po 31 27 true 30] (.i 31 (.q [.mi 2 8] .ret))) (.q [.mi 2 0] .ret)))))}
def B115_0 :MCode:=
 .q [.b 9 .lss 8 7] (.u 9 0 (.k (.o 1 (.q [.m 10 8,.ix 11 1 6 8,.l 12 11,.m 3 10,.m 4 12] (.q [.f 13 0 1,.L 14 11 13,.m 15 4,.k 16 95 [.t 14,.t 15],.no 17 16,.m 18 17,.w 18 false (.f 19 11 1),.w 18 false (.l 20 19),.w 18 false (.m 21 3),.g 22 18 false (.slc 1 (.t 20) none (some (.t 21)) none),.w 18 false (.m 23 4),.w 18 false (.k 24 179 [.t 22,.t 23]),.po 25 18 true 24] (.i 25 (.q [.mb 2 false] .ret))))) (.r [.bi 26 .add 8 1,.m 8 26])))
def F115 :MFunc:=
 {nargs:=1,ntmps:=27,res:=[.t 2],body:=.q [.be 1 0,.mb 2 false] (.k (.q [.f 5 11 1,.l 6 5,.e 7 6,.mi 8 0] (.o 0 (.loop [1,6,7,8] [] [2] B115_0))) (.q [.mb 2 true] .ret))}
def B116_0 :MCode:=
 .q [.b 10 .lss 9 8] (.u 10 0 (.k (.o 1 (.q [.ix 11 1 7 9,.l 12 11,.m 6 12] (.q [.m 13 1,.m 14 6,.s 15 (.callv (.t 13) (.ref 1600) [.t 14]),.no 16 15] (.i 16 (.q [.mb 4 false] .ret))))) (.r [.bi 17 .add 9 1,.m 9 17])))
def F116 :MFunc:=
 {nargs:=2,ntmps:=18,res:=[.t 4],body:=.q [.mb 4 false] (.k (.q [.m 7 0,.e 8 7,.mi 9 0] (.o 0 (.loop [1,7,8,9] [] [4] B116_0))) (.q [.mb 4 true] .ret))}
def F117 :MFunc:=
 {nargs:=1,ntmps:=6,res:=[.t 2],body:=.q [.mb 2 false] (.q [.m 3 0,.es 4 3,.bi 5 .leq 4 8000,.m 2 5] .ret)}
def F118 :MFunc:=
 {nargs:=2,ntmps:=49,res:=[.t 4],body:=.q [.be 2 0,.be 3 1,.mi 4 0] (.q [.s 5 (.mv (.c (.fn 185 [])))] (.k (.o 0 (.k (.q [.f 7 0 3,.l 8 7,.f 9 0 2,.l 10 9,.k 11 186 [.t 8,.t 10],.no 12 11,.m 6 12] (.c 6 .skip (.q [.f 13 1 3,.l 14 13,.f 15 0 2,.l 16 15,.f 17 0 2,.l 18 17,.b 19 .mul 16 18,.k 20 186 [.t 14,.t 19],.no 21 20,.m 6 21] (.c 6 .skip (.q [.f 22 2 3,.l 23 22,.m 24 5,.kr 25 187 2000 [.t 23,.t 24],.no 26 25,.m 6 26] (.c 6 .skip (.r [.f 27 4 3,.l 28 27,.m 29 5,.kr 30 187 2200 [.t 28,.t 29],.no 31 30,.m 6 31]))))))) (.c 6 (.q [.mi 4 2] .ret) (.q [.L 33 6 3,.k 34 188 [.t 33],.m 32 34] (.c 32 (.q [.mi 4 9] .ret) (.q [.L 36 11 2,.L 37 6 3,.k 38 189 [.t 36,.t 37],.no 39 38,.m 35 39] (.c 35 (.q [.mi 4 7] .ret) (.q [.L 41 6 3,.k 42 190 [.t 41],.no 43 42,.m 40 43] (.c 40 (.q [.mi 4 6] .ret) (.q [.f 45 5 3,.l 46 45,.kr 47 191 2880 [.t 46,.c (.fn 192 [])],.no 48 47,.m 44 48] (.i 44 (.q [.mi 4 15] .ret)))))))))))) (.q [.mi 4 0] .ret)))}
def B119_0 :MCode:=
 .q [.b 18 .lss 17 16] (.u 18 0 (.k (.o 1 (.q [.ix 19 1 15 17,.l 20 19,.m 7 20] (.q [.L 21 14 2,.m 22 1,.m 23 7,.k 24 194 [.t 21,.t 22,.t 23],.no 25 24,.m 26 25,.w 26 false (.L 27 14 2),.w 26 false (.m 28 1),.w 26 false (.m 29 7),.w 26 false (.m 30 5),.w 26 false (.k 31 195 [.t 27,.t 28,.t 29,.t 30]),.w 26 false (.no 32 31),.po 33 26 true 32] (.i 33 (.q [.mb 4 false] .ret))))) (.r [.bi 34 .add 17 1,.m 17 34])))
def F119 :MFunc:=
 {nargs:=2,ntmps:=35,res:=[.t 4],body:=.q [.be 2 0,.mb 4 false] (.k (.q [.L 8 14 2,.m 9 1,.k 10 193 [.t 8,.t 9],.no 11 10] (.i 11 (.q [.mb 4 false] .ret))) (.q [.f 12 0 2,.L 13 14 12,.k 14 58 [.t 13],.mx 5 14] (.k (.q [.m 15 5,.e 16 15,.mi 17 0] (.o 0 (.loop [1,2,5,15,16,17] [] [4] B119_0))) (.q [.mb 4 true] .ret))))}
def F120 :MFunc:=
 {nargs:=1,ntmps:=9,res:=[.cell 2 11 true,.t 3],body:=.q [.be 1 0,.nw 2 102 [.z,.z,.z,.z,.z,.z,.z,.z,.z,.z,.n],.mb 3 false] (.q [.L 4 11 1,.bd 5 [.z,.z,.z,.z,.z,.z,.z,.z,.z,.z,.n] [(0,11,.t 4)],.L 6 11 1,.kd 7 66 [.t 6],.bi 8 .eql 7 0,.S 11 2 5,.m 3 8] .ret)}
def F121 :MFunc:=
 {nargs:=1,ntmps:=9,res:=[.t 2],body:=.q [.be 1 0,.mi 2 0] (.q [.L 3 11 1,.kd 4 196 [.t 3],.f 5 2 1,.l 6 5,.s 7 (.mm true (.t 6) [.i 0]),.b 8 .mul 4 7,.m 2 8] .ret)}
def F122 :MFunc:=
 {nargs:=1,ntmps:=25,res:=[.t 2],body:=.q [.be 1 0,.mb 2 false] (.q [.bd 5 [.z,.z] [(0,1,.i 4),(1,1,.i 13)],.nw 3 103 [.z,.z],.S 2 3 5] (.q [.bd 6 [.z,.z] [(0,1,.i 0),(1,1,.i 4)],.nw 4 104 [.z,.z],.S 2 4 6] (.q [.L 7 2 3,.f 8 0 1,.l 9 8,.k 10 123 [.t 7,.t 9],.m 11 10,.w 11 true (.L 12 2 4),.w 11 true (.f 13 1 1),.w 11 true (.l 14 13),.w 11 true (.k 15 123 [.t 12,.t 14]),.pa 16 11 15 false,.m 17 16,.w 17 true (.f 18 0 1),.w 17 true (.l 19 18),.w 17 true (.f 20 1 1),.w 17 true (.l 21 20),.g 22 17 true (.bin .mul (.i 3) (.t 21)),.w 17 true (.b 23 .gtr 19 22),.pa 24 17 23 false,.m 2 24] .ret)))}
def F123 :MFunc:=
 {nargs:=2,ntmps:=15,res:=[.t 4],body:=.q [.be 2 0,.mb 4 false] (.q [.m 5 1,.f 6 0 2,.l 7 6,.b 8 .geq 5 7,.m 9 8,.w 9 true (.m 10 1),.w 9 true (.f 11 1 2),.w 9 true (.l 12 11),.w 9 true (.b 13 .leq 10 12),.pa 14 9 13 false,.m 4 14] .ret)}
def B124_0 :MCode:=
 .q [.b 47 .lss 46 45] (.u 47 0 (.k (.o 1 (.q [.ix 48 3 44 46,.L 49 3 48,.nw 4 104 [.z,.z,.z],.S 3 4 49] (.q [.f 50 1 4,.L 51 2 50,.f 52 0 4,.l 53 52,.k 54 123 [.t 51,.t 53],.no 55 54] (.i 55 (.q [.mb 2 false] .ret))))) (.r [.bi 56 .add 46 1,.m 46 56])))
def F124 :MFunc:=
 {nargs:=1,ntmps:=57,res:=[.t 2],body:=.q [.be 1 0,.mb 2 false] (.k (.q [.f 5 3 1,.l 6 5,.f 7 1 1,.l 8 7,.bi 9 .add 8 1,.s 10 (.bin .mul (.i 6) (.t 9)),.f 11 2 1,.l 12 11,.b 13 .mul 10 12,.bi 14 .add 13 1,.bd 15 [.z,.z] [(0,1,.t 14),(1,1,.i 400)],.bd 16 [.z,.z,.z] [(0,1,.t 6),(1,2,.t 15)],.f 17 4 1,.l 18 17,.bd 19 [.z,.z] [(0,1,.i 1),(1,1,.i 64)],.bd 20 [.z,.z,.z] [(0,1,.t 18),(1,2,.t 19)],.f 21 5 1,.l 22 21,.f 23 4 1,.l 24 23,.bi 25 .sub 24 1,.bd 26 [.z,.z] [(0,1,.i 0),(1,1,.t 25)],.bd 27 [.z,.z,.z] [(0,1,.t 22),(1,2,.t 26)],.f 28 6 1,.l 29 28,.bd 30 [.z,.z] [(0,1,.i 0),(1,1,.i 30000)],.bd 31 [.z,.z,.z] [(0,1,.t 29),(1,2,.t 30)],.f 32 7 1,.l 33 32,.bd 34 [.z,.z] [(0,1,.i 1),(1,1,.i 30000)],.bd 35 [.z,.z,.z] [(0,1,.t 33),(1,2,.t 34)],.f 36 8 1,.l 37 36,.bd 38 [.z,.z] [(0,1,.i 2),(1,1,.i 250)],.bd 39 [.z,.z,.z] [(0,1,.t 37),(1,2,.t 38)],.f 40 9 1,.l 41 40,.bd 42 [.z,.z] [(0,1,.i 1),(1,1,.i 100)],.bd 43 [.z,.z,.z] [(0,1,.t 41),(1,2,.t 42)],.li 44 3 true [.z,.z,.z] 7 [(0,.t 16),(1,.t 20),(2,.t 27),(3,.t 31),(4,.t 35),(5,.t 39),(6,.t 43)],.e 45 44,.mi 46 0] (.o 0 (.loop [44,45,46] [] [2] B124_0))) (.q [.mb 2 true] .ret))}
def B125_0 :MCode:=
 .q [.b 20 .lss 19 18] (.u 20 0 (.k (.o 1 (.q [.ix 21 1 17 19,.l 22 21,.m 6 22] (.k (.q [.m 23 6,.bi 24 .lss 23 0,.m 25 24,.w 25 false (.m 26 6),.w 25 false (.f 27 0 1),.w 25 false (.l 28 27),.w 25 false (.b 29 .geq 26 28),.po 30 25 true 29] (.i 30 (.q [.mb 2 false] .ret))) (.r [.m 31 6,.s 32 (.iaA 13 1 (.t 4) (.t 31)),.l 33 32,.bi 34 .add 33 1,.s 35 (.iaA 13 1 (.t 4) (.t 31)),.S 1 35 34])))) (.r [.bi 36 .add 19 1,.m 19 36])))
def B125_1 :MCode:=
 .q [.b 42 .lss 41 40] (.u 42 2 (.k (.o 3 (.q [.ix 43 1 39 41,.l 44 43,.m 8 44] (.q [.m 45 8,.bi 46 .eql 45 0] (.i 46 (.q [.mb 2 false] .ret))))) (.r [.bi 47 .add 41 1,.m 41 47])))
def F125 :MFunc:=
 {nargs:=1,ntmps:=48,res:=[.t 2],body:=.q [.be 1 0,.mb 2 false] (.q [.bd 9 [.z,.z] [(0,1,.i 1),(1,1,.i 32)],.nw 3 103 [.z,.z],.S 2 3 9] (.k (.q [.L 10 2 3,.f 11 10 1,.l 12 11,.e 13 12,.k 14 123 [.t 10,.t 13],.no 15 14] (.i 15 (.q [.mb 2 false] .ret))) (.q [.nw 4 104 [.z,.z,.z,.z,.z,.z,.z,.z,.z,.z,.z,.z,.z]] (.k (.q [.f 16 10 1,.l 17 16,.e 18 17,.mi 19 0] (.o 0 (.loop [1,4,17,18,19] [103,104] [1,2,4] B125_0))) (.k (.q [.f 37 0 1,.l 38 37,.s 39 (.slcA 13 1 false (.t 4) none (some (.t 38))),.e 40 39,.mi 41 0] (.o 2 (.loop [39,40,41] [103,104] [2] B125_1))) (.q [.mb 2 true] .ret))))))}
def B126_0 :MCode:=
 .q [.b 12 .lss 11 10] (.u 12 0 (.k (.o 1 (.q [.ix 13 1 9 11,.l 14 13,.m 8 14] (.q [.m 15 0,.m 16 2,.m 17 8,.kd 18 112 [.t 15,.t 16,.t 17],.s 19 (.fld 0 1 false (.t 18)),.m 20 0,.m 21 2,.m 22 1,.s 23 (.ia 1 (.t 22) (.i 0)),.l 24 23,.kd 25 112 [.t 20,.t 21,.t 24],.s 26 (.fld 0 1 false (.t 25)),.s 27 (.eqB true (.t 19) (.t 26))] (.i 27 (.q [.mb 6 false] .ret))))) (.r [.bi 28 .add 11 1,.m 11 28])))
def F126 :MFunc:=
 {nargs:=3,ntmps:=29,res:=[.t 6],body:=.q [.mb 6 false] (.k (.q [.m 9 1,.e 10 9,.mi 11 0] (.o 0 (.loop [0,1,2,9,10,11] [] [6] B126_0))) (.q [.mb 6 true] .ret))}
def B127_0 :MCode:=
 .q [.b 9 .lss 8 7] (.u 9 0 (.k (.o 1 (.q [.m 10 8,.m 4 10] (.r [.m 11 3,.m 12 0,.m 13 4,.is 14 12 13,.k 15 197 [.t 14],.m 16 4,.b 17 .shl 15 16,.b 18 .or 11 17,.m 3 18]))) (.r [.bi 19 .add 8 1,.m 8 19])))
def F127 :MFunc:=
 {nargs:=1,ntmps:=21,res:=[.t 2],body:=.q [.mi 2 0] (.q [.mi 3 0] (.k (.q [.m 5 0,.es 6 5,.s 7 (.mm false (.t 6) [.i 8]),.mi 8 0] (.o 0 (.loop [0,3,7,8] [] [3] B127_0))) (.q [.m 20 3,.m 2 20] .ret)))}
def F128 :MFunc:=
 {nargs:=1,ntmps:=4,res:=[.t 2],handsRef:=true,body:=.q [.s 1 (.box 101 (.t 0)),.s 2 (.mv (.c (.undef)))] (.q [.s 3 (.mk 198 [.t 1]),.m 2 3] .ret)}
def F129 :MFunc:=
 {nargs:=1,ntmps:=9,res:=[.t 2],body:=.q [.mb 2 false] (.q [.m 3 0,.bi 4 .geq 3 0,.m 5 4,.w 5 true (.m 6 0),.w 5 true (.bi 7 .leq 6 2000),.pa 8 5 7 false,.m 2 8] .ret)}
def B130_0 :MCode:=
 .q [.b 10 .lss 9 8] (.u 10 0 (.k (.o 1 (.q [.ix 11 1 7 9,.l 12 11,.m 6 12] (.q [.m 13 1,.m 14 6,.s 15 (.callv (.t 13) (.ref 1600) [.t 14]),.no 16 15] (.i 16 (.q [.mb 4 false] .ret))))) (.r [.bi 17 .add 9 1,.m 9 17])))
def F130 :MFunc:=
 {nargs:=2,ntmps:=18,res:=[.t 4],body:=.q [.mb 4 false] (.k (.q [.m 7 0,.e 8 7,.mi 9 0] (.o 0 (.loop [1,7,8,9] [] [4] B130_0))) (.q [.mb 4 true] .ret))}
def B131_0 :MCode:=
 .q [.b 9 .lss 8 7] (.u 9 0 (.k (.o 1 (.q [.m 10 8,.m 4 10] (.r [.mx 11 3,.L 12 11 1,.m 13 4,.k 14 200 [.t 12,.t 13],.li 15 1 false [.z] 1 [(0,.t 14)],.s 16 (.app 1 false (.x 11) (.t 15)),.mx 3 16]))) (.r [.bi 17 .add 8 1,.m 8 17])))
def F131 :MFunc:=
 {nargs:=1,ntmps:=30,res:=[.t 2],body:=.q [.be 1 0,.s 2 (.mv (.c (.n)))] (.q [.s 3 (.mv (.c (.n)))] (.k (.q [.f 5 10 1,.l 6 5,.e 7 6,.mi 8 0] (.o 0 (.loop [1,3,7,8] [] [1,3] B131_0))) (.q [.mx 18 3,.f 19 6 1,.l 20 19,.f 21 10 1,.l 22 21,.e 23 22,.f 24 7 1,.l 25 24,.b 26 .mul 23 25,.b 27 .add 20 26,.li 28 1 false [.z] 1 [(0,.t 27)],.s 29 (.app 1 false (.x 18) (.t 28)),.mx 2 29] .ret)))}
def F132 :MFunc:=
 {nargs:=2,ntmps:=15,res:=[.t 4],body:=.q [.be 2 0,.mb 4 false] (.q [.f 5 0 2,.l 6 5,.m 7 1,.b 8 .gtr 6 7,.m 9 8,.w 9 false (.f 10 1 2),.w 9 false (.l 11 10),.w 9 false (.m 12 1),.w 9 false (.b 13 .lss 11 12),.po 14 9 true 13,.m 4 14] .ret)}
def F133 :MFunc:=
 {nargs:=2,ntmps:=28,res:=[.t 4],body:=.q [.be 2 0,.mi 4 0] (.k (.q [.L 6 11 2,.k 7 66 [.t 6],.bi 8 .neq 7 0,.m 9 8,.w 9 false (.m 10 1),.w 9 false (.f 11 6 2),.w 9 false (.l 12 11),.w 9 false (.b 13 .lss 10 12),.po 14 9 true 13] (.i 14 (.q [.mi 4 (-1)] .ret))) (.q [.m 15 1,.f 16 6 2,.l 17 16,.b 18 .sub 15 17,.f 19 7 2,.l 20 19,.b 21 .quo 18 20,.m 5 21] (.k (.q [.m 22 5,.f 23 10 2,.l 24 23,.e 25 24,.b 26 .geq 22 25] (.i 26 (.q [.mi 4 (-1)] .ret))) (.q [.m 27 5,.m 4 27] .ret))))}
def F134 :MFunc:=
 {nargs:=2,ntmps:=21,res:=[.t 4],body:=.q [.be 2 0,.mb 4 false] (.q [.m 5 1,.es 6 5,.f 7 0 2,.f 8 0 7,.l 9 8,.b 10 .eql 6 9,.m 11 10,.w 11 true (.f 12 0 2),.w 11 true (.L 13 11 12),.w 11 true (.m 14 1),.w 11 true (.L 15 12 2),.w 11 true (.kd 16 136 [.t 15]),.w 11 true (.kd 17 201 [.t 13,.t 14,.t 16]),.w 11 true (.m 18 1),.w 11 true (.b 19 .eql 17 18),.pa 20 11 19 false,.m 4 20] .ret)}
def B135_0 :MCode:=
 .q [.b 26 .lss 25 24] (.u 26 0 (.k (.o 1 (.q [.m 27 25,.m 5 27] (.q [.f 28 2 3,.l 29 28,.m 30 5,.ix 31 1 29 30,.l 32 31,.es 33 32,.bi 34 .gtr 33 16,.m 35 34,.w 35 false (.L 36 12 2),.w 35 false (.m 37 5),.w 35 false (.k 38 202 [.t 36,.t 37]),.w 35 false (.m 39 38),.w 39 true (.f 40 2 3),.w 39 true (.l 41 40),.w 39 true (.m 42 5),.w 39 true (.ix 43 1 41 42),.w 39 true (.l 44 43),.w 39 true (.bc 45 .neq 44 (.str [])),.w 39 true (.m 46 45),.w 46 false (.f 47 3 3),.w 46 false (.l 48 47),.w 46 false (.m 49 5),.w 46 false (.ix 50 1 48 49),.w 46 false (.l 51 50),.w 46 false (.e 52 51),.w 46 false (.bi 53 .gtr 52 0),.w 39 true (.po 54 46 true 53),.w 35 false (.pa 55 39 54 false),.po 56 35 true 55] (.i 56 (.q [.mb 4 false] .ret))))) (.r [.bi 57 .add 25 1,.m 25 57])))
def F135 :MFunc:=
 {nargs:=2,ntmps:=58,res:=[.t 4],body:=.q [.be 2 0,.be 3 1,.mb 4 false] (.k (.q [.f 6 2 3,.l 7 6,.e 8 7,.f 9 0 2,.f 10 0 9,.l 11 10,.b 12 .neq 8 11,.m 13 12,.w 13 false (.f 14 3 3),.w 13 false (.l 15 14),.w 13 false (.e 16 15),.w 13 false (.f 17 0 2),.w 13 false (.f 18 0 17),.w 13 false (.l 19 18),.w 13 false (.b 20 .neq 16 19),.po 21 13 true 20] (.i 21 (.q [.mb 4 false] .ret))) (.k (.q [.f 22 0 2,.f 23 0 22,.l 24 23,.mi 25 0] (.o 0 (.loop [2,3,24,25] [] [4] B135_0))) (.q [.mb 4 true] .ret)))}
def B136_0 :MCode:=
 .q [.b 9 .lss 8 7] (.u 9 0 (.k (.o 1 (.q [.m 10 8,.m 4 10] (.q [.L 11 12 1,.m 12 4,.k 13 202 [.t 11,.t 12],.no 14 13] (.i 14 (.r [.mx 15 3,.m 16 4,.li 17 1 false [.z] 1 [(0,.t 16)],.s 18 (.app 1 false (.x 15) (.t 17)),.mx 3 18]))))) (.r [.bi 19 .add 8 1,.m 8 19])))
def F136 :MFunc:=
 {nargs:=1,ntmps:=21,res:=[.t 2],body:=.q [.be 1 0,.s 2 (.mv (.c (.n)))] (.q [.s 3 (.mv (.c (.n)))] (.k (.q [.f 5 0 1,.f 6 0 5,.l 7 6,.mi 8 0] (.o 0 (.loop [1,3,7,8] [] [3] B136_0))) (.q [.m 20 3,.m 2 20] .ret)))}
def F138 :MFunc:=
 {nargs:=3,ntmps:=22,res:=[.t 6],body:=.q [.be 3 0,.mi 6 0] (.k (.q [.L 7 11 3,.k 8 66 [.t 7],.bi 9 .neq 8 0] (.i 9 (.q [.mi 6 0] .ret))) (.q [.m 10 2,.f 11 8 3,.l 12 11,.kd 13 199 [.t 10,.t 12],.m 14 1,.f 15 8 3,.l 16 15,.kd 17 199 [.t 14,.t 16],.b 18 .sub 13 17,.f 19 8 3,.l 20 19,.kd 21 199 [.t 18,.t 20],.m 6 21] .ret))}
def F139 :MFunc:=
 {nargs:=3,ntmps:=44,res:=[.t 6],body:=.q [.be 3 0,.mi 6 0] (.k (.q [.m 7 1,.bi 8 .lss 7 0,.m 9 8,.w 9 false (.m 10 1),.w 9 false (.f 11 13 3),.w 9 false (.l 12 11),.w 9 false (.e 13 12),.w 9 false (.b 14 .geq 10 13),.po 15 9 true 14,.m 16 15,.w 16 false (.f 17 0 3),.w 16 false (.L 18 11 17),.w 16 false (.m 19 2),.w 16 false (.k 20 105 [.t 18,.t 19]),.w 16 false (.no 21 20),.po 22 16 true 21] (.i 22 (.q [.mi 6 0] .ret))) (.k (.q [.m 23 2,.f 24 13 3,.l 25 24,.m 26 1,.ix 27 6 25 26,.f 28 0 27,.l 29 28,.e 30 29,.b 31 .lss 23 30] (.i 31 (.q [.f 32 13 3,.l 33 32,.m 34 1,.ix 35 6 33 34,.f 36 0 35,.l 37 36,.m 38 2,.ix 39 1 37 38,.l 40 39,.m 6 40] .ret))) (.q [.f 41 0 3,.f 42 4 41,.l 43 42,.m 6 43] .ret)))}
def F140 :MFunc:=
 {nargs:=4,ntmps:=62,res:=[.t 8],body:=.q [.be 4 0,.mi 8 0] (.k (.q [.m 10 1,.bi 11 .lss 10 0,.m 12 11,.w 12 false (.m 13 1),.w 12 false (.f 14 13 4),.w 12 false (.l 15 14),.w 12 false (.e 16 15),.w 12 false (.b 17 .geq 13 16),.po 18 12 true 17,.m 19 18,.w 19 false (.f 20 0 4),.w 19 false (.L 21 11 20),.w 19 false (.m 22 2),.w 19 false (.k 23 105 [.t 21,.t 22]),.w 19 false (.no 24 23),.po 25 19 true 24,.m 26 25,.w 26 false (.f 27 0 4),.w 26 false (.L 28 11 27),.w 26 false (.m 29 3),.w 26 false (.k 30 105 [.t 28,.t 29]),.w 26 false (.no 31 30),.po 32 26 true 31] (.i 32 (.q [.mi 8 0] .ret))) (.q [.m 33 2,.f 34 0 4,.f 35 0 34,.l 36 35,.k 37 55 [.t 36,.i 0,.i 13],.b 38 .mul 33 37,.m 39 3,.b 40 .add 38 39,.m 9 40] (.k (.q [.m 41 9,.f 42 13 4,.l 43 42,.m 44 1,.ix 45 6 43 44,.f 46 1 45,.l 47 46,.e 48 47,.b 49 .lss 41 48] (.i 49 (.q [.f 50 13 4,.l 51 50,.m 52 1,.ix 53 6 51 52,.f 54 1 53,.l 55 54,.m 56 9,.ix 57 1 55 56,.l 58 57,.m 8 58] .ret))) (.q [.f 59 0 4,.f 60 2 59,.l 61 60,.m 8 61] .ret))))}
def F144 :MFunc:=
 {nargs:=2,ntmps:=26,res:=[.t 4],body:=.q [.be 2 0,.mi 4 0] (.k (.q [.L 5 11 2,.k 6 53 [.t 5],.bi 7 .neq 6 0,.m 8 7,.w 8 false (.m 9 1),.w 8 false (.bi 10 .lss 9 0),.po 11 8 true 10,.m 12 11,.w 12 false (.m 13 1),.w 12 false (.f 14 10 2),.w 12 false (.l 15 14),.w 12 false (.e 16 15),.w 12 false (.b 17 .geq 13 16),.po 18 12 true 17] (.i 18 (.q [.mi 4 0] .ret))) (.q [.f 19 6 2,.l 20 19,.m 21 1,.f 22 7 2,.l 23 22,.b 24 .mul 21 23,.b 25 .add 20 24,.m 4 25] .ret))}
def F151 :MFunc:=
 {nargs:=1,ntmps:=11,res:=[.t 2],body:=.q [.mi 2 0] (.q [.m 4 0,.kr 5 152 1200 [.t 4],.m 3 5] (.q [.m 6 3,.m 7 0,.kr 8 152 1320 [.t 7],.s 9 (.bin .mul (.i 256) (.t 8)),.b 10 .add 6 9,.m 2 10] .ret))}
def F152 :MFunc:=
 {nargs:=1,ntmps:=27,res:=[.t 2],body:=.q [.mi 2 0] (.q [.m 6 0,.nc 7 6,.f 8 0 7,.l 9 8,.m 10 0,.nc 11 10,.f 12 1 11,.l 13 12,.kd 14 205 [.t 9,.t 13,.i 1],.m 5 14,.ex 15 5 0,.ex 16 5 1,.m 3 15,.m 4 16] (.q [.m 17 0,.nc 18 17,.f 19 1 18,.l 20 19,.bi 21 .add 20 1,.nc 22 17,.f 23 1 22,.S 1 23 21] (.k (.q [.m 24 4,.bi 25 .neq 24 0] (.i 25 (.q [.mi 2 0] .ret))) (.q [.m 26 3,.m 2 26] .ret))))}
def B153_0 :MCode:=
 .q [.b 12 .lss 11 10] (.u 12 0 (.k (.o 1 (.q [.m 13 11,.m 6 13] (.r [.m 14 5,.m 15 6,.m 16 0,.kr 17 152 1680 [.t 16],.s 18 (.toInt .u8 (.t 17)),.ix 19 1 14 15,.n (.st 1 (.t 19) (.x 18))]))) (.r [.bi 20 .add 11 1,.m 11 20])))
def F153 :MFunc:=
 {nargs:=2,ntmps:=23,res:=[.t 4],body:=.q [.s 4 (.mv (.c (.str [])))] (.q [.m 7 1,.s 8 (.makeA 108 1 false [.int .u8 0] (.t 7)),.mx 5 8] (.k (.q [.m 9 5,.e 10 9,.mi 11 0] (.o 0 (.loop [0,5,10,11] [108] [5] B153_0))) (.q [.m 21 5,.s 22 (.b2s (.t 21)),.m 4 22] .ret)))}
def F154 :MFunc:=
 {nargs:=2,ntmps:=12,res:=[.t 4],body:=.q [.s 4 (.mv (.c (.str [])))] (.k (.q [.m 5 0,.kr 6 152 1240 [.t 5],.bi 7 .rem 6 2,.bi 8 .eql 7 0] (.i 8 (.q [.s 4 (.mv (.c (.str [])))] .ret))) (.q [.m 9 0,.m 10 1,.kr 11 153 1440 [.t 9,.t 10],.m 4 11] .ret))}
def F155 :MFunc:=
 {nargs:=1,ntmps:=9,res:=[.t 2],body:=.q [.be 1 0,.mi 2 0] (.k (.q [.L 3 11 1,.k 4 66 [.t 3],.bi 5 .neq 4 0] (.i 5 (.q [.mi 2 0] .ret))) (.q [.f 6 0 1,.l 7 6,.s 8 (.bin .add (.i 8) (.t 7)),.m 2 8] .ret))}
def F156 :MFunc:=
 {nargs:=2,ntmps:=12,res:=[.t 4],body:=.q [.s 4 (.mv (.c (.str [])))] (.q [.m 5 0,.m 6 0,.kr 7 152 1280 [.t 6],.m 8 1,.bi 9 .add 8 1,.b 10 .rem 7 9,.kr 11 153 1440 [.t 5,.t 10],.m 4 11] .ret)}
def F157 :MFunc:=
 {nargs:=2,ntmps:=66,res:=[],body:=.q [.be 2 0] (.q [.m 4 1,.m 5 1,.m 6 1,.nc 7 6,.f 8 0 7,.l 9 8,.kd 10 206 [.t 9],.m 11 1,.nc 12 11,.f 13 1 12,.l 14 13,.kd 15 206 [.t 14],.nc 16 4,.f 17 0 16,.S 1 17 10,.nc 18 5,.f 19 1 18,.S 1 19 15] (.q [.m 20 1,.m 21 1,.nc 22 21,.f 23 2 22,.l 24 23,.f 25 3 2,.l 26 25,.kd 27 178 [.t 24,.i 0,.t 26],.nc 28 20,.f 29 2 28,.S 1 29 27] (.q [.m 30 1,.m 31 1,.nc 32 31,.f 33 4 32,.l 34 33,.L 35 11 2,.kd 36 121 [.t 35],.kd 37 178 [.t 34,.i 0,.t 36],.nc 38 30,.f 39 4 38,.S 1 39 37] (.q [.m 40 1,.m 41 1,.nc 42 41,.f 43 7 42,.l 44 43,.f 45 8 2,.l 46 45,.kd 47 199 [.t 44,.t 46],.nc 48 40,.f 49 7 48,.S 1 49 47] (.q [.m 50 1,.m 51 1,.nc 52 51,.f 53 8 52,.l 54 53,.k 55 178 [.t 54,.i 0,.i 2],.nc 56 50,.f 57 8 56,.S 1 57 55] (.r [.m 58 1,.m 59 1,.nc 60 59,.f 61 18 60,.L 62 6 61,.k 63 207 [.t 62],.nc 64 58,.f 65 18 64,.S 6 65 63]))))))}
def F158 :MFunc:=
 {nargs:=2,ntmps:=96,res:=[],body:=.q [.be 2 0] (.q [.m 5 1,.nc 6 5,.f 7 3 6,.l 8 7,.L 9 11 2,.kd 10 208 [.t 9],.b 11 .add 8 10,.m 4 11] (.q [.m 12 1,.m 13 4,.L 14 11 2,.k 15 121 [.t 14],.k 16 210 [.t 13,.t 15],.k 17 209 [.t 16,.c (.int .u8 53)],.nc 18 12,.f 19 3 18,.S 1 19 17] (.q [.m 20 1,.m 21 1,.m 22 1,.nc 23 22,.f 24 5 23,.l 25 24,.L 26 11 2,.kd 27 155 [.t 26],.kd 28 211 [.t 25,.t 27,.c (.int .u8 53)],.m 29 1,.nc 30 29,.f 31 6 30,.l 32 31,.L 33 11 2,.kd 34 155 [.t 33],.kd 35 211 [.t 32,.t 34,.c (.int .u8 49)],.nc 36 20,.f 37 5 36,.S 1 37 28,.nc 38 21,.f 39 6 38,.S 1 39 35] (.q [.m 40 1,.m 41 1,.L 42 11 2,.m 43 1,.nc 44 43,.f 45 9 44,.l 46 45,.kd 47 201 [.t 42,.t 46,.c (.n)],.L 48 11 2,.m 49 1,.nc 50 49,.f 51 10 50,.l 52 51,.kd 53 201 [.t 48,.t 52,.c (.n)],.nc 54 40,.f 55 9 54,.S 1 55 47,.nc 56 41,.f 57 10 56,.S 1 57 53] (.q [.m 58 1,.m 59 1,.m 60 1,.nc 61 60,.f 62 11 61,.l 63 62,.f 64 10 2,.l 65 64,.e 66 65,.kd 67 212 [.t 63,.t 66,.c (.n)],.m 68 1,.nc 69 68,.f 70 12 69,.l 71 70,.f 72 10 2,.l 73 72,.e 74 73,.kd 75 212 [.t 71,.t 74,.c (.n)],.nc 76 58,.f 77 11 76,.S 1 77 67,.nc 78 59,.f 79 12 78,.S 1 79 75] (.r [.m 80 1,.m 81 1,.m 82 1,.nc 83 82,.f 84 13 83,.l 85 84,.kd 86 210 [.t 85,.i 16],.m 87 1,.nc 88 87,.f 89 14 88,.l 90 89,.kd 91 210 [.t 90,.i 16],.nc 92 80,.f 93 13 92,.S 1 93 86,.nc 94 81,.f 95 14 94,.S 1 95 91]))))))}
def F159 :MFunc:=
 {nargs:=2,ntmps:=41,res:=[],body:=.q [.s 2 (.box 102 (.t 0))] (.q [.m 4 1,.m 5 1,.nc 6 5,.f 7 15 6,.l 8 7,.f 9 0 2,.l 10 9,.s 11 (.mk 214 [.t 2]),.L 12 11 2,.kd 13 215 [.t 12],.kr 14 213 1560 [.t 8,.t 10,.t 11,.t 13],.nc 15 4,.f 16 15 15,.S 1 16 14] (.q [.m 17 1,.m 18 1,.nc 19 18,.f 20 16 19,.l 21 20,.f 22 0 2,.l 23 22,.f 24 2 2,.l 25 24,.b 26 .mul 23 25,.L 27 11 2,.kd 28 218 [.t 27],.kr 29 216 2160 [.t 21,.t 26,.c (.fn 217 []),.t 28],.nc 30 17,.f 31 16 30,.S 1 31 29] (.r [.m 32 1,.L 33 11 2,.m 34 1,.nc 35 34,.f 36 17 35,.l 37 36,.kd 38 219 [.t 33,.t 37],.nc 39 32,.f 40 17 39,.S 1 40 38])))}
def F172 :MFunc:=
 {nargs:=1,ntmps:=44,res:=[.t 2],body:=.q [.be 1 0,.mi 2 0] (.k (.q [.L 6 11 1,.k 7 53 [.t 6],.bi 8 .neq 7 0] (.i 8 (.q [.mi 2 0] .ret))) (.q [.f 9 5 1,.l 10 9,.s 11 (.bin .mul (.i 2) (.t 10)),.L 12 11 1,.f 13 10 1,.l 14 13,.e 15 14,.bi 16 .sub 15 1,.kd 17 173 [.t 12,.t 16],.b 18 .mul 11 17,.m 3 18] (.q [.f 19 4 1,.l 20 19,.f 21 5 1,.l 22 21,.b 23 .sub 20 22,.m 4 23] (.q [.m 24 3,.m 25 4,.b 26 .quo 24 25,.m 5 26] (.k (.q [.m 27 3,.m 28 4,.b 29 .rem 27 28,.bi 30 .gtr 29 0] (.i 30 (.r [.m 31 5,.bi 32 .add 31 1,.m 5 32]))) (.q [.m 33 5,.f 34 4 1,.l 35 34,.b 36 .add 33 35,.f 37 2 1,.l 38 37,.bi 39 .add 38 1,.f 40 5 1,.l 41 40,.b 42 .mul 39 41,.b 43 .add 36 42,.m 2 43] .ret))))))}
def F173 :MFunc:=
 {nargs:=2,ntmps:=26,res:=[.t 4],body:=.q [.be 2 0,.mi 4 0] (.k (.q [.L 5 11 2,.k 6 53 [.t 5],.bi 7 .neq 6 0,.m 8 7,.w 8 false (.m 9 1),.w 8 false (.bi 10 .lss 9 0),.po 11 8 true 10,.m 12 11,.w 12 false (.m 13 1),.w 12 false (.f 14 10 2),.w 12 false (.l 15 14),.w 12 false (.e 16 15),.w 12 false (.b 17 .geq 13 16),.po 18 12 true 17] (.i 18 (.q [.mi 4 0] .ret))) (.q [.L 19 11 2,.m 20 1,.kd 21 144 [.t 19,.t 20],.f 22 7 2,.l 23 22,.bi 24 .quo 23 2,.b 25 .add 21 24,.m 4 25] .ret))}
def B174_0 :MCode:=
 .k (.q [.m 10 5,.m 11 0,.e 12 11,.b 13 .lss 10 12] (.c 13 .skip (.exit 0))) (.k (.o 1 (.q [.m 16 0,.m 17 5,.ix 18 1 16 17,.l 19 18,.bi 20 .lss 19 0,.m 21 20,.w 21 false (.m 22 0),.w 21 false (.m 23 5),.w 21 false (.ix 24 1 22 23),.w 21 false (.l 25 24),.w 21 false (.bi 26 .gtr 25 65535),.po 27 21 true 26] (.i 27 (.q [.mb 4 false] .ret)))) (.r [.m 14 5,.bi 15 .add 14 1,.m 5 15]))
def F174 :MFunc:=
 {nargs:=2,ntmps:=28,res:=[.t 4],body:=.q [.mb 4 false] (.k (.q [.m 6 0,.e 7 6,.m 8 1,.b 9 .gtr 7 8] (.i 9 (.q [.mb 4 false] .ret))) (.k (.q [.mi 5 0] (.o 0 (.loop [0,5] [] [4] B174_0))) (.q [.mb 4 true] .ret)))}
def B175_0 :MCode:=
 .q [.b 12 .lss 11 10] (.u 12 0 (.k (.o 1 (.q [.ix 13 4 9 11,.L 14 4 13,.nw 5 105 [.z,.z,.z,.e],.S 4 5 14] (.r [.mx 15 3,.f 16 2 5,.l 17 16,.li 18 1 false [.z] 1 [(0,.t 17)],.s 19 (.app 1 false (.x 15) (.t 18)),.mx 3 19]))) (.r [.bi 20 .add 11 1,.m 11 20])))
def B175_1 :MCode:=
 .q [.b 25 .lss 24 23] (.u 25 2 (.k (.o 3 (.q [.ix 26 4 22 24,.L 27 4 26,.nw 7 107 [.z,.z,.z,.e],.S 4 7 27] (.r [.mx 28 3,.f 29 2 7,.l 30 29,.li 31 1 false [.z] 1 [(0,.t 30)],.s 32 (.app 1 false (.x 28) (.t 31)),.mx 3 32]))) (.r [.bi 33 .add 24 1,.m 24 33])))
def F175 :MFunc:=
 {nargs:=1,ntmps:=35,res:=[.t 2],body:=.q [.be 1 0,.s 2 (.mv (.c (.n)))] (.q [.s 3 (.mv (.c (.n)))] (.k (.q [.f 8 2 1,.l 9 8,.e 10 9,.mi 11 0] (.o 0 (.loop [1,3,9,10,11] [] [1,3] B175_0))) (.k (.q [.f 21 4 1,.l 22 21,.e 23 22,.mi 24 0] (.o 2 (.loop [3,22,23,24] [] [3] B175_1))) (.q [.m 34 3,.m 2 34] .ret))))}
def B176_0 :MCode:=
 .q [.b 17 .lss 16 15] (.u 17 0 (.k (.o 1 (.q [.ix 18 4 14 16,.L 19 4 18,.nw 6 106 [.z,.z,.z,.e],.S 4 6 19] (.q [.L 20 11 2,.f 21 0 6,.l 22 21,.k 23 105 [.t 20,.t 22],.no 24 23,.m 25 24,.w 25 false (.L 26 11 2),.w 25 false (.f 27 1 6),.w 25 false (.l 28 27),.w 25 false (.k 29 105 [.t 26,.t 28]),.w 25 false (.no 30 29),.po 31 25 true 30] (.i 31 (.q [.mb 4 false] .ret))))) (.r [.bi 32 .add 16 1,.m 16 32])))
def B176_1 :MCode:=
 .q [.b 37 .lss 36 35] (.u 37 2 (.k (.o 3 (.q [.ix 38 4 34 36,.L 39 4 38,.nw 8 108 [.z,.z,.z,.e],.S 4 8 39] (.q [.L 40 11 2,.f 41 0 8,.l 42 41,.k 43 105 [.t 40,.t 42],.no 44 43,.m 45 44,.w 45 false (.L 46 11 2),.w 45 false (.f 47 1 8),.w 45 false (.l 48 47),.w 45 false (.k 49 105 [.t 46,.t 48]),.w 45 false (.no 50 49),.po 51 45 true 50] (.i 51 (.q [.mb 4 false] .ret))))) (.r [.bi 52 .add 36 1,.m 36 52])))
def B176_2 :MCode:=
 .q [.b 57 .lss 56 55] (.u 57 4 (.k (.o 5 (.q [.ix 58 2 54 56,.L 59 2 58,.nw 10 110 [.z,.e],.S 2 10 59] (.q [.L 60 11 2,.f 61 0 10,.l 62 61,.k 63 105 [.t 60,.t 62],.no 64 63] (.i 64 (.q [.mb 4 false] .ret))))) (.r [.bi 65 .add 56 1,.m 56 65])))
def B176_3 :MCode:=
 .q [.b 70 .lss 69 68] (.u 70 6 (.k (.o 7 (.q [.ix 71 2 67 69,.L 72 2 71,.nw 12 112 [.z,.e],.S 2 12 72] (.q [.L 73 11 2,.f 74 0 12,.l 75 74,.k 76 105 [.t 73,.t 75],.no 77 76] (.i 77 (.q [.mb 4 false] .ret))))) (.r [.bi 78 .add 69 1,.m 69 78])))
def F176 :MFunc:=
 {nargs:=2,ntmps:=79,res:=[.t 4],body:=.q [.be 2 0,.be 3 1,.mb 4 false] (.k (.q [.f 13 2 3,.l 14 13,.e 15 14,.mi 16 0] (.o 0 (.loop [2,3,14,15,16] [] [2,3,4] B176_0))) (.k (.q [.f 33 4 3,.l 34 33,.e 35 34,.mi 36 0] (.o 2 (.loop [2,3,34,35,36] [] [2,3,4] B176_1))) (.k (.q [.f 53 3 3,.l 54 53,.e 55 54,.mi 56 0] (.o 4 (.loop [2,3,54,55,56] [] [2,3,4] B176_2))) (.k (.q [.f 66 5 3,.l 67 66,.e 68 67,.mi 69 0] (.o 6 (.loop [2,67,68,69] [] [4] B176_3))) (.q [.mb 4 true] .ret)))))}
def B177_0 :MCode:=
 .q [.b 13 .lss 12 11] (.u 13 0 (.k (.o 1 (.q [.ix 14 4 10 12,.L 15 4 14,.nw 4 104 [.z,.z,.z,.e],.S 4 4 15] (.q [.f 16 3 4,.l 17 16,.es 18 17,.bi 19 .gtr 18 40] (.i 19 (.q [.mb 2 true] .ret))))) (.r [.bi 20 .add 12 1,.m 12 20])))
def B177_1 :MCode:=
 .q [.b 25 .lss 24 23] (.u 25 2 (.k (.o 3 (.q [.ix 26 4 22 24,.L 27 4 26,.nw 6 106 [.z,.z,.z,.e],.S 4 6 27] (.q [.f 28 3 6,.l 29 28,.es 30 29,.bi 31 .gtr 30 40] (.i 31 (.q [.mb 2 true] .ret))))) (.r [.bi 32 .add 24 1,.m 24 32])))
def B177_2 :MCode:=
 .q [.b 37 .lss 36 35] (.u 37 4 (.k (.o 5 (.q [.ix 38 2 34 36,.L 39 2 38,.nw 8 108 [.z,.e],.S 2 8 39] (.q [.f 40 1 8,.l 41 40,.es 42 41,.bi 43 .gtr 42 8000] (.i 43 (.q [.mb 2 true] .ret))))) (.r [.bi 44 .add 36 1,.m 36 44])))
def F177 :MFunc:=
 {nargs:=1,ntmps:=45,res:=[.t 2],body:=.q [.be 1 0,.mb 2 false] (.k (.q [.f 9 2 1,.l 10 9,.e 11 10,.mi 12 0] (.o 0 (.loop [1,10,11,12] [] [1,2] B177_0))) (.k (.q [.f 21 4 1,.l 22 21,.e 23 22,.mi 24 0] (.o 2 (.loop [1,22,23,24] [] [1,2] B177_1))) (.k (.q [.f 33 3 1,.l 34 33,.e 35 34,.mi 36 0] (.o 4 (.loop [34,35,36] [] [2] B177_2))) (.q [.mb 2 false] .ret))))}
def F178 :MFunc:=
 {nargs:=3,ntmps:=21,res:=[.t 6],body:=.q [.mi 6 0] (.k (.o 0 (.k (.q [.m 8 0,.m 9 1,.b 10 .lss 8 9,.m 7 10] (.c 7 .skip (.r [.m 11 2,.m 12 1,.b 13 .lss 11 12,.m 7 13]))) (.c 7 (.q [.m 14 1,.m 6 14] .ret) (.q [.m 16 0,.m 17 2,.b 18 .gtr 16 17,.m 15 18] (.i 15 (.q [.m 19 2,.m 6 19] .ret)))))) (.q [.m 20 0,.m 6 20] .ret))}
def F179 :MFunc:=
 {nargs:=2,ntmps:=9,res:=[.t 4],body:=.q [.mb 4 false] (.q [.m 5 0,.m 6 1,.k 7 222 [.t 5,.t 6],.bi 8 .geq 7 0,.m 4 8] .ret)}
def F181 :MFunc:=
 {nargs:=1,ntmps:=32,res:=[.t 2],body:=.q [.be 1 0,.mi 2 0] (.q [.f 4 0 1,.f 5 5 4,.l 6 5,.s 7 (.bin .mul (.i 2) (.t 6)),.L 8 11 1,.kd 9 224 [.t 8],.b 10 .mul 7 9,.m 3 10] (.q [.m 11 3,.L 12 11 1,.kd 13 225 [.t 12],.b 14 .add 11 13,.bi 15 .sub 14 1,.L 16 11 1,.kd 17 225 [.t 16],.b 18 .quo 15 17,.f 19 0 1,.f 20 4 19,.l 21 20,.b 22 .add 18 21,.f 23 0 1,.f 24 2 23,.l 25 24,.bi 26 .add 25 1,.f 27 0 1,.f 28 5 27,.l 29 28,.b 30 .mul 26 29,.b 31 .add 22 30,.m 2 31] .ret))}
def F182 :MFunc:=
 {nargs:=1,ntmps:=11,res:=[.t 2],body:=.q [.be 1 0,.mb 2 false] (.q [.f 3 0 1,.f 4 0 3,.f 5 7 4,.l 6 5,.f 7 11 1,.l 8 7,.s 9 (.bin .mul (.i 2) (.t 8)),.b 10 .gtr 6 9,.m 2 10] .ret)}
def F183 :MFunc:=
 {nargs:=1,ntmps:=29,res:=[.t 2],body:=.q [.be 1 0,.mb 2 false] (.q [.f 3 0 1,.L 4 11 3,.kd 5 224 [.t 4],.f 6 0 1,.f 7 0 6,.f 8 2 7,.l 9 8,.f 10 0 1,.f 11 0 10,.f 12 4 11,.l 13 12,.b 14 .mul 9 13,.b 15 .add 5 14,.f 16 11 1,.l 17 16,.b 18 .add 15 17,.f 19 0 1,.f 20 0 19,.f 21 3 20,.l 22 21,.bi 23 .sub 22 1,.f 24 0 1,.L 25 11 24,.kd 26 225 [.t 25],.b 27 .mul 23 26,.b 28 .leq 18 27,.m 2 28] .ret)}
def F184 :MFunc:=
 {nargs:=1,ntmps:=12,res:=[.t 2],body:=.q [.be 1 0,.mb 2 false] (.q [.f 3 0 1,.f 4 0 3,.f 5 3 4,.l 6 5,.f 7 0 1,.L 8 11 7,.kd 9 226 [.t 8],.b 10 .mul 6 9,.bi 11 .lss 10 32768,.m 2 11] .ret)}
def F185 :MFunc:=
 {nargs:=1,ntmps:=11,res:=[.t 2],body:=.q [.be 1 0,.mb 2 false] (.q [.f 3 2 1,.l 4 3,.bi 5 .geq 4 0,.m 6 5,.w 6 true (.f 7 2 1),.w 6 true (.l 8 7),.w 6 true (.bi 9 .leq 8 65535),.pa 10 6 9 false,.m 2 10] .ret)}
def F186 :MFunc:=
 {nargs:=2,ntmps:=13,res:=[.t 4],body:=.q [.mb 4 false] (.q [.m 5 0,.e 6 5,.m 7 1,.b 8 .leq 6 7,.m 9 8,.w 9 true (.m 10 0),.w 9 true (.kr 11 227 1440 [.t 10,.c (.fn 228 [])]),.pa 12 9 11 false,.m 4 12] .ret)}
def B187_0 :MCode:=
 .q [.b 10 .lss 9 8] (.u 10 0 (.k (.o 1 (.q [.ix 11 4 7 9,.L 12 4 11,.nw 6 106 [.z,.z,.z,.e],.S 4 6 12] (.q [.m 13 1,.L 14 4 6,.s 15 (.callv (.t 13) (.ref 1600) [.t 14]),.no 16 15] (.i 16 (.q [.mb 4 false] .ret))))) (.r [.bi 17 .add 9 1,.m 9 17])))
def F187 :MFunc:=
 {nargs:=2,ntmps:=18,res:=[.t 4],body:=.q [.mb 4 false] (.k (.q [.m 7 0,.e 8 7,.mi 9 0] (.o 0 (.loop [1,7,8,9] [] [4] B187_0))) (.q [.mb 4 true] .ret))}
def F188 :MFunc:=
 {nargs:=1,ntmps:=17,res:=[.t 2],body:=.q [.be 1 0,.mb 2 false] (.q [.f 3 2 1,.l 4 3,.e 5 4,.f 6 3 1,.l 7 6,.e 8 7,.f 9 4 1,.l 10 9,.e 11 10,.f 12 5 1,.l 13 12,.e 14 13,.s 15 (.mm true (.t 5) [.t 8,.t 11,.t 14]),.bi 16 .gtr 15 40,.m 2 16] .ret)}
def F189 :MFunc:=
 {nargs:=2,ntmps:=29,res:=[.t 4],body:=.q [.s 2 (.box 102 (.t 0)),.be 3 1,.mb 4 false] (.q [.s 6 (.mk 229 [.t 2]),.m 5 6] (.q [.f 7 2 3,.l 8 7,.m 9 5,.kr 10 187 1400 [.t 8,.t 9],.m 11 10,.w 11 true (.f 12 4 3),.w 11 true (.l 13 12),.w 11 true (.m 14 5),.w 11 true (.kr 15 187 1600 [.t 13,.t 14]),.pa 16 11 15 false,.m 17 16,.w 17 true (.f 18 3 3),.w 17 true (.l 19 18),.g 20 17 true (.mk 231 [.t 2]),.w 17 true (.kr 21 230 1840 [.t 19,.t 20]),.pa 22 17 21 false,.m 23 22,.w 23 true (.f 24 5 3),.w 23 true (.l 25 24),.g 26 23 true (.mk 232 [.t 2]),.w 23 true (.kr 27 191 2080 [.t 25,.t 26]),.pa 28 23 27 false,.m 4 28] .ret))}
def F190 :MFunc:=
 {nargs:=1,ntmps:=19,res:=[.t 2],body:=.q [.be 1 0,.mb 2 false] (.q [.s 3 (.mv (.c (.fn 233 [])))] (.q [.f 4 2 1,.l 5 4,.m 6 3,.kr 7 187 1280 [.t 5,.t 6],.m 8 7,.w 8 true (.f 9 4 1),.w 8 true (.l 10 9),.w 8 true (.m 11 3),.w 8 true (.kr 12 187 1480 [.t 10,.t 11]),.pa 13 8 12 false,.m 14 13,.w 14 true (.f 15 3 1),.w 14 true (.l 16 15),.w 14 true (.kr 17 230 1680 [.t 16,.c (.fn 234 [])]),.pa 18 14 17 false,.m 2 18] .ret))}
def B191_0 :MCode:=
 .q [.b 10 .lss 9 8] (.u 10 0 (.k (.o 1 (.q [.ix 11 2 7 9,.L 12 2 11,.nw 6 106 [.z,.e],.S 2 6 12] (.q [.m 13 1,.L 14 2 6,.s 15 (.callv (.t 13) (.ref 1600) [.t 14]),.no 16 15] (.i 16 (.q [.mb 4 false] .ret))))) (.r [.bi 17 .add 9 1,.m 9 17])))
def F191 :MFunc:=
 {nargs:=2,ntmps:=18,res:=[.t 4],body:=.q [.mb 4 false] (.k (.q [.m 7 0,.e 8 7,.mi 9 0] (.o 0 (.loop [1,7,8,9] [] [4] B191_0))) (.q [.mb 4 true] .ret))}
def F192 :MFunc:=
 {nargs:=1,ntmps:=7,res:=[.t 2],body:=.q [.be 1 0,.mb 2 false] (.q [.f 3 1 1,.l 4 3,.es 5 4,.bi 6 .leq 5 16,.m 2 6] .ret)}
def F193 :MFunc:=
 {nargs:=2,ntmps:=25,res:=[.t 4],body:=.q [.be 2 0,.mb 4 false] (.q [.f 5 0 2,.f 6 13 5,.l 7 6,.m 8 1,.ix 9 6 7 8,.f 10 3 9,.l 11 10,.e 12 11,.bi 13 .eql 12 0,.m 14 13,.w 14 true (.f 15 0 2),.w 14 true (.f 16 13 15),.w 14 true (.l 17 16),.w 14 true (.m 18 1),.w 14 true (.ix 19 6 17 18),.w 14 true (.f 20 4 19),.w 14 true (.l 21 20),.w 14 true (.e 22 21),.w 14 true (.bi 23 .eql 22 0),.pa 24 14 23 false,.m 4 24] .ret)}
def F194 :MFunc:=
 {nargs:=3,ntmps:=37,res:=[.t 6],body:=.q [.be 3 0,.mb 6 false] (.q [.f 8 0 3,.L 9 14 8,.m 10 1,.m 11 2,.k 12 235 [.t 9,.t 10,.t 11],.m 7 12] (.q [.m 13 7,.f 14 0 3,.f 15 0 14,.f 16 4 15,.l 17 16,.f 18 0 3,.f 19 0 18,.f 20 5 19,.l 21 20,.b 22 .sub 17 21,.b 23 .geq 13 22,.m 24 23,.w 24 true (.m 25 7),.w 24 true (.f 26 0 3),.w 24 true (.f 27 0 26),.w 24 true (.f 28 4 27),.w 24 true (.l 29 28),.w 24 true (.f 30 0 3),.w 24 true (.f 31 0 30),.w 24 true (.f 32 5 31),.w 24 true (.l 33 32),.w 24 true (.b 34 .add 29 33),.w 24 true (.b 35 .leq 25 34),.pa 36 24 35 false,.m 6 36] .ret))}
def B195_0 :MCode:=
 .q [.b 15 .lss 14 13] (.u 15 0 (.k (.o 1 (.q [.ix 16 1 12 14,.l 17 16,.m 10 17] (.q [.f 18 0 4,.L 19 14 18,.m 20 1,.m 21 2,.m 22 10,.k 23 236 [.t 19,.t 20,.t 21,.t 22],.m 11 23] (.q [.m 24 11,.bi 25 .lss 24 1,.m 26 25,.w 26 false (.m 27 11),.w 26 false (.f 28 0 4),.w 26 false (.f 29 0 28),.w 26 false (.f 30 2 29),.w 26 false (.l 31 30),.w 26 false (.b 32 .gtr 27 31),.po 33 26 true 32] (.i 33 (.q [.mb 8 false] .ret)))))) (.r [.bi 34 .add 14 1,.m 14 34])))
def F195 :MFunc:=
 {nargs:=4,ntmps:=35,res:=[.t 8],body:=.q [.be 4 0,.mb 8 false] (.k (.q [.m 12 3,.e 13 12,.mi 14 0] (.o 0 (.loop [1,2,4,12,13,14] [] [8] B195_0))) (.q [.mb 8 true] .ret))}
def F196 :MFunc:=
 {nargs:=1,ntmps:=10,res:=[.t 2],body:=.q [.be 1 0,.mi 2 0] (.k (.q [.L 3 11 1,.k 4 66 [.t 3],.bi 5 .neq 4 0] (.i 5 (.q [.mi 2 0] .ret))) (.q [.f 6 1 1,.l 7 6,.bi 8 .add 7 1,.s 9 (.bin .mul (.i 3) (.t 8)),.m 2 9] .ret))}
def F197 :MFunc:=
 {nargs:=1,ntmps:=5,res:=[.t 2],body:=.q [.mi 2 0] (.k (.q [.m 3 0,.bc 4 .eql 3 (.int .u8 49)] (.i 4 (.q [.mi 2 1] .ret))) (.q [.mi 2 0] .ret))}
def F198 :MFunc:=
 {nargs:=2,ntmps:=12,res:=[.t 3],body:=.q [.mi 3 0] (.q [.m 4 0,.f 5 8 1,.l 6 5,.kd 7 199 [.t 4,.t 6],.bi 8 .add 7 1,.f 9 8 1,.l 10 9,.kd 11 199 [.t 8,.t 10],.m 3 11] .ret)}
def F199 :MFunc:=
 {nargs:=2,ntmps:=17,res:=[.t 4],body:=.q [.mi 4 0] (.k (.q [.m 6 1,.bi 7 .lss 6 1] (.i 7 (.q [.mi 4 0] .ret))) (.q [.m 8 0,.m 9 1,.b 10 .rem 8 9,.m 5 10] (.k (.q [.m 11 5,.bi 12 .lss 11 0] (.i 12 (.q [.m 13 5,.m 14 1,.b 15 .add 13 14,.m 4 15] .ret))) (.q [.m 16 5,.m 4 16] .ret))))}
def F200 :MFunc:=
 {nargs:=2,ntmps:=23,res:=[.t 4],body:=.q [.be 2 0,.mi 4 0] (.q [.L 8 11 2,.k 9 120 [.t 8],.m 7 9,.ex 10 7 0,.ex 11 7 1,.nw 5 105 [.z,.z,.z,.z,.z,.z,.z,.z,.z,.z,.n],.S 11 5 10,.m 6 11] (.k (.q [.m 12 6,.no 13 12,.m 14 13,.w 14 false (.L 15 11 5),.w 14 false (.m 16 1),.w 14 false (.k 17 237 [.t 15,.t 16]),.w 14 false (.no 18 17),.po 19 14 true 18] (.i 19 (.q [.mi 4 0] .ret))) (.q [.L 20 11 5,.m 21 1,.k 22 238 [.t 20,.t 21],.m 4 22] .ret)))}
def F201 :MFunc:=
 {nargs:=3,ntmps:=12,res:=[.t 6],body:=.q [.be 3 0,.s 6 (.mv (.c (.str [])))] (.q [.m 7 1,.f 8 0 3,.l 9 8,.m 10 2,.k 11 212 [.t 7,.t 9,.t 10],.m 6 11] .ret)}
def F202 :MFunc:=
 {nargs:=2,ntmps:=9,res:=[.t 4],body:=.q [.be 2 0,.mb 4 false] (.q [.f 5 11 2,.l 6 5,.m 7 1,.k 8 179 [.t 6,.t 7],.m 4 8] .ret)}
def B205_0 :MCode:=
 .q [.b 31 .lss 30 29] (.u 31 0 (.k (.o 1 (.q [.m 32 30,.m 9 32] (.r [.m 33 8,.m 34 0,.m 35 1,.m 36 9,.b 37 .add 35 36,.is 38 34 37,.s 39 (.toInt .i64 (.t 38)),.m 40 9,.s 41 (.bin .mul (.i 8) (.t 40)),.b 42 .shl 39 41,.b 43 .or 33 42,.m 8 43]))) (.r [.bi 44 .add 30 1,.m 30 44])))
def F205 :MFunc:=
 {nargs:=3,ntmps:=46,res:=[.t 6,.t 7],body:=.q [.mi 6 0,.mi 7 0] (.k (.q [.m 10 2,.k 11 239 [.t 10],.no 12 11,.m 13 12,.w 13 false (.m 14 1),.w 13 false (.bi 15 .lss 14 0),.po 16 13 true 15] (.i 16 (.q [.mi 6 0,.mi 7 2] .ret))) (.k (.q [.m 17 1,.m 18 0,.es 19 18,.b 20 .gtr 17 19,.m 21 20,.w 21 false (.m 22 0),.w 21 false (.es 23 22),.w 21 false (.m 24 1),.w 21 false (.b 25 .sub 23 24),.w 21 false (.m 26 2),.w 21 false (.b 27 .lss 25 26),.po 28 21 true 27] (.i 28 (.q [.mi 6 0,.mi 7 5] .ret))) (.q [.mi 8 0] (.k (.q [.m 29 2,.mi 30 0] (.o 0 (.loop [0,1,8,29,30] [] [8] B205_0))) (.q [.m 45 8,.m 6 45,.mi 7 0] .ret)))))}
def F206 :MFunc:=
 {nargs:=1,ntmps:=5,res:=[.t 2],body:=.q [.mi 2 0] (.q [.m 3 0,.k 4 240 [.t 3],.m 2 4] .ret)}
def F207 :MFunc:=
 {nargs:=1,ntmps:=5,res:=[.cell 2 6 true],body:=.q [.be 1 0,.nw 2 102 [.z,.z,.z,.z,.z,.z]] (.q [.L 3 6 1,.k 4 241 [.t 3],.S 6 2 4] .ret)}
def F208 :MFunc:=
 {nargs:=1,ntmps:=6,res:=[.t 2],body:=.q [.be 1 0,.s 2 (.mv (.c (.str [])))] (.q [.L 3 11 1,.k 4 121 [.t 3],.k 5 242 [.c (.str [48]),.t 4],.m 2 5] .ret)}
def B209_0 :MCode:=
 .q [.b 13 .lss 12 11] (.u 13 0 (.k (.o 1 (.q [.m 14 12,.ix 15 1 10 12,.l 16 15,.m 6 14,.m 7 16] (.q [.m 17 7,.bc 18 .lss 17 (.int .u8 48),.m 19 18,.w 19 false (.m 20 7),.w 19 false (.m 21 1),.w 19 false (.b 22 .gtr 20 21),.po 23 19 true 22] (.i 23 (.r [.m 24 5,.m 25 6,.ix 26 1 24 25,.n (.st 1 (.t 26) (.c (.int .u8 48)))]))))) (.r [.bi 27 .add 12 1,.m 12 27])))
def F209 :MFunc:=
 {nargs:=2,ntmps:=30,res:=[.t 4],body:=.q [.s 4 (.mv (.c (.str [])))] (.q [.m 8 0,.s 9 (.s2bA 109 (.t 8)),.mx 5 9] (.k (.q [.m 10 5,.e 11 10,.mi 12 0] (.o 0 (.loop [1,5,10,11,12] [109] [5] B209_0))) (.q [.m 28 5,.s 29 (.b2s (.t 28)),.m 4 29] .ret)))}
def F210 :MFunc:=
 {nargs:=2,ntmps:=11,res:=[.t 4],body:=.q [.s 4 (.mv (.c (.str [])))] (.q [.m 5 0,.m 6 0,.es 7 6,.m 8 1,.s 9 (.mm false (.t 7) [.t 8]),.s 10 (.slcS (.t 5) none (some (.t 9))),.m 4 10] .ret)}
def F211 :MFunc:=
 {nargs:=3,ntmps:=14,res:=[.t 6],body:=.q [.s 6 (.mv (.c (.str [])))] (.k (.q [.m 7 0,.es 8 7,.m 9 1,.b 10 .neq 8 9] (.i 10 (.q [.s 6 (.mv (.c (.str [])))] .ret))) (.q [.m 11 0,.m 12 2,.k 13 209 [.t 11,.t 12],.m 6 13] .ret))}
def B212_0 :MCode:=
 .q [.b 15 .lss 14 13] (.u 15 0 (.k (.o 1 (.q [.m 16 14,.m 8 16] (.q [.m 17 7,.m 18 8,.ix 19 1 17 18,.n (.st 1 (.t 19) (.c (.int .u8 48)))] (.q [.m 20 8,.m 21 0,.es 22 21,.b 23 .lss 20 22,.m 24 23,.w 24 true (.m 25 0),.w 24 true (.m 26 8),.w 24 true (.is 27 25 26),.w 24 true (.bc 28 .eql 27 (.int .u8 49)),.pa 29 24 28 false,.m 30 29,.w 30 false (.m 31 2),.w 30 false (.m 32 8),.w 30 false (.k 33 179 [.t 31,.t 32]),.po 34 30 true 33] (.i 34 (.r [.m 35 7,.m 36 8,.ix 37 1 35 36,.n (.st 1 (.t 37) (.c (.int .u8 49)))])))))) (.r [.bi 38 .add 14 1,.m 14 38])))
def F212 :MFunc:=
 {nargs:=3,ntmps:=41,res:=[.t 6],body:=.q [.s 6 (.mv (.c (.str [])))] (.q [.m 9 1,.k 10 178 [.t 9,.i 0,.i 64],.s 11 (.makeA 111 1 false [.int .u8 0] (.t 10)),.mx 7 11] (.k (.q [.m 12 7,.e 13 12,.mi 14 0] (.o 0 (.loop [0,2,7,13,14] [111] [7] B212_0))) (.q [.m 39 7,.s 40 (.b2s (.t 39)),.m 6 40] .ret)))}
def B213_0 :MCode:=
 .q [.b 22 .lss 21 20] (.u 22 0 (.k (.o 1 (.q [.m 23 21,.ix 24 3 19 21,.L 25 3 24,.nw 11 111 [.e,.z,.z],.m 10 23,.S 3 11 25] (.r [.m 26 9,.m 27 10,.m 28 2,.L 29 3 11,.s 30 (.callv (.t 28) (.ref 2200) [.t 29]),.ix 31 3 26 27,.S 3 31 30]))) (.r [.bi 32 .add 21 1,.m 21 32])))
def F213 :MFunc:=
 {nargs:=4,ntmps:=34,res:=[.t 8],body:=.q [.s 8 (.mv (.c (.n)))] (.k (.q [.m 12 0,.e 13 12,.m 14 1,.b 15 .neq 13 14] (.i 15 (.q [.m 16 3,.m 8 16] .ret))) (.q [.m 17 0,.kr 18 243 1720 [.t 17],.mx 9 18] (.k (.q [.m 19 0,.e 20 19,.mi 21 0] (.o 0 (.loop [2,9,19,20,21] [1720,1721,1722,1723] [9] B213_0))) (.q [.m 33 9,.m 8 33] .ret))))}
def F214 :MFunc:=
 {nargs:=2,ntmps:=18,res:=[.cell 3 3 true],body:=.q [.be 2 0,.nw 3 103 [.e,.z,.z]] (.q [.f 4 0 2,.l 5 4,.kd 6 210 [.t 5,.i 16],.f 7 1 2,.l 8 7,.f 9 8 1,.l 10 9,.kd 11 199 [.t 8,.t 10],.f 12 2 2,.l 13 12,.f 14 9 1,.l 15 14,.kd 16 178 [.t 13,.i 0,.t 15],.bd 17 [.e,.z,.z] [(0,1,.t 6),(1,1,.t 11),(2,1,.t 16)],.S 3 3 17] .ret)}
def B215_0 :MCode:=
 .q [.b 14 .lss 13 12] (.u 14 0 (.k (.o 1 (.q [.m 15 13,.m 4 15] (.r [.m 16 3,.m 17 4,.f 18 9 1,.l 19 18,.ix 20 3 16 17,.f 21 2 20,.S 1 21 19]))) (.r [.bi 22 .add 13 1,.m 13 22])))
def F215 :MFunc:=
 {nargs:=1,ntmps:=24,res:=[.t 2],body:=.q [.be 1 0,.s 2 (.mv (.c (.n)))] (.k (.q [.L 5 11 1,.k 6 66 [.t 5],.bi 7 .neq 6 0] (.i 7 (.q [.s 2 (.mv (.c (.n)))] .ret))) (.q [.f 8 0 1,.l 9 8,.s 10 (.makeA 110 3 true [.e,.z,.z] (.t 9)),.mx 3 10] (.k (.q [.m 11 3,.e 12 11,.mi 13 0] (.o 0 (.loop [1,3,12,13] [110] [3] B215_0))) (.q [.m 23 3,.m 2 23] .ret))))}
def B216_0 :MCode:=
 .q [.b 22 .lss 21 20] (.u 22 0 (.k (.o 1 (.q [.m 23 21,.ix 24 1 19 21,.l 25 24,.m 10 23,.m 11 25] (.r [.m 26 9,.m 27 10,.m 28 2,.m 29 11,.s 30 (.callv (.t 28) (.ref 2200) [.t 29]),.ix 31 1 26 27,.S 1 31 30]))) (.r [.bi 32 .add 21 1,.m 21 32])))
def F216 :MFunc:=
 {nargs:=4,ntmps:=34,res:=[.t 8],body:=.q [.s 8 (.mv (.c (.n)))] (.k (.q [.m 12 0,.e 13 12,.m 14 1,.b 15 .neq 13 14] (.i 15 (.q [.m 16 3,.m 8 16] .ret))) (.q [.m 17 0,.kr 18 244 1720 [.t 17],.mx 9 18] (.k (.q [.m 19 0,.e 20 19,.mi 21 0] (.o 0 (.loop [2,9,19,20,21] [1720,1721,1722,1723] [9] B216_0))) (.q [.m 33 9,.m 8 33] .ret))))}
def F217 :MFunc:=
 {nargs:=1,ntmps:=5,res:=[.t 2],body:=.q [.s 2 (.mv (.c (.str [])))] (.q [.m 3 0,.k 4 210 [.t 3,.i 40],.m 2 4] .ret)}
def F218 :MFunc:=
 {nargs:=1,ntmps:=6,res:=[.t 2],body:=.q [.be 1 0,.s 2 (.mv (.c (.n)))] (.q [.L 3 11 1,.k 4 245 [.t 3],.s 5 (.makeA 105 1 false [.e] (.t 4)),.mx 2 5] .ret)}
def B219_0 :MCode:=
 .q [.b 16 .lss 15 14] (.u 16 0 (.k (.o 1 (.q [.ix 17 2 13 15,.L 18 2 17,.nw 7 107 [.z,.z],.S 2 7 18] (.k (.q [.f 19 0 7,.l 20 19,.bi 21 .lss 20 0,.m 22 21,.w 22 false (.f 23 0 7),.w 22 false (.l 24 23),.w 22 false (.f 25 0 2),.w 22 false (.l 26 25),.w 22 false (.b 27 .geq 24 26),.po 28 22 true 27] (.i 28 (.exit 1))) (.q [.f 29 1 7,.l 30 29,.k 31 206 [.t 30],.f 32 1 7,.S 1 32 31] (.r [.mx 33 5,.L 34 2 7,.li 35 2 true [.z,.z] 1 [(0,.t 34)],.s 36 (.app 2 true (.x 33) (.t 35)),.mx 5 36]))))) (.r [.bi 37 .add 15 1,.m 15 37])))
def F219 :MFunc:=
 {nargs:=2,ntmps:=39,res:=[.t 4],body:=.q [.be 2 0,.s 4 (.mv (.c (.n)))] (.q [.s 5 (.mv (.c (.n)))] (.k (.q [.m 8 1,.m 9 1,.e 10 9,.bi 11 .sub 10 64,.s 12 (.mm true (.i 0) [.t 11]),.s 13 (.slc 2 (.t 8) (some (.t 12)) none none),.e 14 13,.mi 15 0] (.o 0 (.loop [2,5,13,14,15] [] [5] B219_0))) (.q [.m 38 5,.m 4 38] .ret)))}
def B222_0 :MCode:=
 .q [.b 9 .lss 8 7] (.u 9 0 (.k (.o 1 (.q [.m 10 8,.m 5 10] (.q [.m 11 1,.m 12 0,.m 13 5,.ix 14 1 12 13,.l 15 14,.b 16 .eql 11 15] (.i 16 (.q [.m 17 5,.m 4 17] .ret))))) (.r [.bi 18 .add 8 1,.m 8 18])))
def F222 :MFunc:=
 {nargs:=2,ntmps:=19,res:=[.t 4],body:=.q [.mi 4 0] (.k (.q [.m 6 0,.e 7 6,.mi 8 0] (.o 0 (.loop [0,1,7,8] [] [4] B222_0))) (.q [.mi 4 (-1)] .ret))}
def F224 :MFunc:=
 {nargs:=1,ntmps:=10,res:=[.t 2],body:=.q [.be 1 0,.mi 2 0] (.q [.L 3 11 1,.f 4 0 1,.f 5 10 4,.l 6 5,.e 7 6,.bi 8 .sub 7 1,.k 9 246 [.t 3,.t 8],.m 2 9] .ret)}
def F225 :MFunc:=
 {nargs:=1,ntmps:=10,res:=[.t 2],body:=.q [.be 1 0,.mi 2 0] (.q [.f 3 0 1,.f 4 4 3,.l 5 4,.f 6 0 1,.f 7 5 6,.l 8 7,.b 9 .sub 5 8,.m 2 9] .ret)}
def F226 :MFunc:=
 {nargs:=1,ntmps:=10,res:=[.t 2],body:=.q [.be 1 0,.mi 2 0] (.q [.f 3 0 1,.f 4 4 3,.l 5 4,.f 6 0 1,.f 7 5 6,.l 8 7,.b 9 .add 5 8,.m 2 9] .ret)}
def B227_0 :MCode:=
 .q [.b 10 .lss 9 8] (.u 10 0 (.k (.o 1 (.q [.ix 11 1 7 9,.l 12 11,.m 6 12] (.q [.m 13 1,.m 14 6,.s 15 (.callv (.t 13) (.ref 1600) [.t 14]),.no 16 15] (.i 16 (.q [.mb 4 false] .ret))))) (.r [.bi 17 .add 9 1,.m 9 17])))
def F227 :MFunc:=
 {nargs:=2,ntmps:=18,res:=[.t 4],body:=.q [.mb 4 false] (.k (.q [.m 7 0,.e 8 7,.mi 9 0] (.o 0 (.loop [1,7,8,9] [] [4] B227_0))) (.q [.mb 4 true] .ret))}
def F228 :MFunc:=
 {nargs:=1,ntmps:=9,res:=[.t 2],body:=.q [.mb 2 false] (.q [.m 3 0,.bi 4 .geq 3 0,.m 5 4,.w 5 true (.m 6 0),.w 5 true (.bi 7 .leq 6 65535),.pa 8 5 7 false,.m 2 8] .ret)}
def F229 :MFunc:=
 {nargs:=2,ntmps:=14,res:=[.t 3],body:=.q [.be 2 0,.mb 3 false] (.q [.L 4 11 1,.f 5 0 2,.l 6 5,.k 7 95 [.t 4,.t 6],.m 8 7,.w 8 true (.L 9 11 1),.w 8 true (.f 10 1 2),.w 8 true (.l 11 10),.w 8 true (.k 12 95 [.t 9,.t 11]),.pa 13 8 12 false,.m 3 13] .ret)}
def B230_0 :MCode:=
 .q [.b 10 .lss 9 8] (.u 10 0 (.k (.o 1 (.q [.ix 11 2 7 9,.L 12 2 11,.nw 6 106 [.z,.e],.S 2 6 12] (.q [.m 13 1,.L 14 2 6,.s 15 (.callv (.t 13) (.ref 1600) [.t 14]),.no 16 15] (.i 16 (.q [.mb 4 false] .ret))))) (.r [.bi 17 .add 9 1,.m 9 17])))
def F230 :MFunc:=
 {nargs:=2,ntmps:=18,res:=[.t 4],body:=.q [.mb 4 false] (.k (.q [.m 7 0,.e 8 7,.mi 9 0] (.o 0 (.loop [1,7,8,9] [] [4] B230_0))) (.q [.mb 4 true] .ret))}
def F231 :MFunc:=
 {nargs:=2,ntmps:=8,res:=[.t 3],body:=.q [.be 2 0,.mb 3 false] (.q [.L 4 11 1,.f 5 0 2,.l 6 5,.k 7 95 [.t 4,.t 6],.m 3 7] .ret)}
def F232 :MFunc:=
 {nargs:=2,ntmps:=8,res:=[.t 3],body:=.q [.be 2 0,.mb 3 false] (.q [.L 4 11 1,.f 5 0 2,.l 6 5,.k 7 95 [.t 4,.t 6],.m 3 7] .ret)}
def F233 :MFunc:=
 {nargs:=1,ntmps:=7,res:=[.t 2],body:=.q [.be 1 0,.mb 2 false] (.q [.f 3 3 1,.l 4 3,.es 5 4,.bi 6 .leq 5 40,.m 2 6] .ret)}
def F234 :MFunc:=
 {nargs:=1,ntmps:=7,res:=[.t 2],body:=.q [.be 1 0,.mb 2 false] (.q [.f 3 1 1,.l 4 3,.es 5 4,.bi 6 .leq 5 8000,.m 2 6] .ret)}
def F235 :MFunc:=
 {nargs:=3,ntmps:=31,res:=[.t 6],body:=.q [.be 3 0,.mi 6 0] (.q [.L 10 14 3,.m 11 1,.k 12 247 [.t 10,.t 11],.m 9 12,.ex 13 9 0,.ex 14 9 1,.nw 7 107 [.n,.n,.n,.n,.n,.n],.S 6 7 13,.m 8 14] (.k (.q [.m 15 8,.no 16 15,.m 17 16,.w 17 false (.f 18 0 3),.w 17 false (.L 19 11 18),.w 17 false (.m 20 2),.w 17 false (.k 21 95 [.t 19,.t 20]),.w 17 false (.no 22 21),.po 23 17 true 22] (.i 23 (.q [.mi 6 0] .ret))) (.q [.f 24 0 7,.l 25 24,.m 26 2,.f 27 0 3,.f 28 4 27,.l 29 28,.k 30 248 [.t 25,.t 26,.t 29],.m 6 30] .ret)))}
def F236 :MFunc:=
 {nargs:=4,ntmps:=46,res:=[.t 8],body:=.q [.be 4 0,.mi 8 0] (.q [.L 12 14 4,.m 13 1,.k 14 247 [.t 12,.t 13],.m 11 14,.ex 15 11 0,.ex 16 11 1,.nw 9 109 [.n,.n,.n,.n,.n,.n],.S 6 9 15,.m 10 16] (.k (.q [.m 17 10,.no 18 17,.m 19 18,.w 19 false (.f 20 0 4),.w 19 false (.L 21 11 20),.w 19 false (.m 22 2),.w 19 false (.k 23 95 [.t 21,.t 22]),.w 19 false (.no 24 23),.po 25 19 true 24,.m 26 25,.w 26 false (.f 27 0 4),.w 26 false (.L 28 11 27),.w 26 false (.m 29 3),.w 26 false (.k 30 95 [.t 28,.t 29]),.w 26 false (.no 31 30),.po 32 26 true 31] (.i 32 (.q [.mi 8 0] .ret))) (.q [.f 33 1 9,.l 34 33,.m 35 2,.f 36 0 4,.L 37 11 36,.kd 38 110 [.t 37],.b 39 .mul 35 38,.m 40 3,.b 41 .add 39 40,.f 42 0 4,.f 43 2 42,.l 44 43,.kd 45 248 [.t 34,.t 41,.t 44],.m 8 45] .ret)))}
def F237 :MFunc:=
 {nargs:=2,ntmps:=15,res:=[.t 4],body:=.q [.be 2 0,.mb 4 false] (.q [.m 5 1,.bi 6 .geq 5 0,.m 7 6,.w 7 true (.m 8 1),.w 7 true (.f 9 0 2),.w 7 true (.f 10 10 9),.w 7 true (.l 11 10),.w 7 true (.e 12 11),.w 7 true (.b 13 .lss 8 12),.pa 14 7 13 false,.m 4 14] .ret)}
def F238 :MFunc:=
 {nargs:=2,ntmps:=14,res:=[.t 4],body:=.q [.be 2 0,.mi 4 0] (.q [.f 5 0 2,.f 6 6 5,.l 7 6,.m 8 1,.f 9 0 2,.f 10 7 9,.l 11 10,.b 12 .mul 8 11,.b 13 .add 7 12,.m 4 13] .ret)}
def F239 :MFunc:=
 {nargs:=1,ntmps:=9,res:=[.t 2],body:=.q [.mb 2 false] (.q [.m 3 0,.bi 4 .geq 3 1,.m 5 4,.w 5 true (.m 6 0),.w 5 true (.bi 7 .leq 6 4),.pa 8 5 7 false,.m 2 8] .ret)}
def F240 :MFunc:=
 {nargs:=1,ntmps:=5,res:=[.t 2],body:=.q [.mi 2 0] (.q [.m 3 0,.k 4 199 [.t 3,.i 65536],.m 2 4] .ret)}
def B241_0 :MCode:=
 .q [.bi 7 .lss 6 6] (.u 7 0 (.k (.o 1 (.q [.m 8 6,.s 9 (.ixA 6 1 false (.t 5) (.t 6)),.m 3 8,.m 4 9] (.r [.m 10 3,.m 11 4,.k 12 178 [.t 11,.i 0,.i 65535],.s 13 (.iaA 6 1 (.t 1) (.t 10)),.S 1 13 12]))) (.r [.bi 14 .add 6 1,.m 6 14])))
def F241 :MFunc:=
 {nargs:=1,ntmps:=16,res:=[.cell 2 6 true],body:=.q [.s 1 (.box 101 (.t 0)),.nw 2 102 [.z,.z,.z,.z,.z,.z]] (.k (.q [.L 5 6 1,.mi 6 0] (.o 0 (.loop [1,2,5,6] [101,102] [1,2] B241_0))) (.q [.L 15 6 1,.S 6 2 15] .ret))}
def F245 :MFunc:=
 {nargs:=1,ntmps:=11,res:=[.t 2],body:=.q [.be 1 0,.mi 2 0] (.k (.q [.L 3 11 1,.k 4 66 [.t 3],.bi 5 .neq 4 0] (.i 5 (.q [.mi 2 0] .ret))) (.q [.f 6 0 1,.l 7 6,.f 8 2 1,.l 9 8,.b 10 .mul 7 9,.m 2 10] .ret))}
def F246 :MFunc:=
 {nargs:=2,ntmps:=13,res:=[.t 4],body:=.q [.be 2 0,.mi 4 0] (.q [.L 5 11 2,.m 6 1,.kd 7 238 [.t 5,.t 6],.f 8 0 2,.f 9 7 8,.l 10 9,.bi 11 .quo 10 2,.b 12 .add 7 11,.m 4 12] .ret)}
def F247 :MFunc:=
 {nargs:=2,ntmps:=21,res:=[.cell 4 6 true,.t 5],body:=.q [.be 2 0,.nw 4 104 [.n,.n,.n,.n,.n,.n],.mb 5 false] (.k (.q [.m 6 1,.bi 7 .lss 6 0,.m 8 7,.w 8 false (.m 9 1),.w 8 false (.f 10 13 2),.w 8 false (.l 11 10),.w 8 false (.e 12 11),.w 8 false (.b 13 .geq 9 12),.po 14 8 true 13] (.i 14 (.q [.bd 15 [.n,.n,.n,.n,.n,.n] [],.S 6 4 15,.mb 5 false] .ret))) (.q [.f 16 13 2,.l 17 16,.m 18 1,.ix 19 6 17 18,.L 20 6 19,.S 6 4 20,.mb 5 true] .ret))}
def F248 :MFunc:=
 {nargs:=3,ntmps:=16,res:=[.t 6],body:=.q [.mi 6 0] (.k (.q [.m 7 1,.m 8 0,.e 9 8,.b 10 .lss 7 9] (.i 10 (.q [.m 11 0,.m 12 1,.ix 13 1 11 12,.l 14 13,.m 6 14] .ret))) (.q [.m 15 2,.m 6 15] .ret))}
def fs :List (Nat×MFunc):=[(6,F6),(7,F7),(8,F8),(9,F9),(11,F11),(13,F13),(16,F16),(18,F18),(19,F19),(20,F20),(21,F21),(22,F22),(23,F23),(24,F24),(25,F25),(26,F26),(27,F27),(28,F28),(29,F29),(30,F30),(31,F31),(32,F32),(33,F33),(34,F34),(35,F35),(36,F36),(38,F38),(45,F45),(46,F46),(50,F50),(51,F51),(52,F52),(53,F53),(54,F54),(55,F55),(56,F56),(57,F57),(58,F58),(59,F59),(60,F60),(61,F61),(62,F62),(63,F63),(64,F64),(65,F65),(66,F66),(67,F67),(68,F68),(69,F69),(70,F70),(71,F71),(72,F72),(73,F73),(74,F74),(75,F75),(76,F76),(77,F77),(78,F78),(79,F79),(80,F80),(81,F81),(82,F82),(91,F91),(92,F92),(93,F93),(94,F94),(95,F95),(96,F96),(99,F99),(105,F105),(106,F106),(107,F107),(108,F108),(109,F109),(110,F110),(111,F111),(112,F112),(114,F114),(115,F115),(116,F116),(117,F117),(118,F118),(119,F119),(120,F120),(121,F121),(122,F122),(123,F123),(124,F124),(125,F125),(126,F126),(127,F127),(128,F128),(129,F129),(130,F130),(131,F131),(132,F132),(133,F133),(134,F134),(135,F135),(136,F136),(138,F138),(139,F139),(140,F140),(144,F144),(151,F151),(152,F152),(153,F153),(154,F154),(155,F155),(156,F156),(157,F157),(158,F158),(159,F159),(172,F172),(173,F173),(174,F174),(175,F175),(176,F176),(177,F177),(178,F178),(179,F179),(181,F181),(182,F182),(183,F183),(184,F184),(185,F185),(186,F186),(187,F187),(188,F188),(189,F189),(190,F190),(191,F191),(192,F192),(193,F193),(194,F194),(195,F195),(196,F196),(197,F197),(198,F198),(199,F199),(200,F200),(201,F201),(202,F202),(205,F205),(206,F206),(207,F207),(208,F208),(209,F209),(210,F210),(211,F211),(212,F212),(213,F213),(214,F214),(215,F215),(216,F216),(217,F217),(218,F218),(219,F219),(222,F222),(224,F224),(225,F225),(226,F226),(227,F227),(228,F228),(229,F229),(230,F230),(231,F231),(232,F232),(233,F233),(234,F234),(235,F235),(236,F236),(237,F237),(238,F238),(239,F239),(240,F240),(241,F241),(245,F245),(246,F246),(247,F247),(248,F248)]
abbrev M :PF.Prog:=lookF fs
noncomputable abbrev XE :Nat→List AV→Option (AV×List PF.Obj):=(orX (cloneX []) (orX (cloneAX [(n_slices_Clone_api_Port_api_Port,3,true),(n_slices_Clone_string_string,1,false)]) (orX (x0.gotX n_trace_Got) (orX (x0.nodeX n_round_machine_node) (repeatX n_strings_Repeat)))))
abbrev SG :Glob:=noG
theorem xe_ok :ExtOK SG Tryz.prog M XE:=(orX_ok (cloneX_ok (Z:=[]) (by kernel_rfl) rfl) (orX_ok (cloneAX_ok (Z:=[[.str [],.int .i64 0,.int .i64 0],[.str []]]) (by kernel_rfl) rfl) (orX_ok (x0.gotX_ok ⟨Tryz.f113,by kernel_rfl,by kernel_rfl,by kernel_rfl⟩ ()) (orX_ok (x0.nodeX_ok ⟨Tryz.f137,by kernel_rfl,by kernel_rfl,by kernel_rfl⟩ ()) (repeatX_ok ⟨Tryz.f242,by kernel_rfl,by kernel_rfl,by kernel_rfl⟩ Tryz.strings_Repeat)))))
theorem fs_ok :OkAll Tryz.prog fs:=okAll_of (by kernel_rfl)
end Go.Proofs.YtaoijbibmcgdaaaGreat
