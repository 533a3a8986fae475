/-
  The program's functions as code of the machine PF (printed by a program of mine), each checked against the program.
-/
import Derived.Test.YtaoijbibmcgdaaaGreatPFe
import Derived.Test.YtaoijbibmcgdaaaGreatPFb
import Derived.Test.YtaoijbibmcgdaaaGreatChecked
import Derived.KernelRfl
set_option linter.unusedVariables false
set_option linter.unusedSimpArgs false
namespace Go.Proofs.YtaoijbibmcgdaaaGreat.x0
open Go.Proofs.PF
set_option maxRecDepth 100000
def F112 :MFunc:=
 {nargs:=3,ntmps:=36,res:=[.cell 6 7 true],body:=.q [.nw 6 106 [.o,.o,.z,.z,.e,.z,.n]] (.k (.q [.m 7 1,.bi 8 .lss 7 0,.m 9 8,.w 9 false (.m 10 1),.w 9 false (.m 11 0),.w 9 false (.e 12 11),.w 9 false (.b 13 .geq 10 12),.po 14 9 true 13,.m 15 14,.w 15 false (.m 16 2),.w 15 false (.bi 17 .lss 16 0),.po 18 15 true 17,.m 19 18,.w 19 false (.m 20 2),.w 19 false (.m 21 0),.w 19 false (.m 22 1),.w 19 false (.ix 23 1 21 22),.w 19 false (.l 24 23),.w 19 false (.e 25 24),.w 19 false (.b 26 .geq 20 25),.po 27 19 true 26] (.i 27 (.q [.bd 28 [.o,.o,.z,.z,.e,.z,.n] [],.S 7 6 28] .ret))) (.q [.m 29 0,.m 30 1,.ix 31 1 29 30,.l 32 31,.m 33 2,.ix 34 7 32 33,.L 35 7 34,.S 7 6 35] .ret))}
def F179 :MFunc:=
 {nargs:=2,ntmps:=9,res:=[.t 4],body:=.q [.mb 4 false] (.q [.m 5 0,.m 6 1,.k 7 222 [.t 5,.t 6],.bi 8 .geq 7 0,.m 4 8] .ret)}
def F202 :MFunc:=
 {nargs:=2,ntmps:=9,res:=[.t 4],body:=.q [.be 2 0,.mb 4 false] (.q [.f 5 11 2,.l 6 5,.m 7 1,.k 8 179 [.t 6,.t 7],.m 4 8] .ret)}
def F203 :MFunc:=
 {nargs:=4,ntmps:=59,res:=[.t 8],body:=.q [.be 4 0,.be 5 1,.be 6 2,.mi 8 0] (.k (.o 0 (.k (.q [.f 10 1 6,.l 11 10,.m 12 3,.b 13 .leq 11 12,.m 9 13] (.c 9 .skip (.r [.f 14 1 6,.l 15 14,.f 16 0 4,.f 17 10 16,.l 18 17,.e 19 18,.b 20 .geq 15 19,.m 9 20]))) (.c 9 (.q [.mi 8 11] .ret) (.q [.f 22 0 6,.l 23 22,.f 24 0 4,.f 25 10 24,.l 26 25,.f 27 1 6,.l 28 27,.ix 29 1 26 28,.l 30 29,.b 31 .neq 23 30,.m 21 31] (.c 21 (.q [.mi 8 12] .ret) (.q [.f 33 2 6,.l 34 33,.f 35 0 5,.l 36 35,.b 37 .neq 34 36,.m 32 37] (.c 32 (.q [.mi 8 16] .ret) (.k (.q [.f 39 3 6,.l 40 39,.es 41 40,.bi 42 .gtr 41 16,.m 38 42] (.c 38 .skip (.r [.L 43 12 4,.f 44 0 6,.l 45 44,.kd 46 202 [.t 43,.t 45],.no 47 46,.m 48 47,.w 48 true (.f 49 3 6),.w 48 true (.l 50 49),.w 48 true (.f 51 2 5),.w 48 true (.l 52 51),.w 48 true (.f 53 0 6),.w 48 true (.l 54 53),.w 48 true (.ix 55 1 52 54),.w 48 true (.l 56 55),.w 48 true (.b 57 .neq 50 56),.pa 58 48 57 false,.m 38 58]))) (.i 38 (.q [.mi 8 15] .ret)))))))))) (.q [.mi 8 0] .ret))}
def B222_0 :MCode:=
 .q [.b 9 .lss 8 7] (.u 9 0 (.k (.o 1 (.q [.m 10 8,.m 5 10] (.q [.m 11 1,.m 12 0,.m 13 5,.ix 14 1 12 13,.l 15 14,.b 16 .eql 11 15] (.i 16 (.q [.m 17 5,.m 4 17] .ret))))) (.r [.bi 18 .add 8 1,.m 8 18])))
def F222 :MFunc:=
 {nargs:=2,ntmps:=19,res:=[.t 4],body:=.q [.mi 4 0] (.k (.q [.m 6 0,.e 7 6,.mi 8 0] (.o 0 (.loop [0,1,7,8] [] [4] B222_0))) (.q [.mi 4 (-1)] .ret))}
def fs :List (Nat×MFunc):=[(112,F112),(179,F179),(202,F202),(203,F203),(222,F222)]
abbrev M :PF.Prog:=lookF fs
abbrev XE :Nat→List AV→Option (AV×List PF.Obj):=(orX (cloneX []) (cloneAX []))
abbrev SG :Glob:=noG
theorem xe_ok :ExtOK SG Tryz.prog M XE:=(orX_ok (cloneX_ok (Z:=[]) (by kernel_rfl) rfl) (cloneAX_ok (Z:=[]) (by kernel_rfl) rfl))
theorem fs_ok :OkAll Tryz.prog fs:=okAll_of (by kernel_rfl)
end Go.Proofs.YtaoijbibmcgdaaaGreat.x0
