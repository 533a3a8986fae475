/-
  The program's functions as plain functions (printed by a program of mine), each beside the machine's.
-/
import Derived.Test.YtaoijbibmcgdaaaGreatDa
import Derived.Test.YtaoijbibmcgdaaaGreatFm
import Derived.Test.YtaoijbibmcgdaaaGreatPFe
set_option linter.unusedVariables false
set_option linter.unusedSimpArgs false
set_option maxRecDepth 100000
set_option maxHeartbeats 4000000
namespace Go.Proofs.YtaoijbibmcgdaaaGreat
open Go.Proofs.PF
noncomputable def r33_long_0_step (t2:GTick)(x0:List GSend)(x2:Int)(x3:Int):Option ((Int)⊕((Bool)⊕(Unit))):=
 if x3<x2 then
  (idx? x0 x3).bind fun z0=>
  if 40<(List.length z0.Bytes:Int)then
   some (.inr (.inl true))
  else
   some (.inl (wr (x3+1)))
 else
  some (.inr (.inr ()))
noncomputable def r33_long_0 (t2:GTick)(x0:List GSend)(x2:Int)(x3:Int):Option ((Bool)⊕(Unit)):=
 loopO (fun s:Int=>r33_long_0_step t2 x0 x2 s) x3
def r33_long_0_pre (t2:GTick)(x0:List GSend)(x2:Int)(v:Int)(e:PF.St):Prop:=e=⟨[(1,.ept (GTick.cells t2) 0),(10,lav GSend.av x0),(11,iav x2),(12,iav v)],[]⟩
instance r33_long_0_sim (t2:GTick)(x0:List GSend)(x2:Int)(x3:Int):HL (r33_long_0 t2 x0 x2 x3) LM ([1,10,11,12],[],[1,2],B177_0) (r33_long_0_pre t2 x0 x2 x3) (rS (rE fun r=>(Ex.ret,⟨[(1,.ept (GTick.cells t2) 0),(2,.bool r)],[]⟩)) (rE fun r=>((.exit 0),⟨[(1,.ept (GTick.cells t2) 0),(2,.undef)],[]⟩))):=by unfold r33_long_0 r33_long_0_step;exact lf
noncomputable def r33_long_1_step (t3:GTick)(x4:List GSend)(x5:Int)(x6:Int):Option ((Int)⊕((Bool)⊕(Unit))):=
 if x6<x5 then
  (idx? x4 x6).bind fun z2=>
  if 40<(List.length z2.Bytes:Int)then
   some (.inr (.inl true))
  else
   some (.inl (wr (x6+1)))
 else
  some (.inr (.inr ()))
noncomputable def r33_long_1 (t3:GTick)(x4:List GSend)(x5:Int)(x6:Int):Option ((Bool)⊕(Unit)):=
 loopO (fun s:Int=>r33_long_1_step t3 x4 x5 s) x6
def r33_long_1_pre (t3:GTick)(x4:List GSend)(x5:Int)(v:Int)(e:PF.St):Prop:=e=⟨[(1,.ept (GTick.cells t3) 0),(22,lav GSend.av x4),(23,iav x5),(24,iav v)],[]⟩
instance r33_long_1_sim (t3:GTick)(x4:List GSend)(x5:Int)(x6:Int):HL (r33_long_1 t3 x4 x5 x6) LM ([1,22,23,24],[],[1,2],B177_1) (r33_long_1_pre t3 x4 x5 x6) (rS (rE fun r=>(Ex.ret,⟨[(1,.ept (GTick.cells t3) 0),(2,.bool r)],[]⟩)) (rE fun r=>((.exit 2),⟨[(1,.ept (GTick.cells t3) 0),(2,.undef)],[]⟩))):=by unfold r33_long_1 r33_long_1_step;exact lf
noncomputable def r33_long_2_step (x7:List GBurst)(x8:Int)(x9:Int):Option ((Int)⊕((Bool)⊕(Unit))):=
 if x9<x8 then
  (idx? x7 x9).bind fun z3=>
  if 8000<(List.length z3.Image:Int)then
   some (.inr (.inl true))
  else
   some (.inl (wr (x9+1)))
 else
  some (.inr (.inr ()))
noncomputable def r33_long_2 (x7:List GBurst)(x8:Int)(x9:Int):Option ((Bool)⊕(Unit)):=
 loopO (fun s:Int=>r33_long_2_step x7 x8 s) x9
def r33_long_2_pre (x7:List GBurst)(x8:Int)(v:Int)(e:PF.St):Prop:=e=⟨[(34,lav GBurst.av x7),(35,iav x8),(36,iav v)],[]⟩
instance r33_long_2_sim (x7:List GBurst)(x8:Int)(x9:Int):HL (r33_long_2 x7 x8 x9) LM ([34,35,36],[],[2],B177_2) (r33_long_2_pre x7 x8 x9) (rS (rE fun r=>(Ex.ret,⟨[(2,.bool r)],[]⟩)) (rE fun r=>((.exit 4),⟨[(2,.undef)],[]⟩))):=by unfold r33_long_2 r33_long_2_step;exact lf
noncomputable def r33_long (t0:GTick):Option Bool:=
 (r33_long_0 t0 t0.Sends (List.length t0.Sends:Int) 0).bind fun r0=>
 Sum.elim
  (fun r2=>
    some r2)
  (fun r3=>
    (r33_long_1 t0 t0.Strays (List.length t0.Strays:Int) 0).bind fun r4=>
    Sum.elim
     (fun r5=>
       some r5)
     (fun r6=>
       (r33_long_2 t0.Bursts (List.length t0.Bursts:Int) 0).bind fun r7=>
       Sum.elim
        (fun r8=>
          some r8)
        (fun r9=>
          some false)
        r7)
     r4)
  r0
instance r33_long_sim (t0:GTick):HE bav (r33_long t0) 177 [GTick.av t0]:=⟨by unfold r33_long;exact sa⟩
noncomputable def r33_tick_0_step (x0:List GWrite)(x2:Int)(x3:Int):Option ((Int)⊕((Int)⊕(Unit))):=
 if x3<x2 then
  (idx? x0 x3).bind fun z0=>
  if 16<(List.length z0.Text:Int)then
   some (.inr (.inl 15))
  else
   some (.inl (wr (x3+1)))
 else
  some (.inr (.inr ()))
noncomputable def r33_tick_0 (x0:List GWrite)(x2:Int)(x3:Int):Option ((Int)⊕(Unit)):=
 loopO (fun s:Int=>r33_tick_0_step x0 x2 s) x3
def r33_tick_0_pre (x0:List GWrite)(x2:Int)(v:Int)(e:PF.St):Prop:=e=⟨[(66,lav GWrite.av x0),(67,iav x2),(68,iav v)],[]⟩
instance r33_tick_0_sim (x0:List GWrite)(x2:Int)(x3:Int):HL (r33_tick_0 x0 x2 x3) LM ([66,67,68],[],[4],B107_0) (r33_tick_0_pre x0 x2 x3) (rS (rE fun r=>(Ex.ret,⟨[(4,iav r)],[]⟩)) (rE fun r=>((.exit 0),⟨[(4,.undef)],[]⟩))):=by unfold r33_tick_0 r33_tick_0_step;exact lf
noncomputable def r33_tick (L0:GConf)(i0:GTick):Option Int:=
 (r33_within i0.Units L0.N).bind fun r0=>
 if(!r0)=true then
  some 2
 else
  (r33_within i0.Delays (wr (L0.N*L0.N))).bind fun r2=>
  if(!r2)=true then
   some 2
  else
   (r33_waits i0).bind fun r3=>
   (r33_within r3 (wr ((List.length i0.Sends:Int)+(List.length i0.Strays:Int)))).bind fun r4=>
   if(!r4)=true then
    some 2
   else
    if 40<(List.length i0.Sends:Int)then
     some 9
    else
     if 40<(List.length i0.Bursts:Int)then
      some 9
     else
      if 40<(List.length i0.Strays:Int)then
       some 9
      else
       if 40<(List.length i0.Writes:Int)then
        some 9
       else
        (r33_nodes L0 i0).bind fun r5=>
        if(!r5)=true then
         some 7
        else
         (r33_long i0).bind fun r6=>
         if r6=true then
          some 6
         else
          (r33_tick_0 i0.Writes (List.length i0.Writes:Int) 0).bind fun r7=>
          Sum.elim
           (fun r8=>
             some r8)
           (fun r9=>
             some 0)
           r7
instance r33_tick_sim (L0:GConf)(i0:GTick):HE iav (r33_tick L0 i0) 107 [GConf.av L0,GTick.av i0]:=⟨by unfold r33_tick;exact sa⟩
noncomputable def r33_Right_0_step (i0:GScript)(t0:Int):Option ((Int)⊕((Int)⊕(Unit))):=
 if t0<(List.length i0.Faulty:Int)then
  (idx? i0.Faulty t0).bind fun z0=>
  (r33_node i0.Conf z0).bind fun r3=>
  if(!r3)=true then
   some (.inr (.inl 7))
  else
   if 0≤t0∧t0≤((List.length i0.Faulty):Nat)then
    (idx? i0.Faulty t0).bind fun z2=>
    (r14_In (List.take (Int.toNat t0) i0.Faulty) z2).bind fun r4=>
    if r4=true then
     some (.inr (.inl 7))
    else
     some (.inl (wr (t0+1)))
   else none
 else
  some (.inr (.inr ()))
noncomputable def r33_Right_0 (i0:GScript)(t0:Int):Option ((Int)⊕(Unit)):=
 loopO (fun s:Int=>r33_Right_0_step i0 s) t0
def r33_Right_0_pre (i0:GScript)(v:Int)(e:PF.St):Prop:=e=⟨[(1,.ept (GScript.cells i0) 0),(3,iav v)],[]⟩
instance r33_Right_0_sim (i0:GScript)(t0:Int):HL (r33_Right_0 i0 t0) LM ([1,3],[],[1,2],B50_0) (r33_Right_0_pre i0 t0) (rS (rE fun r=>(Ex.ret,⟨[(1,.ept (GScript.cells i0) 0),(2,iav r)],[]⟩)) (rE fun r=>((.exit 0),⟨[(1,.ept (GScript.cells i0) 0),(2,.undef)],[]⟩))):=by
 refine lv (r33_Right_0_pre i0) _ fun S hS hw hw8 R hR=> ?_
 rintro t0 env hp he
 cases he
 show Sim (r33_Right_0_step i0 t0) _ _
 unfold r33_Right_0_step
 simp only[hw]
 refine au ?_
 refine Sim.ki hS (m:=(List.length i0.Faulty:Int)) (by simp) ?_
 refine au (.ite Iff.rfl (fun hc2=> ?_) fun hc2=> ?_)
 ·refine au ?_
  refine Sim.ix (by simp) (fun z0 hz0=> ?_)
  refine au ?_
  refine Sim.go (idx_map _ hz0) ?_
  refine au (.hc hR ?_)
  rintro r3 q rfl
  refine au (.iteB (fun hc3=> ?_) fun hc3=> ?_)
  ·exact fin
  ·refine au ?_
   first|(refine Sim.goB (headE_map (by intro _;rfl) _) ?_)|skip
   refine au ?_
   refine Sim.kn hS (m:=(List.length i0.Faulty)) (by simp) ?_
   refine au ?_
   first|refine Sim.ite Iff.rfl (fun _=> ?_) (fun _=>Sim.no)|refine Sim.guard (fun _=> ?_)
   refine au ?_
   refine Sim.kl hS (ys:=List.map iav (List.take (Int.toNat t0) i0.Faulty)) (by simp only[PF.cut,List.map_drop,List.map_take]) ?_
   exact fin
 ·exact fin
noncomputable def r33_Right_1_step (i2:GScript)(x0:Int):Option ((Int)⊕((Int)⊕(Unit))):=
 if x0<(List.length i2.Images:Int)then
  (idx? i2.Images x0).bind fun z3=>
  if 8000<(List.length z3:Int)then
   some (.inr (.inl 6))
  else
   some (.inl (wr (x0+1)))
 else
  some (.inr (.inr ()))
noncomputable def r33_Right_1 (i2:GScript)(x0:Int):Option ((Int)⊕(Unit)):=
 loopO (fun s:Int=>r33_Right_1_step i2 s) x0
def r33_Right_1_pre (i2:GScript)(v:Int)(e:PF.St):Prop:=e=⟨[(1,.ept (GScript.cells i2) 0),(4,iav v)],[]⟩
instance r33_Right_1_sim (i2:GScript)(x0:Int):HL (r33_Right_1 i2 x0) LM ([1,4],[],[1,2],B50_1) (r33_Right_1_pre i2 x0) (rS (rE fun r=>(Ex.ret,⟨[(1,.ept (GScript.cells i2) 0),(2,iav r)],[]⟩)) (rE fun r=>((.exit 2),⟨[(1,.ept (GScript.cells i2) 0),(2,.undef)],[]⟩))):=by unfold r33_Right_1 r33_Right_1_step;exact lf
noncomputable def r33_Right_2_step (i3:GScript)(t2:Int):Option ((Int)⊕((Int)⊕(Unit))):=
 if t2<(List.length i3.Ticks:Int)then
  (idx? i3.Ticks t2).bind fun z4=>
  (r33_tick i3.Conf z4).bind fun r11=>
  if r11≠0 then
   some (.inr (.inl r11))
  else
   some (.inl (wr (t2+1)))
 else
  some (.inr (.inr ()))
noncomputable def r33_Right_2 (i3:GScript)(t2:Int):Option ((Int)⊕(Unit)):=
 loopO (fun s:Int=>r33_Right_2_step i3 s) t2
def r33_Right_2_pre (i3:GScript)(v:Int)(e:PF.St):Prop:=e=⟨[(1,.ept (GScript.cells i3) 0),(5,iav v)],[]⟩
instance r33_Right_2_sim (i3:GScript)(t2:Int):HL (r33_Right_2 i3 t2) LM ([1,5],[],[2],B50_2) (r33_Right_2_pre i3 t2) (rS (rE fun r=>(Ex.ret,⟨[(2,iav r)],[]⟩)) (rE fun r=>((.exit 4),⟨[(2,.undef)],[]⟩))):=by unfold r33_Right_2 r33_Right_2_step;exact lf
noncomputable def r33_Right (L0:GScript):Option Int:=
 (r04_Right L0.Conf).bind fun r0=>
 if r0≠0 then
  (r04_Right L0.Conf).bind fun r2=>
  some r2
 else
  (r33_Right_0 L0 0).bind fun r5=>
  Sum.elim
   (fun r6=>
     some r6)
   (fun r7=>
     if L0.Conf.N<(List.length L0.Images:Int)then
      some 6
     else
      if 2000<(List.length L0.Ticks:Int)then
       some 6
      else
       (r33_Right_1 L0 0).bind fun r8=>
       Sum.elim
        (fun r9=>
          some r9)
        (fun r10=>
          (r33_Right_2 L0 0).bind fun r12=>
          Sum.elim
           (fun r13=>
             some r13)
           (fun r14=>
             some 0)
           r12)
        r8)
   r5
instance r33_Right_sim (L0:GScript):HE iav (r33_Right L0) 50 [GScript.av L0]:=⟨by unfold r33_Right;exact sa⟩
noncomputable def r34_Holds (s0:GScript):Option Int:=
 (r33_Right s0).bind fun r0=>
 if r0≠0 then
  (r33_Right s0).bind fun r2=>
  some r2
 else
  if s0.Conf.F<(List.length s0.Faulty:Int)then
   some 7
  else
   some 0
instance r34_Holds_sim (s0:GScript):HE iav (r34_Holds s0) 16 [GScript.av s0]:=⟨by unfold r34_Holds;exact sa⟩
noncomputable def r33_Faulty (s0:GScript)(n0:Int):Option Bool:=
 (r14_In s0.Faulty n0).bind fun r0=>
 some r0
instance r33_Faulty_sim (s0:GScript)(n0:Int):HE bav (r33_Faulty s0 n0) 18 [GScript.av s0,iav n0]:=⟨by unfold r33_Faulty;exact sa⟩
noncomputable def r36_At (rows:List (List GReport))(t0:Int)(node:Int):Option GReport:=
 if t0<0 then
  some (GReport.mk false false 0 0 ([]:List UInt8) 0 ([]:List GDeliver))
 else
  if(List.length rows:Int)≤t0 then
   some (GReport.mk false false 0 0 ([]:List UInt8) 0 ([]:List GDeliver))
  else
   if node<0 then
    some (GReport.mk false false 0 0 ([]:List UInt8) 0 ([]:List GDeliver))
   else
    (idx? rows t0).bind fun z0=>
    if(List.length z0:Int)≤node then
     some (GReport.mk false false 0 0 ([]:List UInt8) 0 ([]:List GDeliver))
    else
     (idx? rows t0).bind fun z2=>
     (idx? z2 node).bind fun z3=>
     some z3
instance r36_At_sim (rows:List (List GReport))(t0:Int)(node:Int):HE GReport.av (r36_At rows t0 node) 54 [lav (lav GReport.av) rows,iav t0,iav node]:=⟨by unfold r36_At;exact sa⟩
noncomputable def r37_Starts_0_step (rows2:List (List GReport))(node2:Int)(c2:GConf)(out:List Int)(t0:Int):Option (((List Int)×Int)⊕((List Int))):=
 if t0<(List.length rows2:Int)then
  (r36_At rows2 t0 node2).bind fun r2=>
  if r2.Pulse=true then
   if(wr (t0+c2.Period))≤(List.length rows2:Int)then
    if List.length out+List.length [t0]≤lenMax then
     some (.inl ((out++[t0]),(wr (t0+1))))
    else none
   else
    some (.inl (out,(wr (t0+1))))
  else
   some (.inl (out,(wr (t0+1))))
 else
  some (.inr out)
noncomputable def r37_Starts_0 (rows2:List (List GReport))(node2:Int)(c2:GConf)(out:List Int)(t0:Int):Option ((List Int)):=
 loopO (fun s:(List Int)×Int=>r37_Starts_0_step rows2 node2 c2 s.1 s.2) (out,t0)
def r37_Starts_0_pre (rows2:List (List GReport))(node2:Int)(c2:GConf)(v:(List Int)×Int)(e:PF.St):Prop:= ∃g0,e=⟨[(1,lav (lav GReport.av) rows2),(2,iav node2),(4,.ept (GConf.cells c2) 0),(9,.lst g0 (List.map iav v.1)),(10,iav v.2)],[]⟩∧Mg 1 g0
instance r37_Starts_0_sim (rows2:List (List GReport))(node2:Int)(c2:GConf)(out:List Int)(t0:Int):HL (r37_Starts_0 rows2 node2 c2 out t0) LM ([1,2,4,9,10],[],[9],B20_0) (r37_Starts_0_pre rows2 node2 c2 (out,t0)) (fun r (q:Ex×PF.St)=> ∃g0',q=((.exit 0),⟨[(9,.lst g0' (List.map iav r))],[]⟩)∧Mg 1 g0'):=by
 refine lv (r37_Starts_0_pre rows2 node2 c2) _ fun S hS hw hw8 R hR=> ?_
 rintro⟨out,t0⟩ env hp ⟨g0,he,hg0⟩
 cases he
 show Sim (r37_Starts_0_step rows2 node2 c2 out t0) _ _
 unfold r37_Starts_0_step
 simp only[hw]
 refine au ?_
 refine Sim.ki hS (m:=(List.length rows2:Int)) (by simp) ?_
 refine au (.ite Iff.rfl (fun hc2=> ?_) fun hc2=> ?_)
 ·refine au (.hc hR ?_)
  rintro r2 q rfl
  refine au (.iteB (fun hc3=> ?_) fun hc3=> ?_)
  ·refine au ?_
   refine Sim.ki hS (m:=(List.length rows2:Int)) (by simp) ?_
   refine au (.ite Iff.rfl (fun hc4=> ?_) fun hc4=> ?_)
   ·refine au ?_
    refine Sim.kl hS (ys:=List.map iav [t0]) rfl ?_
    refine au ?_
    first|(refine Sim.goB (may_map (by intro _;rfl) hg0 _) ?_)|skip
    refine au ?_
    first|(refine Sim.goB (okE_map (by intro _;exact⟨rfl,rfl,rfl⟩) _) ?_)|skip
    refine au ?_
    first|refine Sim.ite (by simp) (fun _=> ?_) (fun _=>Sim.no)|refine Sim.guard (fun _=> ?_)
    exact fin
   ·exact fin
  ·exact fin
 ·exact fin
noncomputable def r37_Starts (c0:GConf)(rows:List (List GReport))(node:Int)(from0:Int):Option ((List Int)):=
 (r03_Plain c0).bind fun r0=>
 if r0≠0 then
  some ([]:List Int)
 else
  (r37_Starts_0 rows node c0 ([]:List Int) (max from0 0)).bind fun r3=>
  some r3
instance r37_Starts_sim (c0:GConf)(rows:List (List GReport))(node:Int)(from0:Int):HE (lav iav) (r37_Starts c0 rows node from0) 20 [GConf.av c0,lav (lav GReport.av) rows,iav node,iav from0]:=⟨by unfold r37_Starts;exact sa⟩
noncomputable def r33_Honest_0_step (s2:GScript)(out:List Int)(i0:Int):Option (((List Int)×Int)⊕((List Int))):=
 (r01_Clamp s2.Conf.N 0 13).bind fun r0=>
 if i0<r0 then
  (r33_Faulty s2 i0).bind fun r2=>
  if(!r2)=true then
   if List.length out+List.length [i0]≤lenMax then
    some (.inl ((out++[i0]),(wr (i0+1))))
   else none
  else
   some (.inl (out,(wr (i0+1))))
 else
  some (.inr out)
noncomputable def r33_Honest_0 (s2:GScript)(out:List Int)(i0:Int):Option ((List Int)):=
 loopO (fun s:(List Int)×Int=>r33_Honest_0_step s2 s.1 s.2) (out,i0)
def r33_Honest_0_pre (s2:GScript)(v:(List Int)×Int)(e:PF.St):Prop:= ∃g0,e=⟨[(1,.ept (GScript.cells s2) 0),(3,.lst g0 (List.map iav v.1)),(4,iav v.2)],[]⟩∧Mg 1 g0
instance r33_Honest_0_sim (s2:GScript)(out:List Int)(i0:Int):HL (r33_Honest_0 s2 out i0) LM ([1,3,4],[],[3],B21_0) (r33_Honest_0_pre s2 (out,i0)) (fun r (q:Ex×PF.St)=> ∃g0',q=((.exit 0),⟨[(3,.lst g0' (List.map iav r))],[]⟩)∧Mg 1 g0'):=by
 refine lv (r33_Honest_0_pre s2) _ fun S hS hw hw8 R hR=> ?_
 rintro⟨out,i0⟩ env hp ⟨g0,he,hg0⟩
 cases he
 show Sim (r33_Honest_0_step s2 out i0) _ _
 unfold r33_Honest_0_step
 simp only[hw]
 refine au (.hc hR ?_)
 rintro r0 q rfl
 refine au (.ite Iff.rfl (fun hc=> ?_) fun hc=> ?_)
 ·refine au (.hc hR ?_)
  rintro r2 q rfl
  refine au (.iteB (fun hc2=> ?_) fun hc2=> ?_)
  ·refine au ?_
   refine Sim.kl hS (ys:=List.map iav [i0]) rfl ?_
   refine au ?_
   first|(refine Sim.goB (may_map (by intro _;rfl) hg0 _) ?_)|skip
   refine au ?_
   first|(refine Sim.goB (okE_map (by intro _;exact⟨rfl,rfl,rfl⟩) _) ?_)|skip
   refine au ?_
   first|refine Sim.ite (by simp) (fun _=> ?_) (fun _=>Sim.no)|refine Sim.guard (fun _=> ?_)
   exact fin
  ·exact fin
 ·exact fin
noncomputable def r33_Honest (s0:GScript):Option ((List Int)):=
 (r33_Honest_0 s0 ([]:List Int) 0).bind fun r3=>
 some r3
instance r33_Honest_sim (s0:GScript):HE (lav iav) (r33_Honest s0) 21 [GScript.av s0]:=⟨by unfold r33_Honest;exact sa⟩
noncomputable def r33_Units (s0:GScript)(t0:Int)(n0:Int):Option Int:=
 if t0<0 then
  some 0
 else
  if(List.length s0.Ticks:Int)≤t0 then
   some 0
  else
   (r33_node s0.Conf n0).bind fun r0=>
   if(!r0)=true then
    some 0
   else
    (idx? s0.Ticks t0).bind fun z0=>
    if n0<(List.length z0.Units:Int)then
     (idx? s0.Ticks t0).bind fun z2=>
     (idx? z2.Units n0).bind fun z3=>
     some z3
    else
     some s0.Conf.Rate
instance r33_Units_sim (s0:GScript)(t0:Int)(n0:Int):HE iav (r33_Units s0 t0 n0) 139 [GScript.av s0,iav t0,iav n0]:=⟨by unfold r33_Units;exact sa⟩
noncomputable def r33_Delay (s0:GScript)(t0:Int)(from0:Int)(to0:Int):Option Int:=
 if t0<0 then
  some 0
 else
  if(List.length s0.Ticks:Int)≤t0 then
   some 0
  else
   (r33_node s0.Conf from0).bind fun r0=>
   if(!r0)=true then
    some 0
   else
    (r33_node s0.Conf to0).bind fun r2=>
    if(!r2)=true then
     some 0
    else
     (r01_Clamp s0.Conf.N 0 13).bind fun r3=>
     (idx? s0.Ticks t0).bind fun z0=>
     if(wr ((wr (from0*r3))+to0))<(List.length z0.Delays:Int)then
      (idx? s0.Ticks t0).bind fun z2=>
      (idx? z2.Delays (wr ((wr (from0*r3))+to0))).bind fun z3=>
      some z3
     else
      some s0.Conf.D
instance r33_Delay_sim (s0:GScript)(t0:Int)(from0:Int)(to0:Int):HE iav (r33_Delay s0 t0 from0 to0) 140 [GScript.av s0,iav t0,iav from0,iav to0]:=⟨by unfold r33_Delay;exact sa⟩
noncomputable def r34_Calm_0_step (i3:Int)(s2:GScript)(o2:List Int)(r4:Int)(x4:List Int)(x5:Int)(x6:Int)(x7:List Int)(x8:Int)(t2:GConf)(x9:Int):Option ((Int)⊕((Bool)⊕(Unit))):=
 if x9<x8 then
  (idx? x7 x9).bind fun z4=>
  (r33_Delay s2 i3 r4 z4).bind fun r5=>
  if r5<1 then
   some (.inr (.inl false))
  else
   if t2.D<r5 then
    some (.inr (.inl false))
   else
    some (.inl (wr (x9+1)))
 else
  some (.inr (.inr ()))
noncomputable def r34_Calm_0 (i3:Int)(s2:GScript)(o2:List Int)(r4:Int)(x4:List Int)(x5:Int)(x6:Int)(x7:List Int)(x8:Int)(t2:GConf)(x9:Int):Option ((Bool)⊕(Unit)):=
 loopO (fun s:Int=>r34_Calm_0_step i3 s2 o2 r4 x4 x5 x6 x7 x8 t2 s) x9
def r34_Calm_0_pre (i3:Int)(s2:GScript)(o2:List Int)(r4:Int)(x4:List Int)(x5:Int)(x6:Int)(x7:List Int)(x8:Int)(t2:GConf)(v:Int)(e:PF.St):Prop:=e=⟨[(1,iav i3),(2,.ept (GScript.cells s2) 0),(5,.ptr 105 0),(6,lav iav o2),(8,iav r4),(51,lav iav x4),(52,iav x5),(53,iav x6),(77,lav iav x7),(78,iav x8),(79,iav v)],[(105,⟨true,GConf.cells t2⟩)]⟩
instance r34_Calm_0_sim (i3:Int)(s2:GScript)(o2:List Int)(r4:Int)(x4:List Int)(x5:Int)(x6:Int)(x7:List Int)(x8:Int)(t2:GConf)(x9:Int):HL (r34_Calm_0 i3 s2 o2 r4 x4 x5 x6 x7 x8 t2 x9) LM ([1,2,5,6,8,51,52,53,77,78,79],[105],[1,2,4,5,6,51,52,53],B82_0) (r34_Calm_0_pre i3 s2 o2 r4 x4 x5 x6 x7 x8 t2 x9) (rS (rE fun r=>(Ex.ret,⟨[(1,iav i3),(2,.ept (GScript.cells s2) 0),(4,.bool r),(5,.ptr 105 0),(6,lav iav o2),(51,lav iav x4),(52,iav x5),(53,iav x6)],[(105,⟨true,GConf.cells t2⟩)]⟩)) (rE fun r=>((.exit 2),⟨[(1,iav i3),(2,.ept (GScript.cells s2) 0),(4,.undef),(5,.ptr 105 0),(6,lav iav o2),(51,lav iav x4),(52,iav x5),(53,iav x6)],[(105,⟨true,GConf.cells t2⟩)]⟩))):=by unfold r34_Calm_0 r34_Calm_0_step;exact lf
noncomputable def r34_Calm_1_step (i2:Int)(s0:GScript)(o0:List Int)(x0:List Int)(x2:Int)(t0:GConf)(x3:Int):Option ((Int)⊕((Bool)⊕(Unit))):=
 if x3<x2 then
  (idx? x0 x3).bind fun z3=>
  (r33_Units s0 i2 z3).bind fun r3=>
  if r3<(wr (t0.Rate-t0.Drift))then
   some (.inr (.inl false))
  else
   if(wr (t0.Rate+t0.Drift))<r3 then
    some (.inr (.inl false))
   else
    (r34_Calm_0 i2 s0 o0 z3 x0 x2 x3 o0 (List.length o0:Int) t0 0).bind fun r6=>
    Sum.elim
     (fun r7=>
       some (.inr (.inl r7)))
     (fun r8=>
       some (.inl (wr (x3+1))))
     r6
 else
  some (.inr (.inr ()))
noncomputable def r34_Calm_1 (i2:Int)(s0:GScript)(o0:List Int)(x0:List Int)(x2:Int)(t0:GConf)(x3:Int):Option ((Bool)⊕(Unit)):=
 loopO (fun s:Int=>r34_Calm_1_step i2 s0 o0 x0 x2 t0 s) x3
def r34_Calm_1_pre (i2:Int)(s0:GScript)(o0:List Int)(x0:List Int)(x2:Int)(t0:GConf)(v:Int)(e:PF.St):Prop:=e=⟨[(1,iav i2),(2,.ept (GScript.cells s0) 0),(5,.ptr 105 0),(6,lav iav o0),(51,lav iav x0),(52,iav x2),(53,iav v)],[(105,⟨true,GConf.cells t0⟩)]⟩
instance r34_Calm_1_sim (i2:Int)(s0:GScript)(o0:List Int)(x0:List Int)(x2:Int)(t0:GConf)(x3:Int):HL (r34_Calm_1 i2 s0 o0 x0 x2 t0 x3) LM ([1,2,5,6,51,52,53],[105],[4],B82_1) (r34_Calm_1_pre i2 s0 o0 x0 x2 t0 x3) (rS (rE fun r=>(Ex.ret,⟨[(4,.bool r)],[(105,⟨true,GConf.cells t0⟩)]⟩)) (rE fun r=>((.exit 0),⟨[(4,.undef)],[(105,⟨true,GConf.cells t0⟩)]⟩))):=by unfold r34_Calm_1 r34_Calm_1_step;exact lf
noncomputable def r34_Calm (L0:GScript)(i0:Int):Option Bool:=
 if i0<0 then
  some false
 else
  if(List.length L0.Ticks:Int)≤i0 then
   some false
  else
   (r03_Plain L0.Conf).bind fun r0=>
   if r0≠0 then
    some false
   else
    (idx? L0.Ticks i0).bind fun z0=>
    if 0<(List.length z0.Bursts:Int)then
     some false
    else
     (idx? L0.Ticks i0).bind fun z2=>
     if 0<(List.length z2.Strays:Int)then
      some false
     else
      (r33_Honest L0).bind fun r2=>
      (r34_Calm_1 i0 L0 r2 r2 (List.length r2:Int) L0.Conf 0).bind fun r9=>
      Sum.elim
       (fun r10=>
         some r10)
       (fun r11=>
         some true)
       r9
instance r34_Calm_sim (L0:GScript)(i0:Int):HE bav (r34_Calm L0 i0) 82 [GScript.av L0,iav i0]:=⟨by unfold r34_Calm;exact sa⟩
noncomputable def r34_Last_0_step (s2:GScript)(last:Int)(t0:Int):Option ((Int×Int)⊕Int):=
 if t0<(List.length s2.Ticks:Int)then
  (r34_Calm s2 t0).bind fun r2=>
  if(!r2)=true then
   some (.inl (t0,(wr (t0+1))))
  else
   some (.inl (last,(wr (t0+1))))
 else
  some (.inr last)
noncomputable def r34_Last_0 (s2:GScript)(last:Int)(t0:Int):Option Int:=
 loopO (fun s:Int×Int=>r34_Last_0_step s2 s.1 s.2) (last,t0)
def r34_Last_0_pre (s2:GScript)(v:Int×Int)(e:PF.St):Prop:=e=⟨[(1,.ept (GScript.cells s2) 0),(3,iav v.1),(4,iav v.2)],[]⟩
instance r34_Last_0_sim (s2:GScript)(last:Int)(t0:Int):HL (r34_Last_0 s2 last t0) LM ([1,3,4],[],[3],B38_0) (r34_Last_0_pre s2 (last,t0)) (rE fun r=>((.exit 0),⟨[(3,iav r)],[]⟩)):=by unfold r34_Last_0 r34_Last_0_step;exact lf
noncomputable def r34_Last (s0:GScript):Option Int:=
 (r33_Right s0).bind fun r0=>
 if r0≠0 then
  some (-1)
 else
  (r34_Last_0 s0 (-1) 0).bind fun r3=>
  some r3
instance r34_Last_sim (s0:GScript):HE iav (r34_Last s0) 38 [GScript.av s0]:=⟨by unfold r34_Last;exact sa⟩
noncomputable def r04_Settle (c0:GConf):Option Int:=
 (r03_Plain c0).bind fun r0=>
 if r0≠0 then
  some 0
 else
  (r03_Length c0).bind fun r2=>
  some (wr ((wr (1+(wr (4*r2))))+(wr (2*c0.Period))))
instance r04_Settle_sim (c0:GConf):HE iav (r04_Settle c0) 51 [GConf.av c0]:=⟨by unfold r04_Settle;exact sa⟩
noncomputable def r04_All (c0:GConf):Option Int:=
 (r03_Plain c0).bind fun r0=>
 if r0≠0 then
  some 0
 else
  (r04_Settle c0).bind fun r2=>
  some (wr (r2+(wr (4*c0.Period))))
instance r04_All_sim (c0:GConf):HE iav (r04_All c0) 56 [GConf.av c0]:=⟨by unfold r04_All;exact sa⟩
noncomputable def r34_All (s0:GScript):Option Int:=
 (r33_Right s0).bind fun r0=>
 if r0≠0 then
  some 0
 else
  (r34_Last s0).bind fun r2=>
  (r04_All s0.Conf).bind fun r3=>
  some (wr (r2+r3))
instance r34_All_sim (s0:GScript):HE iav (r34_All s0) 22 [GScript.av s0]:=⟨by unfold r34_All;exact sa⟩
noncomputable def r39_fits_0_step (rows2:List (List GReport))(s2:GScript)(t0:Int):Option ((Int)⊕((Bool)⊕(Unit))):=
 if t0<(List.length rows2:Int)then
  (idx? rows2 t0).bind fun z0=>
  if(List.length z0:Int)≠s2.Conf.N then
   some (.inr (.inl false))
  else
   some (.inl (wr (t0+1)))
 else
  some (.inr (.inr ()))
noncomputable def r39_fits_0 (rows2:List (List GReport))(s2:GScript)(t0:Int):Option ((Bool)⊕(Unit)):=
 loopO (fun s:Int=>r39_fits_0_step rows2 s2 s) t0
def r39_fits_0_pre (rows2:List (List GReport))(s2:GScript)(v:Int)(e:PF.St):Prop:=e=⟨[(1,lav (lav GReport.av) rows2),(2,.ept (GScript.cells s2) 0),(5,iav v)],[]⟩
instance r39_fits_0_sim (rows2:List (List GReport))(s2:GScript)(t0:Int):HL (r39_fits_0 rows2 s2 t0) LM ([1,2,5],[],[4],B37_0) (r39_fits_0_pre rows2 s2 t0) (rS (rE fun r=>(Ex.ret,⟨[(4,.bool r)],[]⟩)) (rE fun r=>((.exit 0),⟨[(4,.undef)],[]⟩))):=by unfold r39_fits_0 r39_fits_0_step;exact lf
noncomputable def r39_fits (s0:GScript)(rows:List (List GReport)):Option Bool:=
 if(List.length rows:Int)≠(List.length s0.Ticks:Int)then
  some false
 else
  (r39_fits_0 rows s0 0).bind fun r0=>
  Sum.elim
   (fun r2=>
     some r2)
   (fun r3=>
     some true)
   r0
instance r39_fits_sim (s0:GScript)(rows:List (List GReport)):HE bav (r39_fits s0 rows) 37 [GScript.av s0,lav (lav GReport.av) rows]:=⟨by unfold r39_fits;exact sa⟩
noncomputable def r36_Got_0_step (rows2:List (List GReport))(node2:Int)(to2:Int)(out:List GDeliver)(t0:Int):Option (((List GDeliver)×Int)⊕((List GDeliver))):=
 if t0<to2 then
  if t0<(List.length rows2:Int)then
   (r36_At rows2 t0 node2).bind fun r0=>
   if List.length out+List.length r0.Got≤lenMax then
    some (.inl ((out++r0.Got),(wr (t0+1))))
   else none
  else
   some (.inr out)
 else
  some (.inr out)
noncomputable def r36_Got_0 (rows2:List (List GReport))(node2:Int)(to2:Int)(out:List GDeliver)(t0:Int):Option ((List GDeliver)):=
 loopO (fun s:(List GDeliver)×Int=>r36_Got_0_step rows2 node2 to2 s.1 s.2) (out,t0)
def r36_Got_0_pre (rows2:List (List GReport))(node2:Int)(to2:Int)(v:(List GDeliver)×Int)(e:PF.St):Prop:= ∃g0,e=⟨[(0,lav (lav GReport.av) rows2),(1,iav node2),(3,iav to2),(9,.lst g0 (List.map GDeliver.av v.1)),(10,iav v.2)],[]⟩∧Mg 4 g0
instance r36_Got_0_sim (rows2:List (List GReport))(node2:Int)(to2:Int)(out:List GDeliver)(t0:Int):HL (r36_Got_0 rows2 node2 to2 out t0) LM ([0,1,3,9,10],[],[9],B44_0) (r36_Got_0_pre rows2 node2 to2 (out,t0)) (fun r (q:Ex×PF.St)=> ∃g0',q=((.exit 0),⟨[(9,.lst g0' (List.map GDeliver.av r))],[]⟩)∧Mg 4 g0'):=by
 refine lv (r36_Got_0_pre rows2 node2 to2) _ fun S hS hw hw8 R hR=> ?_
 rintro⟨out,t0⟩ env hp ⟨g0,he,hg0⟩
 cases he
 show Sim (r36_Got_0_step rows2 node2 to2 out t0) _ _
 unfold r36_Got_0_step
 simp only[hw]
 refine au (.ite Iff.rfl (fun hc=> ?_) fun hc=> ?_)
 ·refine au ?_
  refine Sim.ki hS (m:=(List.length rows2:Int)) (by simp) ?_
  refine au (.ite Iff.rfl (fun hc2=> ?_) fun hc2=> ?_)
  ·refine au (.hc hR ?_)
   rintro r0 q rfl
   refine au ?_
   first|(refine Sim.goB (may_map (by intro _;rfl) hg0 _) ?_)|skip
   refine au ?_
   first|(refine Sim.goB (okE_map (by intro _;exact⟨rfl,rfl,rfl⟩) _) ?_)|skip
   refine au ?_
   first|refine Sim.ite (by simp) (fun _=> ?_) (fun _=>Sim.no)|refine Sim.guard (fun _=> ?_)
   exact fin
  ·exact fin
 ·exact fin
noncomputable def r36_Got (rows:List (List GReport))(node:Int)(from0:Int)(to0:Int):Option ((List GDeliver)):=
 (r36_Got_0 rows node to0 ([]:List GDeliver) (max from0 0)).bind fun r2=>
 some r2
instance r36_Got_sim (rows:List (List GReport))(node:Int)(from0:Int)(to0:Int):HE (lav GDeliver.av) (r36_Got rows node from0 to0) 44 [lav (lav GReport.av) rows,iav node,iav from0,iav to0]:=⟨by unfold r36_Got;exact sa⟩
noncomputable def r39_Rounds_0_step (i3:List (List GReport))(s2:GScript)(t2:Int)(o2:List GRound)(A2:List Int)(r7:Int)(a0:Int)(r8:GRound):Option ((Int×GRound)⊕GRound):=
 if a0<s2.Conf.N then
  (r33_Faulty s2 a0).bind fun r9=>
  if r9=true then
   if List.length r8.Lines+List.length [([]:List UInt8)]≤lenMax then
    if List.length r8.Got+List.length [([]:List GDeliver)]≤lenMax then
     some (.inl ((wr (a0+1)),(GRound.mk r8.Number r8.Members (r8.Lines++[([]:List UInt8)]) (r8.Got++[([]:List GDeliver)]))))
    else none
   else none
  else
   (idx? A2 r7).bind fun z8=>
   (r39_Said s2 a0 z8).bind fun r10=>
   if List.length r8.Lines+List.length [r10]≤lenMax then
    (idx? A2 r7).bind fun z9=>
    (idx? A2 r7).bind fun z10=>
    (r36_Got i3 a0 z9 (wr (z10+s2.Conf.Period))).bind fun r11=>
    if List.length r8.Got+List.length [r11]≤lenMax then
     some (.inl ((wr (a0+1)),(GRound.mk r8.Number r8.Members (r8.Lines++[r10]) (r8.Got++[r11]))))
    else none
   else none
 else
  some (.inr r8)
noncomputable def r39_Rounds_0 (i3:List (List GReport))(s2:GScript)(t2:Int)(o2:List GRound)(A2:List Int)(r7:Int)(a0:Int)(r8:GRound):Option GRound:=
 loopO (fun s:Int×GRound=>r39_Rounds_0_step i3 s2 t2 o2 A2 r7 s.1 s.2) (a0,r8)
def r39_Rounds_0_pre (i3:List (List GReport))(s2:GScript)(t2:Int)(o2:List GRound)(A2:List Int)(r7:Int)(v:Int×GRound)(e:PF.St):Prop:= ∃g2,∃g3,∃g4,e=⟨[(1,lav (lav GReport.av) i3),(2,.ept (GScript.cells s2) 0),(5,iav t2),(6,.lst g2 (List.map GRound.av o2)),(7,lav iav A2),(8,iav r7),(9,.ptr 109 0),(10,iav v.1)],[(109,⟨true,[iav v.2.Number,.str v.2.Members,.lst g3 (List.map sav v.2.Lines),.lst g4 (List.map (lav GDeliver.av) v.2.Got)]⟩)]⟩∧Mg 4 g2∧Mg 1 g3∧Mg 1 g4
instance r39_Rounds_0_sim (i3:List (List GReport))(s2:GScript)(t2:Int)(o2:List GRound)(A2:List Int)(r7:Int)(a0:Int)(r8:GRound):HL (r39_Rounds_0 i3 s2 t2 o2 A2 r7 a0 r8) LM ([1,2,5,6,7,8,9,10],[109],[1,2,5,6,7,8,9],B12_0) (r39_Rounds_0_pre i3 s2 t2 o2 A2 r7 (a0,r8)) (fun r (q:Ex×PF.St)=> ∃g0',∃g1',∃g2',q=((.exit 2),⟨[(1,lav (lav GReport.av) i3),(2,.ept (GScript.cells s2) 0),(5,iav t2),(6,.lst g0' (List.map GRound.av o2)),(7,lav iav A2),(8,iav r7),(9,.ptr 109 0)],[(109,⟨true,[iav r.Number,.str r.Members,.lst g1' (List.map sav r.Lines),.lst g2' (List.map (lav GDeliver.av) r.Got)]⟩)]⟩)∧Mg 4 g0'∧Mg 1 g1'∧Mg 1 g2'):=by
 refine lv (r39_Rounds_0_pre i3 s2 t2 o2 A2 r7) _ fun S hS hw hw8 R hR=> ?_
 rintro⟨a0,r8⟩ env hp ⟨g2,g3,g4,he,hg2,hg3,hg4⟩
 cases he
 show Sim (r39_Rounds_0_step i3 s2 t2 o2 A2 r7 a0 r8) _ _
 unfold r39_Rounds_0_step
 simp only[hw]
 refine au (.ite Iff.rfl (fun hc4=> ?_) fun hc4=> ?_)
 ·refine au (.hc hR ?_)
  rintro r9 q rfl
  refine au (.iteB (fun hc5=> ?_) fun hc5=> ?_)
  ·refine au ?_
   refine Sim.kl hS rfl ?_
   refine au ?_
   refine Sim.kl hS (ys:=List.map sav [([]:List UInt8)]) rfl ?_
   refine au ?_
   first|(refine Sim.goB (may_map (by intro _;rfl) hg3 _) ?_)|skip
   refine au ?_
   first|(refine Sim.goB (okE_map (by intro _;exact⟨rfl,rfl,rfl⟩) _) ?_)|skip
   refine au ?_
   first|refine Sim.ite (by simp) (fun _=> ?_) (fun _=>Sim.no)|refine Sim.guard (fun _=> ?_)
   refine au ?_
   refine Sim.kl hS (ys:=List.map sav (r8.Lines++[([]:List UInt8)])) (by simp) ?_
   refine au ?_
   refine Sim.kl hS rfl ?_
   refine au ?_
   refine Sim.kl hS (ys:=List.map (lav GDeliver.av) [([]:List GDeliver)]) rfl ?_
   refine au ?_
   first|(refine Sim.goB (may_map (by intro _;rfl) hg4 _) ?_)|skip
   refine au ?_
   first|(refine Sim.goB (okE_map (by intro _;exact⟨rfl,rfl,rfl⟩) _) ?_)|skip
   refine au ?_
   first|refine Sim.ite (by simp) (fun _=> ?_) (fun _=>Sim.no)|refine Sim.guard (fun _=> ?_)
   refine au ?_
   refine Sim.kl hS (ys:=List.map (lav GDeliver.av) (r8.Got++[([]:List GDeliver)])) (by simp) ?_
   exact fin
  ·refine au ?_
   refine Sim.kl hS rfl ?_
   refine au ?_
   refine Sim.ix (by simp) (fun z8 hz8=> ?_)
   refine au ?_
   refine Sim.go (idx_map _ hz8) ?_
   refine au (.hc hR ?_)
   rintro r10 q rfl
   refine au ?_
   refine Sim.kl hS (ys:=List.map sav [r10]) rfl ?_
   refine au ?_
   first|(refine Sim.goB (may_map (by intro _;rfl) hg3 _) ?_)|skip
   refine au ?_
   first|(refine Sim.goB (okE_map (by intro _;exact⟨rfl,rfl,rfl⟩) _) ?_)|skip
   refine au ?_
   first|refine Sim.ite (by simp) (fun _=> ?_) (fun _=>Sim.no)|refine Sim.guard (fun _=> ?_)
   refine au ?_
   refine Sim.kl hS (ys:=List.map sav (r8.Lines++[r10])) (by simp) ?_
   refine au ?_
   refine Sim.kl hS rfl ?_
   refine au ?_
   refine Sim.ix (by simp) (fun z9 hz9=> ?_)
   refine au ?_
   refine Sim.go (idx_map _ hz9) ?_
   refine au ?_
   refine Sim.ix (by simp) (fun z10 hz10=> ?_)
   refine au ?_
   refine Sim.go (idx_map _ hz10) ?_
   refine au (.hc hR ?_)
   rintro r11 q rfl
   refine au ?_
   refine Sim.kl hS (ys:=List.map (lav GDeliver.av) [r11]) rfl ?_
   refine au ?_
   first|(refine Sim.goB (may_map (by intro _;rfl) hg4 _) ?_)|skip
   refine au ?_
   first|(refine Sim.goB (okE_map (by intro _;exact⟨rfl,rfl,rfl⟩) _) ?_)|skip
   refine au ?_
   first|refine Sim.ite (by simp) (fun _=> ?_) (fun _=>Sim.no)|refine Sim.guard (fun _=> ?_)
   refine au ?_
   refine Sim.kl hS (ys:=List.map (lav GDeliver.av) (r8.Got++[r11])) (by simp) ?_
   exact fin
 ·exact fin
noncomputable def r39_Rounds_1_step (i2:List (List GReport))(s0:GScript)(t0:Int)(A0:List Int)(o0:List GRound)(r6:Int):Option (((List GRound)×Int)⊕((List GRound))):=
 if r6<(List.length A0:Int)then
  (idx? A0 r6).bind fun z2=>
  (idx? i2 z2).bind fun z3=>
  (idx? z3 t0).bind fun z4=>
  (idx? A0 r6).bind fun z5=>
  (idx? i2 z5).bind fun z6=>
  (idx? z6 t0).bind fun z7=>
  (r39_Rounds_0 i2 s0 t0 o0 A0 r6 0 (GRound.mk z4.Number z7.Members ([]:List (List UInt8)) ([]:List (List GDeliver)))).bind fun r12=>
  if List.length o0+List.length [r12]≤lenMax then
   some (.inl ((o0++[r12]),(wr (r6+1))))
  else none
 else
  some (.inr o0)
noncomputable def r39_Rounds_1 (i2:List (List GReport))(s0:GScript)(t0:Int)(A0:List Int)(o0:List GRound)(r6:Int):Option ((List GRound)):=
 loopO (fun s:(List GRound)×Int=>r39_Rounds_1_step i2 s0 t0 A0 s.1 s.2) (o0,r6)
def r39_Rounds_1_pre (i2:List (List GReport))(s0:GScript)(t0:Int)(A0:List Int)(v:(List GRound)×Int)(e:PF.St):Prop:= ∃g0,e=⟨[(1,lav (lav GReport.av) i2),(2,.ept (GScript.cells s0) 0),(5,iav t0),(6,.lst g0 (List.map GRound.av v.1)),(7,lav iav A0),(8,iav v.2)],[]⟩∧Mg 4 g0
instance r39_Rounds_1_sim (i2:List (List GReport))(s0:GScript)(t0:Int)(A0:List Int)(o0:List GRound)(r6:Int):HL (r39_Rounds_1 i2 s0 t0 A0 o0 r6) LM ([1,2,5,6,7,8],[],[6],B12_1) (r39_Rounds_1_pre i2 s0 t0 A0 (o0,r6)) (fun r (q:Ex×PF.St)=> ∃g0',q=((.exit 0),⟨[(6,.lst g0' (List.map GRound.av r))],[]⟩)∧Mg 4 g0'):=by
 refine lv (r39_Rounds_1_pre i2 s0 t0 A0) _ fun S hS hw hw8 R hR=> ?_
 rintro⟨o0,r6⟩ env hp ⟨g0,he,hg0⟩
 cases he
 show Sim (r39_Rounds_1_step i2 s0 t0 A0 o0 r6) _ _
 unfold r39_Rounds_1_step
 simp only[hw]
 refine au ?_
 refine Sim.ki hS (m:=(List.length A0:Int)) (by simp) ?_
 refine au (.ite Iff.rfl (fun hc3=> ?_) fun hc3=> ?_)
 ·refine au ?_
  refine Sim.ix (by simp) (fun z2 hz2=> ?_)
  refine au ?_
  refine Sim.go (idx_map _ hz2) ?_
  refine au ?_
  refine Sim.ix (by simp) (fun z3 hz3=> ?_)
  refine au ?_
  refine Sim.go (idx_map _ hz3) ?_
  refine au ?_
  refine Sim.ix (by simp) (fun z4 hz4=> ?_)
  refine au ?_
  refine Sim.go (idx_map _ hz4) ?_
  refine au ?_
  refine Sim.ix (by simp) (fun z5 hz5=> ?_)
  refine au ?_
  refine Sim.go (idx_map _ hz5) ?_
  refine au ?_
  refine Sim.ix (by simp) (fun z6 hz6=> ?_)
  refine au ?_
  refine Sim.go (idx_map _ hz6) ?_
  refine au ?_
  refine Sim.ix (by simp) (fun z7 hz7=> ?_)
  refine au ?_
  refine Sim.go (idx_map _ hz7) ?_
  refine au ?_
  refine Sim.hl hR kp pz ?_
  rintro r12 q ⟨g5,g6,g7,rfl,hg5,hg6,hg7⟩
  refine au ?_
  refine Sim.kl hS (ys:=List.map GRound.av [r12]) rfl ?_
  refine au ?_
  first|(refine Sim.goB (may_map (by intro _;rfl) hg5 _) ?_)|skip
  refine au ?_
  first|(refine Sim.goB (okE_map (by intro _;exact⟨rfl,rfl,rfl⟩) _) ?_)|skip
  refine au ?_
  first|refine Sim.ite (by simp) (fun _=> ?_) (fun _=>Sim.no)|refine Sim.guard (fun _=> ?_)
  exact fin
 ·exact fin
noncomputable def r39_Rounds (L0:GScript)(i0:List (List GReport)):Option ((List GRound)):=
 (r34_Holds L0).bind fun r0=>
 if r0≠0 then
  some ([]:List GRound)
 else
  (r39_fits L0 i0).bind fun r2=>
  if(!r2)=true then
   some ([]:List GRound)
  else
   (r33_Honest L0).bind fun r3=>
   (idx? r3 0).bind fun z0=>
   (r34_All L0).bind fun r4=>
   (r37_Starts L0.Conf i0 z0 r4).bind fun r5=>
   (r39_Rounds_1 i0 L0 z0 r5 ([]:List GRound) 0).bind fun r13=>
   some r13
instance r39_Rounds_sim (L0:GScript)(i0:List (List GReport)):HE (lav GRound.av) (r39_Rounds L0 i0) 12 [GScript.av L0,lav (lav GReport.av) i0]:=⟨by unfold r39_Rounds;exact sa⟩
noncomputable def r24_Same_0_step (a2:List GDeliver)(b2:List GDeliver)(i0:Int):Option ((Int)⊕((Bool)⊕(Unit))):=
 if i0<(List.length a2:Int)then
  (idx? a2 i0).bind fun z0=>
  (idx? b2 i0).bind fun z2=>
  if(!(decide (z0.From=z2.From)&&(decide (z0.Slot=z2.Slot)&&(decide (z0.Cycle=z2.Cycle)&&(decide (z0.Text=z2.Text)&&true)))))=true then
   some (.inr (.inl false))
  else
   some (.inl (wr (i0+1)))
 else
  some (.inr (.inr ()))
noncomputable def r24_Same_0 (a2:List GDeliver)(b2:List GDeliver)(i0:Int):Option ((Bool)⊕(Unit)):=
 loopO (fun s:Int=>r24_Same_0_step a2 b2 s) i0
def r24_Same_0_pre (a2:List GDeliver)(b2:List GDeliver)(v:Int)(e:PF.St):Prop:=e=⟨[(0,lav GDeliver.av a2),(1,lav GDeliver.av b2),(5,iav v)],[]⟩
instance r24_Same_0_sim (a2:List GDeliver)(b2:List GDeliver)(i0:Int):HL (r24_Same_0 a2 b2 i0) LM ([0,1,5],[],[4],B49_0) (r24_Same_0_pre a2 b2 i0) (rS (rE fun r=>(Ex.ret,⟨[(4,.bool r)],[]⟩)) (rE fun r=>((.exit 0),⟨[(4,.undef)],[]⟩))):=by unfold r24_Same_0 r24_Same_0_step;exact lf
noncomputable def r24_Same (a0:List GDeliver)(b0:List GDeliver):Option Bool:=
 if(List.length a0:Int)≠(List.length b0:Int)then
  some false
 else
  (r24_Same_0 a0 b0 0).bind fun r0=>
  Sum.elim
   (fun r2=>
     some r2)
   (fun r3=>
     some true)
   r0
instance r24_Same_sim (a0:List GDeliver)(b0:List GDeliver):HE bav (r24_Same a0 b0) 49 [lav GDeliver.av a0,lav GDeliver.av b0]:=⟨by unfold r24_Same;exact sa⟩
noncomputable def r38_Same_0_step (s0:GRound)(t0:GRound)(t2:Int):Option ((Int)⊕((Bool)⊕(Unit))):=
 if t2<(List.length s0.Lines:Int)then
  (idx? s0.Lines t2).bind fun z0=>
  (idx? t0.Lines t2).bind fun z2=>
  if z0≠z2 then
   some (.inr (.inl false))
  else
   some (.inl (wr (t2+1)))
 else
  some (.inr (.inr ()))
noncomputable def r38_Same_0 (s0:GRound)(t0:GRound)(t2:Int):Option ((Bool)⊕(Unit)):=
 loopO (fun s:Int=>r38_Same_0_step s0 t0 s) t2
def r38_Same_0_pre (s0:GRound)(t0:GRound)(v:Int)(e:PF.St):Prop:=e=⟨[(2,.ept (GRound.cells s0) 0),(3,.ept (GRound.cells t0) 0),(5,iav v)],[]⟩
instance r38_Same_0_sim (s0:GRound)(t0:GRound)(t2:Int):HL (r38_Same_0 s0 t0 t2) LM ([2,3,5],[],[2,3,4],B15_0) (r38_Same_0_pre s0 t0 t2) (rS (rE fun r=>(Ex.ret,⟨[(2,.ept (GRound.cells s0) 0),(3,.ept (GRound.cells t0) 0),(4,.bool r)],[]⟩)) (rE fun r=>((.exit 0),⟨[(2,.ept (GRound.cells s0) 0),(3,.ept (GRound.cells t0) 0),(4,.undef)],[]⟩))):=by unfold r38_Same_0 r38_Same_0_step;exact lf
noncomputable def r38_Same_1_step (s2:GRound)(t3:GRound)(o0:Int):Option ((Int)⊕((Bool)⊕(Unit))):=
 if o0<(List.length s2.Got:Int)then
  (idx? s2.Got o0).bind fun z3=>
  (idx? t3.Got o0).bind fun z4=>
  (r24_Same z3 z4).bind fun r4=>
  if(!r4)=true then
   some (.inr (.inl false))
  else
   some (.inl (wr (o0+1)))
 else
  some (.inr (.inr ()))
noncomputable def r38_Same_1 (s2:GRound)(t3:GRound)(o0:Int):Option ((Bool)⊕(Unit)):=
 loopO (fun s:Int=>r38_Same_1_step s2 t3 s) o0
def r38_Same_1_pre (s2:GRound)(t3:GRound)(v:Int)(e:PF.St):Prop:=e=⟨[(2,.ept (GRound.cells s2) 0),(3,.ept (GRound.cells t3) 0),(6,iav v)],[]⟩
instance r38_Same_1_sim (s2:GRound)(t3:GRound)(o0:Int):HL (r38_Same_1 s2 t3 o0) LM ([2,3,6],[],[4],B15_1) (r38_Same_1_pre s2 t3 o0) (rS (rE fun r=>(Ex.ret,⟨[(4,.bool r)],[]⟩)) (rE fun r=>((.exit 2),⟨[(4,.undef)],[]⟩))):=by unfold r38_Same_1 r38_Same_1_step;exact lf
noncomputable def r38_Same (L0:GRound)(i0:GRound):Option Bool:=
 if L0.Number≠i0.Number then
  some false
 else
  if L0.Members≠i0.Members then
   some false
  else
   if(List.length L0.Lines:Int)≠(List.length i0.Lines:Int)then
    some false
   else
    if(List.length L0.Got:Int)≠(List.length i0.Got:Int)then
     some false
    else
     (r38_Same_0 L0 i0 0).bind fun r0=>
     Sum.elim
      (fun r2=>
        some r2)
      (fun r3=>
        (r38_Same_1 L0 i0 0).bind fun r5=>
        Sum.elim
         (fun r6=>
           some r6)
         (fun r7=>
           some true)
         r5)
      r0
instance r38_Same_sim (L0:GRound)(i0:GRound):HE bav (r38_Same L0 i0) 15 [GRound.av L0,GRound.av i0]:=⟨by unfold r38_Same;exact sa⟩
noncomputable def l39_JudgeRounds_0_step (a0:List GRound)(b0:List GRound)(i0:Int):Option ((Int)⊕((Bool)⊕(Unit))):=
 if i0<(List.length a0:Int)then
  (idx? a0 i0).bind fun z0=>
  (idx? b0 i0).bind fun z2=>
  (r38_Same z0 z2).bind fun r7=>
  if(!r7)=true then
   some (.inr (.inl false))
  else
   some (.inl (wr (i0+1)))
 else
  some (.inr (.inr ()))
noncomputable def l39_JudgeRounds_0 (a0:List GRound)(b0:List GRound)(i0:Int):Option ((Bool)⊕(Unit)):=
 loopO (fun s:Int=>l39_JudgeRounds_0_step a0 b0 s) i0
def l39_JudgeRounds_0_pre (a0:List GRound)(b0:List GRound)(v:Int)(e:PF.St):Prop:=e=⟨[(9,lav GRound.av a0),(10,lav GRound.av b0),(11,iav v)],[]⟩
instance l39_JudgeRounds_0_sim (a0:List GRound)(b0:List GRound)(i0:Int):HL (l39_JudgeRounds_0 a0 b0 i0) LM ([9,10,11],[],[8],B4_0) (l39_JudgeRounds_0_pre a0 b0 i0) (rS (rE fun r=>(Ex.ret,⟨[(8,.bool r)],[]⟩)) (rE fun r=>((.exit 0),⟨[(8,.undef)],[]⟩))):=by unfold l39_JudgeRounds_0 l39_JudgeRounds_0_step;exact lf
noncomputable def l39_JudgeRounds (s0:GScript)(rows:List (List GReport))(node:Int)(t0:Int):Option Bool:=
 (l39_few s0 rows).bind fun r0=>
 if(!r0)=true then
  (l39_known).bind fun r2=>
  some r2
 else
  (judge_Rounds s0 rows).bind fun r3=>
  (r39_Rounds s0 rows).bind fun r4=>
  if(List.length r3:Int)≠(List.length r4:Int)then
   some false
  else
   (judge_Said s0 node t0).bind fun r5=>
   (r39_Said s0 node t0).bind fun r6=>
   if r5≠r6 then
    some false
   else
    (l39_JudgeRounds_0 r3 r4 0).bind fun r8=>
    Sum.elim
     (fun r9=>
       some r9)
     (fun r10=>
       (l39_known).bind fun r11=>
       some r11)
     r8
instance l39_JudgeRounds_sim (s0:GScript)(rows:List (List GReport))(node:Int)(t0:Int):HE bav (l39_JudgeRounds s0 rows node t0) 4 [GScript.av s0,lav (lav GReport.av) rows,iav node,iav t0]:=⟨by unfold l39_JudgeRounds;exact sa⟩
end Go.Proofs.YtaoijbibmcgdaaaGreat
