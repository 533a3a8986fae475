/-
  The program's functions as plain functions (printed by a program of mine), each beside the machine's.
-/
import Derived.Test.YtaoijbibmcgdaaaGreatDa
import Derived.Test.YtaoijbibmcgdaaaGreatFm
import Derived.Test.YtaoijbibmcgdaaaGreatPFe
set_option linter.unusedVariables false
set_option linter.unusedSimpArgs false
set_option maxRecDepth 100000
set_option maxHeartbeats 4000000
namespace Go.Proofs.YtaoijbibmcgdaaaGreat
open Go.Proofs.PF
instance r33_Right_0_sim (i0:GScript)(t0:Int):HL (r33_Right_0 i0 t0) LM ([1,3],[],[1,2],B50_0) (r33_Right_0_pre i0 t0) (rS (rE fun r=>(Ex.ret,⟨[(1,.ept (GScript.cells i0) 0),(2,iav r)],[]⟩)) (rE fun r=>((.exit 0),⟨[(1,.ept (GScript.cells i0) 0),(2,.undef)],[]⟩))):=by
 refine lv (r33_Right_0_pre i0) _ fun S hS hw hw8 R hR=> ?_
 rintro t0 env hp he
 cases he
 show Sim (r33_Right_0_step i0 t0) _ _
 unfold r33_Right_0_step
 simp only[hw]
 refine au ?_
 refine Sim.ki hS (m:=(List.length i0.Faulty:Int)) (by simp) ?_
 refine au (.ite Iff.rfl (fun hc2=> ?_) fun hc2=> ?_)
 ·refine au ?_
  refine Sim.ix (by simp) (fun z0 hz0=> ?_)
  refine au ?_
  refine Sim.go (idx_map _ hz0) ?_
  refine au (.hc hR ?_)
  rintro r3 q rfl
  refine au (.iteB (fun hc3=> ?_) fun hc3=> ?_)
  ·exact fin
  ·refine au ?_
   first|(refine Sim.goB (headE_map (by intro _;rfl) _) ?_)|skip
   refine au ?_
   refine Sim.kn hS (m:=(List.length i0.Faulty)) (by simp) ?_
   refine au ?_
   first|refine Sim.ite Iff.rfl (fun _=> ?_) (fun _=>Sim.no)|refine Sim.guard (fun _=> ?_)
   refine au ?_
   refine Sim.kl hS (ys:=List.map iav (List.take (Int.toNat t0) i0.Faulty)) (by simp only[PF.cut,List.map_drop,List.map_take]) ?_
   exact fin
 ·exact fin
noncomputable def r33_Right_1_step (i2:GScript)(x0:Int):Option ((Int)⊕((Int)⊕(Unit))):=
 if x0<(List.length i2.Images:Int)then
  (idx? i2.Images x0).bind fun z3=>
  if 8000<(List.length z3:Int)then
   some (.inr (.inl 6))
  else
   some (.inl (wr (x0+1)))
 else
  some (.inr (.inr ()))
noncomputable def r33_Right_1 (i2:GScript)(x0:Int):Option ((Int)⊕(Unit)):=
 loopO (fun s:Int=>r33_Right_1_step i2 s) x0
def r33_Right_1_pre (i2:GScript)(v:Int)(e:PF.St):Prop:=e=⟨[(1,.ept (GScript.cells i2) 0),(4,iav v)],[]⟩
instance r33_Right_1_sim (i2:GScript)(x0:Int):HL (r33_Right_1 i2 x0) LM ([1,4],[],[1,2],B50_1) (r33_Right_1_pre i2 x0) (rS (rE fun r=>(Ex.ret,⟨[(1,.ept (GScript.cells i2) 0),(2,iav r)],[]⟩)) (rE fun r=>((.exit 2),⟨[(1,.ept (GScript.cells i2) 0),(2,.undef)],[]⟩))):=by unfold r33_Right_1 r33_Right_1_step;exact lf
noncomputable def r33_Right_2_step (i3:GScript)(t2:Int):Option ((Int)⊕((Int)⊕(Unit))):=
 if t2<(List.length i3.Ticks:Int)then
  (idx? i3.Ticks t2).bind fun z4=>
  (r33_tick i3.Conf z4).bind fun r11=>
  if r11≠0 then
   some (.inr (.inl r11))
  else
   some (.inl (wr (t2+1)))
 else
  some (.inr (.inr ()))
noncomputable def r33_Right_2 (i3:GScript)(t2:Int):Option ((Int)⊕(Unit)):=
 loopO (fun s:Int=>r33_Right_2_step i3 s) t2
def r33_Right_2_pre (i3:GScript)(v:Int)(e:PF.St):Prop:=e=⟨[(1,.ept (GScript.cells i3) 0),(5,iav v)],[]⟩
instance r33_Right_2_sim (i3:GScript)(t2:Int):HL (r33_Right_2 i3 t2) LM ([1,5],[],[2],B50_2) (r33_Right_2_pre i3 t2) (rS (rE fun r=>(Ex.ret,⟨[(2,iav r)],[]⟩)) (rE fun r=>((.exit 4),⟨[(2,.undef)],[]⟩))):=by unfold r33_Right_2 r33_Right_2_step;exact lf
noncomputable def r33_Right (L0:GScript):Option Int:=
 (r04_Right L0.Conf).bind fun r0=>
 if r0≠0 then
  (r04_Right L0.Conf).bind fun r2=>
  some r2
 else
  (r33_Right_0 L0 0).bind fun r5=>
  Sum.elim
   (fun r6=>
     some r6)
   (fun r7=>
     if L0.Conf.N<(List.length L0.Images:Int)then
      some 6
     else
      if 2000<(List.length L0.Ticks:Int)then
       some 6
      else
       (r33_Right_1 L0 0).bind fun r8=>
       Sum.elim
        (fun r9=>
          some r9)
        (fun r10=>
          (r33_Right_2 L0 0).bind fun r12=>
          Sum.elim
           (fun r13=>
             some r13)
           (fun r14=>
             some 0)
           r12)
        r8)
   r5
instance r33_Right_sim (L0:GScript):HE iav (r33_Right L0) 50 [GScript.av L0]:=⟨by unfold r33_Right;exact sa⟩
noncomputable def r34_Holds (s0:GScript):Option Int:=
 (r33_Right s0).bind fun r0=>
 if r0≠0 then
  (r33_Right s0).bind fun r2=>
  some r2
 else
  if s0.Conf.F<(List.length s0.Faulty:Int)then
   some 7
  else
   some 0
instance r34_Holds_sim (s0:GScript):HE iav (r34_Holds s0) 16 [GScript.av s0]:=⟨by unfold r34_Holds;exact sa⟩
noncomputable def r33_Faulty (s0:GScript)(n0:Int):Option Bool:=
 (r14_In s0.Faulty n0).bind fun r0=>
 some r0
instance r33_Faulty_sim (s0:GScript)(n0:Int):HE bav (r33_Faulty s0 n0) 18 [GScript.av s0,iav n0]:=⟨by unfold r33_Faulty;exact sa⟩
noncomputable def l39_turned (rows:List (List GReport))(t0:Int)(node:Int)(r0:GReport):Option ((List (List GReport))):=
 if List.length ([]:List (Gr×List GReport))+List.length rows≤lenMax then
  (idx? rows t0).bind fun z0=>
  if List.length ([]:List GReport_g)+List.length z0≤lenMax then
   if 0≤node∧node<(((List.length (([]:List GReport_g)++(List.map GReport_g.up z0))):Nat):Int)then
    (mod? (([]:List GReport_g)++(List.map GReport_g.up z0)) (Int.toNat node) (fun _=>(GReport_g.mk r0.Pulse r0.Sync r0.Number r0.Slot r0.Members r0.Sent (Gr.no,r0.Got)))).bind fun l0=>
    (sub? l0 0 (List.length l0)).bind fun l2=>
    if 0≤t0∧t0<(((List.length (([]:List (Gr×List GReport))++(List.map (fun x=>(Gr.no,x)) rows))):Nat):Int)then
     (mod? (([]:List (Gr×List GReport))++(List.map (fun x=>(Gr.no,x)) rows)) (Int.toNat t0) (fun _=>(Gr.no,(List.map GReport_g.pl l2)))).bind fun l3=>
     (sub? l3 0 (List.length l3)).bind fun l4=>
     some (List.map Prod.snd l4)
    else none
   else none
  else none
 else none
instance l39_turned_sim (rows:List (List GReport))(t0:Int)(node:Int)(r0:GReport):HS (l39_turned rows t0 node r0) (LM.call 19 [lav (lav GReport.av) rows,iav t0,iav node,GReport.av r0] []) fun r q=>q=(lav (lav GReport.av) r,[]):=⟨by
 unfold l39_turned
 refine sv fun S hS hw hw8 R hR=> ?_
 refine au ?_
 first|(refine Sim.goB (decide_eq_true (len_map1 _)) ?_)|skip
 refine au ?_
 first|(refine Sim.goB (okE_map (by intro _;exact⟨rfl,rfl,rfl⟩) _) ?_)|skip
 refine au ?_
 first|refine Sim.ite (by simp) (fun _=> ?_) (fun _=>Sim.no)|refine Sim.guard (fun _=> ?_)
 refine au ?_
 first|(refine Sim.goB (noRef_cons rfl (noRef_nil _)) ?_)|skip
 refine au ?_
 first|(refine Sim.goB rfl ?_)|skip
 refine au ?_
 refine Sim.kl hS (ys:=(List.map (glv GReport.av) (([]:List (Gr×List GReport))++(List.map (fun x=>(Gr.no,x)) rows)))) (by exact app_mapU (f:=(glv GReport.av)) (g:=(lav GReport.av)) (fun x=>(Gr.no,x)) (by intro _;rfl) ([]:List (Gr×List GReport)) rows) ?_
 refine au ?_
 refine Sim.kn hS (m:=List.length (([]:List (Gr×List GReport))++(List.map (fun x=>(Gr.no,x)) rows))) (by simp) ?_
 refine au ?_
 refine Sim.ix (by simp) (fun z0 hz0=> ?_)
 refine au ?_
 refine Sim.go (idx_map _ hz0) ?_
 refine au ?_
 first|(refine Sim.goB (decide_eq_true (fm_len (fun _=>rfl) _)) ?_)|skip
 refine au ?_
 first|(refine Sim.goB (okE_map (by intro _;exact⟨rfl,rfl,rfl⟩) _) ?_)|skip
 refine au ?_
 first|refine Sim.ite (by simp) (fun _=> ?_) (fun _=>Sim.no)|refine Sim.guard (fun _=> ?_)
 refine au ?_
 first|(refine Sim.goB (noRef_cons rfl (noRef_flat (Flat.map (fun _=>rfl) _) (noRef_nil _))) ?_)|skip
 refine au ?_
 first|(refine Sim.goB rfl ?_)|skip
 refine au ?_
 refine Sim.kl hS (ys:=(List.flatMap GReport_g.cells (([]:List GReport_g)++(List.map GReport_g.up z0)))) (by exact app_fmU GReport_g.up (f:=GReport_g.cells) (g:=GReport.av) (by intro _;rfl) ([]:List GReport_g) z0) ?_
 refine au ?_
 refine Sim.kn hS (m:=List.length (([]:List GReport_g)++(List.map GReport_g.up z0))) (by simp) ?_
 refine au ?_
 first|refine Sim.ite Iff.rfl (fun _=> ?_) (fun _=>Sim.no)|refine Sim.guard (fun _=> ?_)
 refine au ?_
 refine Sim.opt (store_fm (u:=(fun _=>(GReport_g.mk r0.Pulse r0.Sync r0.Number r0.Slot r0.Members r0.Sent (Gr.no,r0.Got)))) (k:=0) (e:=7) (m:=(Int.toNat node)) (fun _=>rfl) (by omega) (by simp) (fun _=>rfl)) (fun l0 hm=> ?_)
 try rw[show List.length (([]:List GReport_g)++(List.map GReport_g.up z0))=List.length l0 from by have:=mod_len hm;simpa using this.symm]
 refine au ?_
 refine Sim.opt (elems_fmP GReport_g.pl (g:=GReport.av) (e:=7) (b:=0) (fun _=>rfl) (fun _=>rfl) (fun _=>rfl) (by decide) (by omega)) (fun l2 _=> ?_)
 refine au ?_
 first|refine Sim.ite Iff.rfl (fun _=> ?_) (fun _=>Sim.no)|refine Sim.guard (fun _=> ?_)
 refine au ?_
 refine Sim.opt (store_map (u:=(fun _=>(Gr.no,(List.map GReport_g.pl l2)))) (m:=(Int.toNat t0)) (by omega) (fun _=>rfl)) (fun l3 hm2=> ?_)
 try rw[show List.length (([]:List (Gr×List GReport))++(List.map (fun x=>(Gr.no,x)) rows))=List.length l3 from by have:=mod_len hm2;simpa using this.symm]
 refine au ?_
 refine Sim.opt (elems_mapP Prod.snd (g:=(lav GReport.av)) (b:=0) (fun _=>⟨rfl,rfl⟩) (by omega)) (fun l4 _=> ?_)
 exact fin⟩
noncomputable def r36_At (rows:List (List GReport))(t0:Int)(node:Int):Option GReport:=
 if t0<0 then
  some (GReport.mk false false 0 0 ([]:List UInt8) 0 ([]:List GDeliver))
 else
  if(List.length rows:Int)≤t0 then
   some (GReport.mk false false 0 0 ([]:List UInt8) 0 ([]:List GDeliver))
  else
   if node<0 then
    some (GReport.mk false false 0 0 ([]:List UInt8) 0 ([]:List GDeliver))
   else
    (idx? rows t0).bind fun z0=>
    if(List.length z0:Int)≤node then
     some (GReport.mk false false 0 0 ([]:List UInt8) 0 ([]:List GDeliver))
    else
     (idx? rows t0).bind fun z2=>
     (idx? z2 node).bind fun z3=>
     some z3
instance r36_At_sim (rows:List (List GReport))(t0:Int)(node:Int):HE GReport.av (r36_At rows t0 node) 54 [lav (lav GReport.av) rows,iav t0,iav node]:=⟨by unfold r36_At;exact sa⟩
noncomputable def r37_Starts_0_step (rows2:List (List GReport))(node2:Int)(c2:GConf)(out:List Int)(t0:Int):Option (((List Int)×Int)⊕((List Int))):=
 if t0<(List.length rows2:Int)then
  (r36_At rows2 t0 node2).bind fun r2=>
  if r2.Pulse=true then
   if(wr (t0+c2.Period))≤(List.length rows2:Int)then
    if List.length out+List.length [t0]≤lenMax then
     some (.inl ((out++[t0]),(wr (t0+1))))
    else none
   else
    some (.inl (out,(wr (t0+1))))
  else
   some (.inl (out,(wr (t0+1))))
 else
  some (.inr out)
noncomputable def r37_Starts_0 (rows2:List (List GReport))(node2:Int)(c2:GConf)(out:List Int)(t0:Int):Option ((List Int)):=
 loopO (fun s:(List Int)×Int=>r37_Starts_0_step rows2 node2 c2 s.1 s.2) (out,t0)
def r37_Starts_0_pre (rows2:List (List GReport))(node2:Int)(c2:GConf)(v:(List Int)×Int)(e:PF.St):Prop:= ∃g0,e=⟨[(1,lav (lav GReport.av) rows2),(2,iav node2),(4,.ept (GConf.cells c2) 0),(9,.lst g0 (List.map iav v.1)),(10,iav v.2)],[]⟩∧Mg 1 g0
instance r37_Starts_0_sim (rows2:List (List GReport))(node2:Int)(c2:GConf)(out:List Int)(t0:Int):HL (r37_Starts_0 rows2 node2 c2 out t0) LM ([1,2,4,9,10],[],[9],B20_0) (r37_Starts_0_pre rows2 node2 c2 (out,t0)) (fun r (q:Ex×PF.St)=> ∃g0',q=((.exit 0),⟨[(9,.lst g0' (List.map iav r))],[]⟩)∧Mg 1 g0'):=by
 refine lv (r37_Starts_0_pre rows2 node2 c2) _ fun S hS hw hw8 R hR=> ?_
 rintro⟨out,t0⟩ env hp ⟨g0,he,hg0⟩
 cases he
 show Sim (r37_Starts_0_step rows2 node2 c2 out t0) _ _
 unfold r37_Starts_0_step
 simp only[hw]
 refine au ?_
 refine Sim.ki hS (m:=(List.length rows2:Int)) (by simp) ?_
 refine au (.ite Iff.rfl (fun hc2=> ?_) fun hc2=> ?_)
 ·refine au (.hc hR ?_)
  rintro r2 q rfl
  refine au (.iteB (fun hc3=> ?_) fun hc3=> ?_)
  ·refine au ?_
   refine Sim.ki hS (m:=(List.length rows2:Int)) (by simp) ?_
   refine au (.ite Iff.rfl (fun hc4=> ?_) fun hc4=> ?_)
   ·refine au ?_
    refine Sim.kl hS (ys:=List.map iav [t0]) rfl ?_
    refine au ?_
    first|(refine Sim.goB (may_map (by intro _;rfl) hg0 _) ?_)|skip
    refine au ?_
    first|(refine Sim.goB (okE_map (by intro _;exact⟨rfl,rfl,rfl⟩) _) ?_)|skip
    refine au ?_
    first|refine Sim.ite (by simp) (fun _=> ?_) (fun _=>Sim.no)|refine Sim.guard (fun _=> ?_)
    exact fin
   ·exact fin
  ·exact fin
 ·exact fin
noncomputable def r37_Starts (c0:GConf)(rows:List (List GReport))(node:Int)(from0:Int):Option ((List Int)):=
 (r03_Plain c0).bind fun r0=>
 if r0≠0 then
  some ([]:List Int)
 else
  (r37_Starts_0 rows node c0 ([]:List Int) (max from0 0)).bind fun r3=>
  some r3
instance r37_Starts_sim (c0:GConf)(rows:List (List GReport))(node:Int)(from0:Int):HE (lav iav) (r37_Starts c0 rows node from0) 20 [GConf.av c0,lav (lav GReport.av) rows,iav node,iav from0]:=⟨by unfold r37_Starts;exact sa⟩
noncomputable def r33_Honest_0_step (s2:GScript)(out:List Int)(i0:Int):Option (((List Int)×Int)⊕((List Int))):=
 (r01_Clamp s2.Conf.N 0 13).bind fun r0=>
 if i0<r0 then
  (r33_Faulty s2 i0).bind fun r2=>
  if(!r2)=true then
   if List.length out+List.length [i0]≤lenMax then
    some (.inl ((out++[i0]),(wr (i0+1))))
   else none
  else
   some (.inl (out,(wr (i0+1))))
 else
  some (.inr out)
noncomputable def r33_Honest_0 (s2:GScript)(out:List Int)(i0:Int):Option ((List Int)):=
 loopO (fun s:(List Int)×Int=>r33_Honest_0_step s2 s.1 s.2) (out,i0)
def r33_Honest_0_pre (s2:GScript)(v:(List Int)×Int)(e:PF.St):Prop:= ∃g0,e=⟨[(1,.ept (GScript.cells s2) 0),(3,.lst g0 (List.map iav v.1)),(4,iav v.2)],[]⟩∧Mg 1 g0
instance r33_Honest_0_sim (s2:GScript)(out:List Int)(i0:Int):HL (r33_Honest_0 s2 out i0) LM ([1,3,4],[],[3],B21_0) (r33_Honest_0_pre s2 (out,i0)) (fun r (q:Ex×PF.St)=> ∃g0',q=((.exit 0),⟨[(3,.lst g0' (List.map iav r))],[]⟩)∧Mg 1 g0'):=by
 refine lv (r33_Honest_0_pre s2) _ fun S hS hw hw8 R hR=> ?_
 rintro⟨out,i0⟩ env hp ⟨g0,he,hg0⟩
 cases he
 show Sim (r33_Honest_0_step s2 out i0) _ _
 unfold r33_Honest_0_step
 simp only[hw]
 refine au (.hc hR ?_)
 rintro r0 q rfl
 refine au (.ite Iff.rfl (fun hc=> ?_) fun hc=> ?_)
 ·refine au (.hc hR ?_)
  rintro r2 q rfl
  refine au (.iteB (fun hc2=> ?_) fun hc2=> ?_)
  ·refine au ?_
   refine Sim.kl hS (ys:=List.map iav [i0]) rfl ?_
   refine au ?_
   first|(refine Sim.goB (may_map (by intro _;rfl) hg0 _) ?_)|skip
   refine au ?_
   first|(refine Sim.goB (okE_map (by intro _;exact⟨rfl,rfl,rfl⟩) _) ?_)|skip
   refine au ?_
   first|refine Sim.ite (by simp) (fun _=> ?_) (fun _=>Sim.no)|refine Sim.guard (fun _=> ?_)
   exact fin
  ·exact fin
 ·exact fin
noncomputable def r33_Honest (s0:GScript):Option ((List Int)):=
 (r33_Honest_0 s0 ([]:List Int) 0).bind fun r3=>
 some r3
instance r33_Honest_sim (s0:GScript):HE (lav iav) (r33_Honest s0) 21 [GScript.av s0]:=⟨by unfold r33_Honest;exact sa⟩
noncomputable def r33_Units (s0:GScript)(t0:Int)(n0:Int):Option Int:=
 if t0<0 then
  some 0
 else
  if(List.length s0.Ticks:Int)≤t0 then
   some 0
  else
   (r33_node s0.Conf n0).bind fun r0=>
   if(!r0)=true then
    some 0
   else
    (idx? s0.Ticks t0).bind fun z0=>
    if n0<(List.length z0.Units:Int)then
     (idx? s0.Ticks t0).bind fun z2=>
     (idx? z2.Units n0).bind fun z3=>
     some z3
    else
     some s0.Conf.Rate
instance r33_Units_sim (s0:GScript)(t0:Int)(n0:Int):HE iav (r33_Units s0 t0 n0) 139 [GScript.av s0,iav t0,iav n0]:=⟨by unfold r33_Units;exact sa⟩
noncomputable def r33_Delay (s0:GScript)(t0:Int)(from0:Int)(to0:Int):Option Int:=
 if t0<0 then
  some 0
 else
  if(List.length s0.Ticks:Int)≤t0 then
   some 0
  else
   (r33_node s0.Conf from0).bind fun r0=>
   if(!r0)=true then
    some 0
   else
    (r33_node s0.Conf to0).bind fun r2=>
    if(!r2)=true then
     some 0
    else
     (r01_Clamp s0.Conf.N 0 13).bind fun r3=>
     (idx? s0.Ticks t0).bind fun z0=>
     if(wr ((wr (from0*r3))+to0))<(List.length z0.Delays:Int)then
      (idx? s0.Ticks t0).bind fun z2=>
      (idx? z2.Delays (wr ((wr (from0*r3))+to0))).bind fun z3=>
      some z3
     else
      some s0.Conf.D
instance r33_Delay_sim (s0:GScript)(t0:Int)(from0:Int)(to0:Int):HE iav (r33_Delay s0 t0 from0 to0) 140 [GScript.av s0,iav t0,iav from0,iav to0]:=⟨by unfold r33_Delay;exact sa⟩
noncomputable def r34_Calm_0_step (i3:Int)(s2:GScript)(o2:List Int)(r4:Int)(x4:List Int)(x5:Int)(x6:Int)(x7:List Int)(x8:Int)(t2:GConf)(x9:Int):Option ((Int)⊕((Bool)⊕(Unit))):=
 if x9<x8 then
  (idx? x7 x9).bind fun z4=>
  (r33_Delay s2 i3 r4 z4).bind fun r5=>
  if r5<1 then
   some (.inr (.inl false))
  else
   if t2.D<r5 then
    some (.inr (.inl false))
   else
    some (.inl (wr (x9+1)))
 else
  some (.inr (.inr ()))
noncomputable def r34_Calm_0 (i3:Int)(s2:GScript)(o2:List Int)(r4:Int)(x4:List Int)(x5:Int)(x6:Int)(x7:List Int)(x8:Int)(t2:GConf)(x9:Int):Option ((Bool)⊕(Unit)):=
 loopO (fun s:Int=>r34_Calm_0_step i3 s2 o2 r4 x4 x5 x6 x7 x8 t2 s) x9
def r34_Calm_0_pre (i3:Int)(s2:GScript)(o2:List Int)(r4:Int)(x4:List Int)(x5:Int)(x6:Int)(x7:List Int)(x8:Int)(t2:GConf)(v:Int)(e:PF.St):Prop:=e=⟨[(1,iav i3),(2,.ept (GScript.cells s2) 0),(5,.ptr 105 0),(6,lav iav o2),(8,iav r4),(51,lav iav x4),(52,iav x5),(53,iav x6),(77,lav iav x7),(78,iav x8),(79,iav v)],[(105,⟨true,GConf.cells t2⟩)]⟩
instance r34_Calm_0_sim (i3:Int)(s2:GScript)(o2:List Int)(r4:Int)(x4:List Int)(x5:Int)(x6:Int)(x7:List Int)(x8:Int)(t2:GConf)(x9:Int):HL (r34_Calm_0 i3 s2 o2 r4 x4 x5 x6 x7 x8 t2 x9) LM ([1,2,5,6,8,51,52,53,77,78,79],[105],[1,2,4,5,6,51,52,53],B82_0) (r34_Calm_0_pre i3 s2 o2 r4 x4 x5 x6 x7 x8 t2 x9) (rS (rE fun r=>(Ex.ret,⟨[(1,iav i3),(2,.ept (GScript.cells s2) 0),(4,.bool r),(5,.ptr 105 0),(6,lav iav o2),(51,lav iav x4),(52,iav x5),(53,iav x6)],[(105,⟨true,GConf.cells t2⟩)]⟩)) (rE fun r=>((.exit 2),⟨[(1,iav i3),(2,.ept (GScript.cells s2) 0),(4,.undef),(5,.ptr 105 0),(6,lav iav o2),(51,lav iav x4),(52,iav x5),(53,iav x6)],[(105,⟨true,GConf.cells t2⟩)]⟩))):=by unfold r34_Calm_0 r34_Calm_0_step;exact lf
noncomputable def r34_Calm_1_step (i2:Int)(s0:GScript)(o0:List Int)(x0:List Int)(x2:Int)(t0:GConf)(x3:Int):Option ((Int)⊕((Bool)⊕(Unit))):=
 if x3<x2 then
  (idx? x0 x3).bind fun z3=>
  (r33_Units s0 i2 z3).bind fun r3=>
  if r3<(wr (t0.Rate-t0.Drift))then
   some (.inr (.inl false))
  else
   if(wr (t0.Rate+t0.Drift))<r3 then
    some (.inr (.inl false))
   else
    (r34_Calm_0 i2 s0 o0 z3 x0 x2 x3 o0 (List.length o0:Int) t0 0).bind fun r6=>
    Sum.elim
     (fun r7=>
       some (.inr (.inl r7)))
     (fun r8=>
       some (.inl (wr (x3+1))))
     r6
 else
  some (.inr (.inr ()))
noncomputable def r34_Calm_1 (i2:Int)(s0:GScript)(o0:List Int)(x0:List Int)(x2:Int)(t0:GConf)(x3:Int):Option ((Bool)⊕(Unit)):=
 loopO (fun s:Int=>r34_Calm_1_step i2 s0 o0 x0 x2 t0 s) x3
def r34_Calm_1_pre (i2:Int)(s0:GScript)(o0:List Int)(x0:List Int)(x2:Int)(t0:GConf)(v:Int)(e:PF.St):Prop:=e=⟨[(1,iav i2),(2,.ept (GScript.cells s0) 0),(5,.ptr 105 0),(6,lav iav o0),(51,lav iav x0),(52,iav x2),(53,iav v)],[(105,⟨true,GConf.cells t0⟩)]⟩
instance r34_Calm_1_sim (i2:Int)(s0:GScript)(o0:List Int)(x0:List Int)(x2:Int)(t0:GConf)(x3:Int):HL (r34_Calm_1 i2 s0 o0 x0 x2 t0 x3) LM ([1,2,5,6,51,52,53],[105],[4],B82_1) (r34_Calm_1_pre i2 s0 o0 x0 x2 t0 x3) (rS (rE fun r=>(Ex.ret,⟨[(4,.bool r)],[(105,⟨true,GConf.cells t0⟩)]⟩)) (rE fun r=>((.exit 0),⟨[(4,.undef)],[(105,⟨true,GConf.cells t0⟩)]⟩))):=by unfold r34_Calm_1 r34_Calm_1_step;exact lf
noncomputable def r34_Calm (L0:GScript)(i0:Int):Option Bool:=
 if i0<0 then
  some false
 else
  if(List.length L0.Ticks:Int)≤i0 then
   some false
  else
   (r03_Plain L0.Conf).bind fun r0=>
   if r0≠0 then
    some false
   else
    (idx? L0.Ticks i0).bind fun z0=>
    if 0<(List.length z0.Bursts:Int)then
     some false
    else
     (idx? L0.Ticks i0).bind fun z2=>
     if 0<(List.length z2.Strays:Int)then
      some false
     else
      (r33_Honest L0).bind fun r2=>
      (r34_Calm_1 i0 L0 r2 r2 (List.length r2:Int) L0.Conf 0).bind fun r9=>
      Sum.elim
       (fun r10=>
         some r10)
       (fun r11=>
         some true)
       r9
instance r34_Calm_sim (L0:GScript)(i0:Int):HE bav (r34_Calm L0 i0) 82 [GScript.av L0,iav i0]:=⟨by unfold r34_Calm;exact sa⟩
noncomputable def r34_Last_0_step (s2:GScript)(last:Int)(t0:Int):Option ((Int×Int)⊕Int):=
 if t0<(List.length s2.Ticks:Int)then
  (r34_Calm s2 t0).bind fun r2=>
  if(!r2)=true then
   some (.inl (t0,(wr (t0+1))))
  else
   some (.inl (last,(wr (t0+1))))
 else
  some (.inr last)
noncomputable def r34_Last_0 (s2:GScript)(last:Int)(t0:Int):Option Int:=
 loopO (fun s:Int×Int=>r34_Last_0_step s2 s.1 s.2) (last,t0)
def r34_Last_0_pre (s2:GScript)(v:Int×Int)(e:PF.St):Prop:=e=⟨[(1,.ept (GScript.cells s2) 0),(3,iav v.1),(4,iav v.2)],[]⟩
instance r34_Last_0_sim (s2:GScript)(last:Int)(t0:Int):HL (r34_Last_0 s2 last t0) LM ([1,3,4],[],[3],B38_0) (r34_Last_0_pre s2 (last,t0)) (rE fun r=>((.exit 0),⟨[(3,iav r)],[]⟩)):=by unfold r34_Last_0 r34_Last_0_step;exact lf
noncomputable def r34_Last (s0:GScript):Option Int:=
 (r33_Right s0).bind fun r0=>
 if r0≠0 then
  some (-1)
 else
  (r34_Last_0 s0 (-1) 0).bind fun r3=>
  some r3
instance r34_Last_sim (s0:GScript):HE iav (r34_Last s0) 38 [GScript.av s0]:=⟨by unfold r34_Last;exact sa⟩
noncomputable def r03_Length (c0:GConf):Option Int:=
 (r03_Plain c0).bind fun r0=>
 if r0≠0 then
  some 0
 else
  some (wr ((wr (3*(wr (c0.F+1))))*c0.D))
instance r03_Length_sim (c0:GConf):HE iav (r03_Length c0) 99 [GConf.av c0]:=⟨by unfold r03_Length;exact sa⟩
noncomputable def r04_Settle (c0:GConf):Option Int:=
 (r03_Plain c0).bind fun r0=>
 if r0≠0 then
  some 0
 else
  (r03_Length c0).bind fun r2=>
  some (wr ((wr (1+(wr (4*r2))))+(wr (2*c0.Period))))
instance r04_Settle_sim (c0:GConf):HE iav (r04_Settle c0) 51 [GConf.av c0]:=⟨by unfold r04_Settle;exact sa⟩
noncomputable def r04_All (c0:GConf):Option Int:=
 (r03_Plain c0).bind fun r0=>
 if r0≠0 then
  some 0
 else
  (r04_Settle c0).bind fun r2=>
  some (wr (r2+(wr (4*c0.Period))))
instance r04_All_sim (c0:GConf):HE iav (r04_All c0) 56 [GConf.av c0]:=⟨by unfold r04_All;exact sa⟩
noncomputable def r34_All (s0:GScript):Option Int:=
 (r33_Right s0).bind fun r0=>
 if r0≠0 then
  some 0
 else
  (r34_Last s0).bind fun r2=>
  (r04_All s0.Conf).bind fun r3=>
  some (wr (r2+r3))
instance r34_All_sim (s0:GScript):HE iav (r34_All s0) 22 [GScript.av s0]:=⟨by unfold r34_All;exact sa⟩
noncomputable def l39_JudgeTexts_0_step (i2:List (List GReport))(s2:Int)(t2:Int)(x0:GScript)(y0:List Int)(r17:GVerdict)(a0:Bool)(x2:Int):Option ((Bool×Int)⊕Bool):=
 if x2<(List.length y0:Int)then
  if a0=true then
   some (.inl (true,(wr (x2+1))))
  else
   (idx? y0 x2).bind fun z5=>
   if z5≤t2 then
    (idx? y0 x2).bind fun z6=>
    some (.inl ((decide (t2<(wr (z6+x0.Conf.Period)))),(wr (x2+1))))
   else
    some (.inl (false,(wr (x2+1))))
 else
  some (.inr a0)
noncomputable def l39_JudgeTexts_0 (i2:List (List GReport))(s2:Int)(t2:Int)(x0:GScript)(y0:List Int)(r17:GVerdict)(a0:Bool)(x2:Int):Option Bool:=
 loopO (fun s:Bool×Int=>l39_JudgeTexts_0_step i2 s2 t2 x0 y0 r17 s.1 s.2) (a0,x2)
def l39_JudgeTexts_0_pre (i2:List (List GReport))(s2:Int)(t2:Int)(x0:GScript)(y0:List Int)(r17:GVerdict)(v:Bool×Int)(e:PF.St):Prop:=e=⟨[(1,lav (lav GReport.av) i2),(2,iav s2),(3,iav t2),(4,.ept (GScript.cells x0) 0),(9,.ptr 109 0),(10,.bool v.1),(11,lav iav y0),(12,iav v.2)],[(109,⟨true,GVerdict.cells r17⟩)]⟩
instance l39_JudgeTexts_0_sim (i2:List (List GReport))(s2:Int)(t2:Int)(x0:GScript)(y0:List Int)(r17:GVerdict)(a0:Bool)(x2:Int):HL (l39_JudgeTexts_0 i2 s2 t2 x0 y0 r17 a0 x2) LM ([1,2,3,4,9,10,11,12],[109],[1,2,3,4,9,10],B6_0) (l39_JudgeTexts_0_pre i2 s2 t2 x0 y0 r17 (a0,x2)) (rE fun r=>((.exit 0),⟨[(1,lav (lav GReport.av) i2),(2,iav s2),(3,iav t2),(4,.ept (GScript.cells x0) 0),(9,.ptr 109 0),(10,.bool r)],[(109,⟨true,GVerdict.cells r17⟩)]⟩)):=by unfold l39_JudgeTexts_0 l39_JudgeTexts_0_step;exact lf
noncomputable def l39_JudgeTexts (L0:GScript)(i0:List (List GReport))(s0:Int)(t0:Int):Option Bool:=
 (l39_few L0 i0).bind fun r0=>
 if(!r0)=true then
  (l39_known).bind fun r2=>
  some r2
 else
  (r34_Holds L0).bind fun r3=>
  if r3≠0 then
   (l39_known).bind fun r4=>
   some r4
  else
   if(List.length i0:Int)≠(List.length L0.Ticks:Int)then
    (l39_known).bind fun r5=>
    some r5
   else
    if t0<0 then
     (l39_known).bind fun r6=>
     some r6
    else
     if(List.length i0:Int)≤t0 then
      (l39_known).bind fun r7=>
      some r7
     else
      (r33_Faulty L0 s0).bind fun r8=>
      if r8=true then
       (l39_known).bind fun r9=>
       some r9
      else
       if s0<0 then
        (l39_known).bind fun r10=>
        some r10
       else
        (idx? i0 t0).bind fun z0=>
        if(List.length z0:Int)≤s0 then
         (l39_known).bind fun r11=>
         some r11
        else
         (idx? i0 t0).bind fun z2=>
         (idx? z2 s0).bind fun z3=>
         if(List.length z3.Got:Int)=0 then
          (l39_known).bind fun r12=>
          some r12
         else
          (judge_Judge L0 i0).bind fun r13=>
          (r33_Honest L0).bind fun r14=>
          (idx? r14 0).bind fun z4=>
          (r34_All L0).bind fun r15=>
          (r37_Starts L0.Conf i0 z4 r15).bind fun r16=>
          (l39_JudgeTexts_0 i0 s0 t0 L0 r16 r13 false 0).bind fun r18=>
          (idx? i0 t0).bind fun z7=>
          (idx? z7 s0).bind fun z8=>
          if r13.Faults.a3≠0 then
           (l39_known).bind fun r19=>
           some r19
          else
           if r13.Faults.a0=2 then
            (l39_known).bind fun r20=>
            some r20
           else
            if(!r18)=true then
             (l39_known).bind fun r21=>
             some r21
            else
             (idx? z8.Got 0).bind fun z9=>
             (r33_Faulty L0 z9.From).bind fun r22=>
             if r22=true then
              (l39_known).bind fun r23=>
              some r23
             else
              if List.length ([]:List GDeliver)+List.length z8.Got≤lenMax then
               if 0≤(0:Int)∧0<(((List.length (([]:List GDeliver)++z8.Got)):Nat):Int)then
                ((([]:List GDeliver)++z8.Got)[(Int.toNat 0)]?).bind fun z10=>
                if List.length z10.Text+List.length ([120]:List UInt8)≤9223372036854775807 then
                 if 0≤(0:Int)∧0<(((List.length (([]:List GDeliver)++z8.Got)):Nat):Int)then
                  (mod? (([]:List GDeliver)++z8.Got) (Int.toNat 0) (fun w0=>(GDeliver.mk w0.From w0.Slot w0.Cycle (z10.Text++([120]:List UInt8))))).bind fun l0=>
                  (sub? l0 0 (List.length l0)).bind fun l2=>
                  (l39_turned i0 t0 s0 (GReport.mk z8.Pulse z8.Sync z8.Number z8.Slot z8.Members z8.Sent l2)).bind fun r24=>
                  (judge_Judge L0 r24).bind fun r25=>
                  if r25.Faults.a3≠0 then
                   (l39_known).bind fun r26=>
                   some r26
                  else
                   some false
                 else none
                else none
               else none
              else none
instance l39_JudgeTexts_sim (L0:GScript)(i0:List (List GReport))(s0:Int)(t0:Int):HE bav (l39_JudgeTexts L0 i0 s0 t0) 6 [GScript.av L0,lav (lav GReport.av) i0,iav s0,iav t0]:=⟨by
 unfold l39_JudgeTexts
 refine sv fun S hS hw hw8 R hR=> ?_
 refine au (.hc hR ?_)
 rintro r0 q rfl
 refine au (.iteB (fun hc=> ?_) fun hc=> ?_)
 ·exact fin
 ·refine au (.hc hR ?_)
  rintro r3 q rfl
  refine au (.ite Iff.rfl (fun hc2=> ?_) fun hc2=> ?_)
  ·exact fin
  ·refine au ?_
   refine Sim.ki hS (m:=(List.length i0:Int)) (by simp) ?_
   refine au ?_
   refine Sim.ki hS (m:=(List.length L0.Ticks:Int)) (by simp) ?_
   refine au (.ite Iff.rfl (fun hc3=> ?_) fun hc3=> ?_)
   ·exact fin
   ·refine au (.ite Iff.rfl (fun hc4=> ?_) fun hc4=> ?_)
    ·exact fin
    ·refine au ?_
     refine Sim.ki hS (m:=(List.length i0:Int)) (by simp) ?_
     refine au (.ite Iff.rfl (fun hc5=> ?_) fun hc5=> ?_)
     ·exact fin
     ·refine au (.hc hR ?_)
      rintro r8 q rfl
      refine au (.iteB (fun hc6=> ?_) fun hc6=> ?_)
      ·exact fin
      ·refine au (.ite Iff.rfl (fun hc7=> ?_) fun hc7=> ?_)
       ·exact fin
       ·refine au ?_
        refine Sim.ix (by simp) (fun z0 hz0=> ?_)
        refine au ?_
        refine Sim.go (idx_map _ hz0) ?_
        refine au ?_
        refine Sim.ki hS (m:=(List.length z0:Int)) (by simp) ?_
        refine au (.ite Iff.rfl (fun hc8=> ?_) fun hc8=> ?_)
        ·exact fin
        ·refine au ?_
         refine Sim.ix (by simp) (fun z2 hz2=> ?_)
         refine au ?_
         refine Sim.go (idx_map _ hz2) ?_
         refine au ?_
         refine Sim.ix (by simp) (fun z3 hz3=> ?_)
         refine au ?_
         refine Sim.go (idx_map _ hz3) ?_
         refine au ?_
         refine Sim.ki hS (m:=(List.length z3.Got:Int)) (by simp) ?_
         refine au (.ite Iff.rfl (fun hc9=> ?_) fun hc9=> ?_)
         ·exact fin
         ·refine au (.hc hR ?_)
          rintro r13 q rfl
          refine au (.hc hR ?_)
          rintro r14 q rfl
          refine au ?_
          refine Sim.ix (by simp) (fun z4 hz4=> ?_)
          refine au ?_
          refine Sim.go (idx_map _ hz4) ?_
          refine au (.hc hR ?_)
          rintro r15 q rfl
          refine au (.hc hR ?_)
          rintro r16 q rfl
          refine au ?_
          refine Sim.hl hR kp pz ?_
          rintro r18 q rfl
          refine au ?_
          refine Sim.ix (by simp) (fun z7 hz7=> ?_)
          refine au ?_
          refine Sim.go (idx_map _ hz7) ?_
          refine au ?_
          refine Sim.ix (by simp) (fun z8 hz8=> ?_)
          refine au ?_
          refine Sim.go (idx_map _ hz8) ?_
          refine au (.ite Iff.rfl (fun hc13=> ?_) fun hc13=> ?_)
          ·exact fin
          ·refine au (.ite Iff.rfl (fun hc14=> ?_) fun hc14=> ?_)
           ·exact fin
           ·refine au (.iteB (fun hc15=> ?_) fun hc15=> ?_)
            ·exact fin
            ·refine au ?_
             refine Sim.ix (by simp) (fun z9 hz9=> ?_)
             refine au ?_
             refine Sim.go (idx_map _ hz9) ?_
             refine au (.hc hR ?_)
             rintro r22 q rfl
             refine au (.iteB (fun hc16=> ?_) fun hc16=> ?_)
             ·exact fin
             ·refine au ?_
              first|(refine Sim.goB (decide_eq_true (fm_len (fun _=>rfl) _)) ?_)|skip
              refine au ?_
              first|(refine Sim.goB (okE_map (by intro _;exact⟨rfl,rfl,rfl⟩) _) ?_)|skip
              refine au ?_
              first|refine Sim.ite (by simp) (fun _=> ?_) (fun _=>Sim.no)|refine Sim.guard (fun _=> ?_)
              refine au ?_
              first|(refine Sim.goB (noRef_cons rfl (noRef_cons rfl (noRef_cons rfl (noRef_nil _)))) ?_)|skip
              refine au ?_
              first|(refine Sim.goB (all_fm (by intro _;rfl) _) ?_)|skip
              refine au ?_
              refine Sim.kl hS (ys:=(List.flatMap GDeliver.cells (([]:List GDeliver)++z8.Got))) (by exact app_fm (f:=GDeliver.cells) (g:=GDeliver.av) (by intro _;rfl) ([]:List GDeliver) z8.Got) ?_
              refine au ?_
              refine Sim.kn hS (m:=List.length (([]:List GDeliver)++z8.Got)) (by simp) ?_
              refine au ?_
              first|refine Sim.ite Iff.rfl (fun _=> ?_) (fun _=>Sim.no)|refine Sim.guard (fun _=> ?_)
              refine au ?_
              refine Sim.opt (load_fm1 (v:=fun z10=>.str z10.Text) (k:=3) (e:=4) (m:=(Int.toNat 0)) (fun _=>rfl) (by omega) (by decide) rfl (fun _=>rfl)) (fun z10 _=> ?_)
              refine au ?_
              first|refine Sim.ite Iff.rfl (fun _=> ?_) (fun _=>Sim.no)|refine Sim.guard (fun _=> ?_)
              refine au ?_
              first|refine Sim.ite Iff.rfl (fun _=> ?_) (fun _=>Sim.no)|refine Sim.guard (fun _=> ?_)
              refine au ?_
              refine Sim.opt (store_fm (u:=(fun w0=>(GDeliver.mk w0.From w0.Slot w0.Cycle (z10.Text++([120]:List UInt8))))) (k:=3) (e:=4) (m:=(Int.toNat 0)) (fun _=>rfl) (by omega) (by simp) (fun _=>rfl)) (fun l0 hm=> ?_)
              try rw[show List.length (([]:List GDeliver)++z8.Got)=List.length l0 from by have:=mod_len hm;simpa using this.symm]
              refine au ?_
              refine Sim.opt (elems_fm (g:=GDeliver.av) (e:=4) (b:=0) (fun _=>rfl) (fun _=>rfl) (fun _=>rfl) (by decide) (by omega)) (fun l2 _=> ?_)
              exact fin⟩
end Go.Proofs.YtaoijbibmcgdaaaGreat
