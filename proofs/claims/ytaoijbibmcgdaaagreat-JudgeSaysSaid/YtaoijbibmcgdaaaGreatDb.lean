/-
  The program's functions as plain functions (printed by a program of mine), each beside the machine's.
-/
import Derived.Test.YtaoijbibmcgdaaaGreatDa
import Derived.Test.YtaoijbibmcgdaaaGreatFm
import Derived.Test.YtaoijbibmcgdaaaGreatPFe
set_option linter.unusedVariables false
set_option linter.unusedSimpArgs false
set_option maxRecDepth 100000
set_option maxHeartbeats 4000000
namespace Go.Proofs.YtaoijbibmcgdaaaGreat
noncomputable section
open Go.Proofs.PF
instance Amg (l2 out:List (List UInt8))(i0:Int):HL (Zq l2 out i0) LM ([1,5,6],[],[5],Al0) (W4 l2 (out,i0)) (fun r (q:Ex×PF.St)=> ∃g0',q=((.exit 0),⟨[(5,.lst g0' (List.map sav r))],[]⟩)∧Mg 1 g0'):=by
 refine lv (W4 l2) _ fun S hS hw hw8 R hR=> ?_
 rintro⟨out,i0⟩ env hp ⟨g0,he,hg0⟩
 cases he
 show Sim (Gu l2 out i0) _ _
 unfold Gu
 simp only[hw]
 refine au ?_
 refine Sim.ki hS (m:=(List.length l2:Int)) (by simp) ?_
 refine au (.ite Iff.rfl (fun hc2=> ?_) fun hc2=> ?_)
 ·refine au ?_
  refine Sim.ix (by simp) (fun z0 hz0=> ?_)
  refine au ?_
  refine Sim.go (Bw _ hz0) ?_
  refine au (.hc hR ?_)
  rintro r2 q rfl
  refine au ?_
  refine Sim.kl hS (ys:=List.map sav [r2]) rfl ?_
  refine au ?_
  first|(refine Sim.goB (Cj (by intro _;rfl) hg0 _) ?_)|skip
  refine au ?_
  first|(refine Sim.goB (Ca (by intro _;exact⟨rfl,rfl,rfl⟩) _) ?_)|skip
  refine au ?_
  first|refine Sim.ite (by simp) (fun _=> ?_) (fun _=>Sim.no)|refine Sim.guard (fun _=> ?_)
  exact fin
 ·exact fin
def Xv (c0:Ab)(l0:List (List UInt8)):Option ((List (List UInt8))):=
 if(List.length l0:Int)≠(wr (c0.N*c0.D))then
  (T5 c0).bind fun r0=>
  some r0
 else
  (Zq l0 ([]:List (List UInt8)) 0).bind fun r3=>
  some r3
instance Aq9 (c0:Ab)(l0:List (List UInt8)):HE (lav sav) (Xv c0 l0) 169 [Ab.av c0,lav sav l0]:=⟨by unfold Xv;exact sa⟩
def Fm (l2:List Al)(c2:Ab)(out:List Al)(i0:Int):Option (((List Al)×Int)⊕((List Al))):=
 if i0<(List.length l2:Int)then
  (idx? l2 i0).bind fun z0=>
  if 0≤z0.From then
   (idx? l2 i0).bind fun z2=>
   if z2.From<c2.N then
    (idx? l2 i0).bind fun z3=>
    (idx? l2 i0).bind fun z4=>
    (V8 z4.At).bind fun r0=>
    if List.length out+List.length [(Al.mk z3.From r0)]≤Ar then
     some (.inl ((out++[(Al.mk z3.From r0)]),(wr (i0+1))))
    else none
   else
    some (.inl (out,(wr (i0+1))))
  else
   some (.inl (out,(wr (i0+1))))
 else
  some (.inr out)
def Xu (l2:List Al)(c2:Ab)(out:List Al)(i0:Int):Option ((List Al)):=
 Ai (fun s:(List Al)×Int=>Fm l2 c2 s.1 s.2) (out,i0)
def Wl (l2:List Al)(c2:Ab)(v:(List Al)×Int)(e:PF.St):Prop:= ∃g0,e=⟨[(1,lav Al.av l2),(2,.ept (Ab.cells c2) 0),(5,.lst g0 (List.map Al.av v.1)),(6,iav v.2)],[]⟩∧Mg 2 g0
instance Af3 (l2:List Al)(c2:Ab)(out:List Al)(i0:Int):HL (Xu l2 c2 out i0) LM ([1,2,5,6],[],[5],Ak5) (Wl l2 c2 (out,i0)) (fun r (q:Ex×PF.St)=> ∃g0',q=((.exit 0),⟨[(5,.lst g0' (List.map Al.av r))],[]⟩)∧Mg 2 g0'):=by
 refine lv (Wl l2 c2) _ fun S hS hw hw8 R hR=> ?_
 rintro⟨out,i0⟩ env hp ⟨g0,he,hg0⟩
 cases he
 show Sim (Fm l2 c2 out i0) _ _
 unfold Fm
 simp only[hw]
 refine au ?_
 refine Sim.ki hS (m:=(List.length l2:Int)) (by simp) ?_
 refine au (.ite Iff.rfl (fun hc=> ?_) fun hc=> ?_)
 ·refine au ?_
  refine Sim.ix (by simp) (fun z0 hz0=> ?_)
  refine au ?_
  refine Sim.go (Bw _ hz0) ?_
  refine au (.ite Iff.rfl (fun hc2=> ?_) fun hc2=> ?_)
  ·refine au ?_
   refine Sim.ix (by simp) (fun z2 hz2=> ?_)
   refine au ?_
   refine Sim.go (Bw _ hz2) ?_
   refine au (.ite Iff.rfl (fun hc3=> ?_) fun hc3=> ?_)
   ·refine au ?_
    refine Sim.ix (by simp) (fun z3 hz3=> ?_)
    refine au ?_
    refine Sim.go (Bw _ hz3) ?_
    refine au ?_
    refine Sim.ix (by simp) (fun z4 hz4=> ?_)
    refine au ?_
    refine Sim.go (Bw _ hz4) ?_
    refine au (.hc hR ?_)
    rintro r0 q rfl
    refine au ?_
    refine Sim.kl hS (ys:=List.map Al.av [(Al.mk z3.From r0)]) rfl ?_
    refine au ?_
    first|(refine Sim.goB (Cj (by intro _;rfl) hg0 _) ?_)|skip
    refine au ?_
    first|(refine Sim.goB (Ca (by intro _;exact⟨rfl,rfl,rfl⟩) _) ?_)|skip
    refine au ?_
    first|refine Sim.ite (by simp) (fun _=> ?_) (fun _=>Sim.no)|refine Sim.guard (fun _=> ?_)
    exact fin
   ·exact fin
  ·exact fin
 ·exact fin
def Ut (c0:Ab)(l0:List Al):Option ((List Al)):=
 (Xu l0 c0 ([]:List Al) (max 0 (wr ((List.length l0:Int)-64)))).bind fun r2=>
 some r2
instance Amq (c0:Ab)(l0:List Al):HE (lav Al.av) (Ut c0 l0) 170 [Ab.av c0,lav Al.av l0]:=⟨by unfold Ut;exact sa⟩
def Ff (x0:Ar6 Int)(i0:Int)(d2:Ar6 Int):Option ((Int×(Ar6 Int))⊕((Ar6 Int))):=
 if i0<6 then
  if 0≤i0∧i0<(6:Nat)then
   (Ar6.get? (Ar6.mk d2.a0 d2.a1 d2.a2 d2.a3 d2.a4 d2.a5) (Int.toNat i0)).bind fun z0=>
   (Dk z0 0 65535).bind fun r0=>
   if 0≤i0∧i0<(6:Nat)then
    (Ar6.set? d2 (Int.toNat i0) r0).bind fun y0=>
    some (.inl ((wr (i0+1)),y0))
   else none
  else none
 else
  some (.inr d2)
def W0 (x0:Ar6 Int)(i0:Int)(d2:Ar6 Int):Option ((Ar6 Int)):=
 Ai (fun s:Int×(Ar6 Int)=>Ff x0 s.1 s.2) (i0,d2)
def Wh (x0:Ar6 Int)(v:Int×(Ar6 Int))(e:PF.St):Prop:=e=⟨[(1,.ptr 101 0),(2,.ptr 102 0),(3,iav v.1)],[(102,⟨true,Ar6.cells iav x0⟩),(101,⟨true,Ar6.cells iav v.2⟩)]⟩
instance Agg (x0:Ar6 Int)(i0:Int)(d2:Ar6 Int):HL (W0 x0 i0 d2) LM ([1,2,3],[101,102],[1,2],Aky) (Wh x0 (i0,d2)) (rE fun r=>((.exit 0),⟨[(1,.ptr 101 0),(2,.ptr 102 0)],[(102,⟨true,Ar6.cells iav x0⟩),(101,⟨true,Ar6.cells iav r⟩)]⟩)):=by
 refine lv (Wh x0) _ fun S hS hw hw8 R hR=> ?_
 rintro⟨i0,d2⟩ env hp he
 cases he
 show Sim (Ff x0 i0 d2) _ _
 unfold Ff
 simp only[hw]
 refine au (.ite Iff.rfl (fun hc=> ?_) fun hc=> ?_)
 ·refine au ?_
  first|refine Sim.ite Iff.rfl (fun hb=> ?_) (fun _=>Sim.no)|refine Sim.guard (fun hb=> ?_)
  refine au ?_
  refine Sim.opt (f:=iav) (by have hb':(Int.toNat i0)<6:=(by omega);generalize (Int.toNat i0)=j at hb' ⊢;rcases j with _|_|_|_|_|_|j<;>first|rfl|exact absurd hb' (by omega)) (fun z0 _=> ?_)
  refine au (.hc hR ?_)
  rintro r0 q rfl
  refine au ?_
  first|refine Sim.ite Iff.rfl (fun hb2=> ?_) (fun _=>Sim.no)|refine Sim.guard (fun hb2=> ?_)
  refine au ?_
  refine Sim.opt (f:=fun y0=>[iav y0.a0,iav y0.a1,iav y0.a2,iav y0.a3,iav y0.a4,iav y0.a5]) (by have hb':(Int.toNat i0)<6:=(by omega);generalize (Int.toNat i0)=j at hb' ⊢;rcases j with _|_|_|_|_|_|j<;>first|rfl|exact absurd hb' (by omega)) (fun y0 _=> ?_)
  exact fin
 ·exact fin
def Tw (d0:Ar6 Int):Option ((Ar6 Int)):=
 (W0 (Ar6.mk 0 0 0 0 0 0) 0 d0).bind fun r2=>
 some r2
instance Anj (d0:Ar6 Int):HS (Tw d0) (LM.call 171 [Ar6.av iav d0] []) fun r q=>q=(Ar6.av iav r,[]):=⟨by unfold Tw;exact sa⟩
def Tp (L0:Ab)(i0:Aq):Option Aq:=
 (Bg L0).bind fun r0=>
 if r0≠0 then
  some (Aq.mk 0 0 0 ([]:List UInt8) 0 ([]:List UInt8) ([]:List UInt8) 0 0 ([]:List UInt8) ([]:List UInt8) ([]:List UInt8) ([]:List UInt8) ([]:List UInt8) ([]:List UInt8) ([]:List Aj) ([]:List (List UInt8)) ([]:List Al) (Ar6.mk 0 0 0 0 0 0))
 else
  (V8 i0.Clock).bind fun r2=>
  (V8 i0.Anchor).bind fun r3=>
  (Dk i0.Since 0 L0.Period).bind fun r4=>
  (Kf L0).bind fun r5=>
  (Og i0.Pipe r5 53).bind fun r6=>
  (Kf L0).bind fun r7=>
  (Dk i0.Age 0 r7).bind fun r8=>
  (Pi L0).bind fun r9=>
  (Yk i0.Vec r9 53).bind fun r10=>
  (Pi L0).bind fun r11=>
  (Yk i0.Agreed r11 49).bind fun r12=>
  (Kr i0.Number L0.Mod).bind fun r13=>
  (Dk i0.Regular 0 2).bind fun r14=>
  (X3 L0 i0.Members ([]:List Int)).bind fun r15=>
  (X3 L0 i0.Seen ([]:List Int)).bind fun r16=>
  (Rr i0.Heard (List.length L0.Table:Int) ([]:List Int)).bind fun r17=>
  (Rr i0.Sent (List.length L0.Table:Int) ([]:List Int)).bind fun r18=>
  (V2 i0.Out 16).bind fun r19=>
  (V2 i0.Line 16).bind fun r20=>
  (Uc L0 i0.Ports).bind fun r21=>
  (Xv L0 i0.Hold).bind fun r22=>
  (Ut L0 i0.Log).bind fun r23=>
  (Tw i0.Diag).bind fun r24=>
  some (Aq.mk r2 r3 r4 r6 r8 r10 r12 r13 r14 r15 r16 r17 r18 r19 r20 r21 r22 r23 r24)
instance Ao1 (L0:Ab)(i0:Aq):HE Aq.av (Tp L0 i0) 104 [Ab.av L0,Aq.av i0]:=⟨by unfold Tp;exact sa⟩
def Gs (i2:List UInt8)(s0:Ab)(x3:Aq)(o0 x0:Int)(x2:Aq):Option ((Int×Int×Aq)⊕(Int×Aq)):=
 if x0<s0.N then
  (Mi i2 o0 17).bind fun r20=>
  (C7 i2 r20.2 1).bind fun r21=>
  (C7 i2 r21.2 1).bind fun r22=>
  if List.length x2.Ports+List.length [(Aj.mk r20.1 r21.1 r22.1)]≤Ar then
   some (.inl (r22.2,(wr (x0+1)),(Aq.mk x2.Clock x2.Anchor x2.Since x2.Pipe x2.Age x2.Vec x2.Agreed x2.Number x2.Regular x2.Members x2.Seen x2.Heard x2.Sent x2.Out x2.Line (x2.Ports++[(Aj.mk r20.1 r21.1 r22.1)]) x2.Hold x2.Log x2.Diag)))
  else none
 else
  some (.inr (o0,x2))
def Rs (i2:List UInt8)(s0:Ab)(x3:Aq)(o0 x0:Int)(x2:Aq):Option (Int×Aq):=
 Ai (fun s:Int×Int×Aq=>Gs i2 s0 x3 s.1 s.2.1 s.2.2) (o0,x0,x2)
def Xp (i2:List UInt8)(s0:Ab)(x3:Aq)(v:Int×Int×Aq)(e:PF.St):Prop:= ∃g0,∃g2,∃g3,∃g4,∃g5,∃g6,e=⟨[(1,.str i2),(2,.ept (Ab.cells s0) 0),(4,.ptr 104 0),(6,iav v.1),(21,.ptr 121 0),(22,iav v.2.1)],[(121,⟨true,[iav v.2.2.Clock,iav v.2.2.Anchor,iav v.2.2.Since,.str v.2.2.Pipe,iav v.2.2.Age,.str v.2.2.Vec,.str v.2.2.Agreed,iav v.2.2.Number,iav v.2.2.Regular,.str v.2.2.Members,.str v.2.2.Seen,.str v.2.2.Heard,.str v.2.2.Sent,.str v.2.2.Out,.str v.2.2.Line,.lst g0 (List.map Aj.av v.2.2.Ports),.lst g2 (List.map sav v.2.2.Hold),.lst g3 (List.map Al.av v.2.2.Log),iav v.2.2.Diag.a0,iav v.2.2.Diag.a1,iav v.2.2.Diag.a2,iav v.2.2.Diag.a3,iav v.2.2.Diag.a4,iav v.2.2.Diag.a5]⟩),(104,⟨true,[iav x3.Clock,iav x3.Anchor,iav x3.Since,.str x3.Pipe,iav x3.Age,.str x3.Vec,.str x3.Agreed,iav x3.Number,iav x3.Regular,.str x3.Members,.str x3.Seen,.str x3.Heard,.str x3.Sent,.str x3.Out,.str x3.Line,.lst g4 (List.map Aj.av x3.Ports),.lst g5 (List.map sav x3.Hold),.lst g6 (List.map Al.av x3.Log),iav x3.Diag.a0,iav x3.Diag.a1,iav x3.Diag.a2,iav x3.Diag.a3,iav x3.Diag.a4,iav x3.Diag.a5]⟩)]⟩∧Mg 3 g0∧Mg 1 g2∧Mg 2 g3∧Mg 3 g4∧Mg 1 g5∧Mg 2 g6
instance Ais (i2:List UInt8)(s0:Ab)(x3:Aq)(o0 x0:Int)(x2:Aq):HL (Rs i2 s0 x3 o0 x0 x2) LM ([1,2,4,6,21,22],[104,121],[1,2,4,6,21],Ari) (Xp i2 s0 x3 (o0,x0,x2)) (fun r (q:Ex×PF.St)=> ∃g0',∃g1',∃g2',∃g3',∃g4',∃g5',q=((.exit 0),⟨[(1,.str i2),(2,.ept (Ab.cells s0) 0),(4,.ptr 104 0),(6,iav r.1),(21,.ptr 121 0)],[(121,⟨true,[iav r.2.Clock,iav r.2.Anchor,iav r.2.Since,.str r.2.Pipe,iav r.2.Age,.str r.2.Vec,.str r.2.Agreed,iav r.2.Number,iav r.2.Regular,.str r.2.Members,.str r.2.Seen,.str r.2.Heard,.str r.2.Sent,.str r.2.Out,.str r.2.Line,.lst g0' (List.map Aj.av r.2.Ports),.lst g1' (List.map sav r.2.Hold),.lst g2' (List.map Al.av r.2.Log),iav r.2.Diag.a0,iav r.2.Diag.a1,iav r.2.Diag.a2,iav r.2.Diag.a3,iav r.2.Diag.a4,iav r.2.Diag.a5]⟩),(104,⟨true,[iav x3.Clock,iav x3.Anchor,iav x3.Since,.str x3.Pipe,iav x3.Age,.str x3.Vec,.str x3.Agreed,iav x3.Number,iav x3.Regular,.str x3.Members,.str x3.Seen,.str x3.Heard,.str x3.Sent,.str x3.Out,.str x3.Line,.lst g3' (List.map Aj.av x3.Ports),.lst g4' (List.map sav x3.Hold),.lst g5' (List.map Al.av x3.Log),iav x3.Diag.a0,iav x3.Diag.a1,iav x3.Diag.a2,iav x3.Diag.a3,iav x3.Diag.a4,iav x3.Diag.a5]⟩)]⟩)∧Mg 3 g0'∧Mg 1 g1'∧Mg 2 g2'∧Mg 3 g3'∧Mg 1 g4'∧Mg 2 g5'):=by
 refine lv (Xp i2 s0 x3) _ fun S hS hw hw8 R hR=> ?_
 rintro⟨o0,x0,x2⟩ env hp ⟨g0,g2,g3,g4,g5,g6,he,hg0,hg2,hg3,hg4,hg5,hg6⟩
 cases he
 show Sim (Gs i2 s0 x3 o0 x0 x2) _ _
 unfold Gs
 simp only[hw]
 refine au (.ite Iff.rfl (fun hc2=> ?_) fun hc2=> ?_)
 ·refine au (.hc hR ?_)
  rintro r20 q rfl
  refine au (.hc hR ?_)
  rintro r21 q rfl
  refine au (.hc hR ?_)
  rintro r22 q rfl
  refine au ?_
  refine Sim.kl hS rfl ?_
  refine au ?_
  refine Sim.kl hS (ys:=List.map Aj.av [(Aj.mk r20.1 r21.1 r22.1)]) rfl ?_
  refine au ?_
  first|(refine Sim.goB (Cj (by intro _;rfl) hg0 _) ?_)|skip
  refine au ?_
  first|(refine Sim.goB (Ca (by intro _;exact⟨rfl,rfl,rfl⟩) _) ?_)|skip
  refine au ?_
  first|refine Sim.ite (by simp) (fun _=> ?_) (fun _=>Sim.no)|refine Sim.guard (fun _=> ?_)
  exact fin
 ·exact fin
def Gn (i3:List UInt8)(s2:Ab)(x6:Aq)(o2 x4:Int)(x5:Aq):Option ((Int×Int×Aq)⊕(Int×Aq)):=
 if x4<(wr (s2.N*s2.D))then
  (Mi i3 o2 41).bind fun r24=>
  if List.length x5.Hold+List.length [r24.1]≤Ar then
   some (.inl (r24.2,(wr (x4+1)),(Aq.mk x5.Clock x5.Anchor x5.Since x5.Pipe x5.Age x5.Vec x5.Agreed x5.Number x5.Regular x5.Members x5.Seen x5.Heard x5.Sent x5.Out x5.Line x5.Ports (x5.Hold++[r24.1]) x5.Log x5.Diag)))
  else none
 else
  some (.inr (o2,x5))
def Rw (i3:List UInt8)(s2:Ab)(x6:Aq)(o2 x4:Int)(x5:Aq):Option (Int×Aq):=
 Ai (fun s:Int×Int×Aq=>Gn i3 s2 x6 s.1 s.2.1 s.2.2) (o2,x4,x5)
def Yb (i3:List UInt8)(s2:Ab)(x6:Aq)(v:Int×Int×Aq)(e:PF.St):Prop:= ∃g13,∃g14,∃g15,∃g16,∃g17,∃g18,e=⟨[(1,.str i3),(2,.ept (Ab.cells s2) 0),(4,.ptr 104 0),(6,iav v.1),(21,.ptr 121 0),(29,iav v.2.1)],[(121,⟨true,[iav v.2.2.Clock,iav v.2.2.Anchor,iav v.2.2.Since,.str v.2.2.Pipe,iav v.2.2.Age,.str v.2.2.Vec,.str v.2.2.Agreed,iav v.2.2.Number,iav v.2.2.Regular,.str v.2.2.Members,.str v.2.2.Seen,.str v.2.2.Heard,.str v.2.2.Sent,.str v.2.2.Out,.str v.2.2.Line,.lst g13 (List.map Aj.av v.2.2.Ports),.lst g14 (List.map sav v.2.2.Hold),.lst g15 (List.map Al.av v.2.2.Log),iav v.2.2.Diag.a0,iav v.2.2.Diag.a1,iav v.2.2.Diag.a2,iav v.2.2.Diag.a3,iav v.2.2.Diag.a4,iav v.2.2.Diag.a5]⟩),(104,⟨true,[iav x6.Clock,iav x6.Anchor,iav x6.Since,.str x6.Pipe,iav x6.Age,.str x6.Vec,.str x6.Agreed,iav x6.Number,iav x6.Regular,.str x6.Members,.str x6.Seen,.str x6.Heard,.str x6.Sent,.str x6.Out,.str x6.Line,.lst g16 (List.map Aj.av x6.Ports),.lst g17 (List.map sav x6.Hold),.lst g18 (List.map Al.av x6.Log),iav x6.Diag.a0,iav x6.Diag.a1,iav x6.Diag.a2,iav x6.Diag.a3,iav x6.Diag.a4,iav x6.Diag.a5]⟩)]⟩∧Mg 3 g13∧Mg 1 g14∧Mg 2 g15∧Mg 3 g16∧Mg 1 g17∧Mg 2 g18
instance Ajd (i3:List UInt8)(s2:Ab)(x6:Aq)(o2 x4:Int)(x5:Aq):HL (Rw i3 s2 x6 o2 x4 x5) LM ([1,2,4,6,21,29],[104,121],[1,2,4,6,21],Ath) (Yb i3 s2 x6 (o2,x4,x5)) (fun r (q:Ex×PF.St)=> ∃g0',∃g1',∃g2',∃g3',∃g4',∃g5',q=((.exit 2),⟨[(1,.str i3),(2,.ept (Ab.cells s2) 0),(4,.ptr 104 0),(6,iav r.1),(21,.ptr 121 0)],[(121,⟨true,[iav r.2.Clock,iav r.2.Anchor,iav r.2.Since,.str r.2.Pipe,iav r.2.Age,.str r.2.Vec,.str r.2.Agreed,iav r.2.Number,iav r.2.Regular,.str r.2.Members,.str r.2.Seen,.str r.2.Heard,.str r.2.Sent,.str r.2.Out,.str r.2.Line,.lst g0' (List.map Aj.av r.2.Ports),.lst g1' (List.map sav r.2.Hold),.lst g2' (List.map Al.av r.2.Log),iav r.2.Diag.a0,iav r.2.Diag.a1,iav r.2.Diag.a2,iav r.2.Diag.a3,iav r.2.Diag.a4,iav r.2.Diag.a5]⟩),(104,⟨true,[iav x6.Clock,iav x6.Anchor,iav x6.Since,.str x6.Pipe,iav x6.Age,.str x6.Vec,.str x6.Agreed,iav x6.Number,iav x6.Regular,.str x6.Members,.str x6.Seen,.str x6.Heard,.str x6.Sent,.str x6.Out,.str x6.Line,.lst g3' (List.map Aj.av x6.Ports),.lst g4' (List.map sav x6.Hold),.lst g5' (List.map Al.av x6.Log),iav x6.Diag.a0,iav x6.Diag.a1,iav x6.Diag.a2,iav x6.Diag.a3,iav x6.Diag.a4,iav x6.Diag.a5]⟩)]⟩)∧Mg 3 g0'∧Mg 1 g1'∧Mg 2 g2'∧Mg 3 g3'∧Mg 1 g4'∧Mg 2 g5'):=by
 refine lv (Yb i3 s2 x6) _ fun S hS hw hw8 R hR=> ?_
 rintro⟨o2,x4,x5⟩ env hp ⟨g13,g14,g15,g16,g17,g18,he,hg13,hg14,hg15,hg16,hg17,hg18⟩
 cases he
 show Sim (Gn i3 s2 x6 o2 x4 x5) _ _
 unfold Gn
 simp only[hw]
 refine au (.ite Iff.rfl (fun hc3=> ?_) fun hc3=> ?_)
 ·refine au (.hc hR ?_)
  rintro r24 q rfl
  refine au ?_
  refine Sim.kl hS rfl ?_
  refine au ?_
  refine Sim.kl hS (ys:=List.map sav [r24.1]) rfl ?_
  refine au ?_
  first|(refine Sim.goB (Cj (by intro _;rfl) hg14 _) ?_)|skip
  refine au ?_
  first|(refine Sim.goB (Ca (by intro _;exact⟨rfl,rfl,rfl⟩) _) ?_)|skip
  refine au ?_
  first|refine Sim.ite (by simp) (fun _=> ?_) (fun _=>Sim.no)|refine Sim.guard (fun _=> ?_)
  exact fin
 ·exact fin
def Gq (i4:List UInt8)(s3:Ab)(x7:Int)(x10:Aq)(o3 x8:Int)(x9:Aq):Option ((Int×Int×Aq)⊕(Int×Aq)):=
 if x8<x7 then
  (C7 i4 (wr (o3+1)) 2).bind fun r27=>
  (Hi i4 o3).bind fun r28=>
  if s3.N=0 then none else
  if List.length x9.Log+List.length [(Al.mk (Int.tmod r28 s3.N) r27.1)]≤Ar then
   some (.inl (r27.2,(wr (x8+1)),(Aq.mk x9.Clock x9.Anchor x9.Since x9.Pipe x9.Age x9.Vec x9.Agreed x9.Number x9.Regular x9.Members x9.Seen x9.Heard x9.Sent x9.Out x9.Line x9.Ports x9.Hold (x9.Log++[(Al.mk (Int.tmod r28 s3.N) r27.1)]) x9.Diag)))
  else none
 else
  some (.inr (o3,x9))
def R7 (i4:List UInt8)(s3:Ab)(x7:Int)(x10:Aq)(o3 x8:Int)(x9:Aq):Option (Int×Aq):=
 Ai (fun s:Int×Int×Aq=>Gq i4 s3 x7 x10 s.1 s.2.1 s.2.2) (o3,x8,x9)
def Wy (i4:List UInt8)(s3:Ab)(x7:Int)(x10:Aq)(v:Int×Int×Aq)(e:PF.St):Prop:= ∃g25,∃g26,∃g27,∃g28,∃g29,∃g30,e=⟨[(1,.str i4),(2,.ept (Ab.cells s3) 0),(4,.ptr 104 0),(6,iav v.1),(21,.ptr 121 0),(32,iav x7),(33,iav v.2.1)],[(121,⟨true,[iav v.2.2.Clock,iav v.2.2.Anchor,iav v.2.2.Since,.str v.2.2.Pipe,iav v.2.2.Age,.str v.2.2.Vec,.str v.2.2.Agreed,iav v.2.2.Number,iav v.2.2.Regular,.str v.2.2.Members,.str v.2.2.Seen,.str v.2.2.Heard,.str v.2.2.Sent,.str v.2.2.Out,.str v.2.2.Line,.lst g25 (List.map Aj.av v.2.2.Ports),.lst g26 (List.map sav v.2.2.Hold),.lst g27 (List.map Al.av v.2.2.Log),iav v.2.2.Diag.a0,iav v.2.2.Diag.a1,iav v.2.2.Diag.a2,iav v.2.2.Diag.a3,iav v.2.2.Diag.a4,iav v.2.2.Diag.a5]⟩),(104,⟨true,[iav x10.Clock,iav x10.Anchor,iav x10.Since,.str x10.Pipe,iav x10.Age,.str x10.Vec,.str x10.Agreed,iav x10.Number,iav x10.Regular,.str x10.Members,.str x10.Seen,.str x10.Heard,.str x10.Sent,.str x10.Out,.str x10.Line,.lst g28 (List.map Aj.av x10.Ports),.lst g29 (List.map sav x10.Hold),.lst g30 (List.map Al.av x10.Log),iav x10.Diag.a0,iav x10.Diag.a1,iav x10.Diag.a2,iav x10.Diag.a3,iav x10.Diag.a4,iav x10.Diag.a5]⟩)]⟩∧Mg 3 g25∧Mg 1 g26∧Mg 2 g27∧Mg 3 g28∧Mg 1 g29∧Mg 2 g30
instance Agu (i4:List UInt8)(s3:Ab)(x7:Int)(x10:Aq)(o3 x8:Int)(x9:Aq):HL (R7 i4 s3 x7 x10 o3 x8 x9) LM ([1,2,4,6,21,32,33],[104,121],[1,2,4,6,21],Ast) (Wy i4 s3 x7 x10 (o3,x8,x9)) (fun r (q:Ex×PF.St)=> ∃g0',∃g1',∃g2',∃g3',∃g4',∃g5',q=((.exit 4),⟨[(1,.str i4),(2,.ept (Ab.cells s3) 0),(4,.ptr 104 0),(6,iav r.1),(21,.ptr 121 0)],[(121,⟨true,[iav r.2.Clock,iav r.2.Anchor,iav r.2.Since,.str r.2.Pipe,iav r.2.Age,.str r.2.Vec,.str r.2.Agreed,iav r.2.Number,iav r.2.Regular,.str r.2.Members,.str r.2.Seen,.str r.2.Heard,.str r.2.Sent,.str r.2.Out,.str r.2.Line,.lst g0' (List.map Aj.av r.2.Ports),.lst g1' (List.map sav r.2.Hold),.lst g2' (List.map Al.av r.2.Log),iav r.2.Diag.a0,iav r.2.Diag.a1,iav r.2.Diag.a2,iav r.2.Diag.a3,iav r.2.Diag.a4,iav r.2.Diag.a5]⟩),(104,⟨true,[iav x10.Clock,iav x10.Anchor,iav x10.Since,.str x10.Pipe,iav x10.Age,.str x10.Vec,.str x10.Agreed,iav x10.Number,iav x10.Regular,.str x10.Members,.str x10.Seen,.str x10.Heard,.str x10.Sent,.str x10.Out,.str x10.Line,.lst g3' (List.map Aj.av x10.Ports),.lst g4' (List.map sav x10.Hold),.lst g5' (List.map Al.av x10.Log),iav x10.Diag.a0,iav x10.Diag.a1,iav x10.Diag.a2,iav x10.Diag.a3,iav x10.Diag.a4,iav x10.Diag.a5]⟩)]⟩)∧Mg 3 g0'∧Mg 1 g1'∧Mg 2 g2'∧Mg 3 g3'∧Mg 1 g4'∧Mg 2 g5'):=by
 refine lv (Wy i4 s3 x7 x10) _ fun S hS hw hw8 R hR=> ?_
 rintro⟨o3,x8,x9⟩ env hp ⟨g25,g26,g27,g28,g29,g30,he,hg25,hg26,hg27,hg28,hg29,hg30⟩
 cases he
 show Sim (Gq i4 s3 x7 x10 o3 x8 x9) _ _
 unfold Gq
 simp only[hw]
 refine au (.ite Iff.rfl (fun hc4=> ?_) fun hc4=> ?_)
 ·refine au (.hc hR ?_)
  rintro r27 q rfl
  refine au ?_
  refine Sim.kl hS rfl ?_
  refine au (.hc hR ?_)
  rintro r28 q rfl
  refine au ?_
  refine Sim.ite Iff.rfl (fun _=>Sim.no) (fun hc5=> ?_)
  refine au ?_
  refine Sim.kl hS (ys:=List.map Al.av [(Al.mk (Int.tmod r28 s3.N) r27.1)]) rfl ?_
  refine au ?_
  first|(refine Sim.goB (Cj (by intro _;rfl) hg27 _) ?_)|skip
  refine au ?_
  first|(refine Sim.goB (Ca (by intro _;exact⟨rfl,rfl,rfl⟩) _) ?_)|skip
  refine au ?_
  first|refine Sim.ite (by simp) (fun _=> ?_) (fun _=>Sim.no)|refine Sim.guard (fun _=> ?_)
  exact fin
 ·exact fin
def Ev (i5:List UInt8)(s4:Ab)(x13:Aq)(o4 x11:Int)(x12:Aq):Option ((Int×Int×Aq)⊕Aq):=
 if x11<6 then
  (C7 i5 o4 2).bind fun r30=>
  if 0≤x11∧x11<(6:Nat)then
   (Ar6.set? x12.Diag (Int.toNat x11) r30.1).bind fun y0=>
   some (.inl (r30.2,(wr (x11+1)),(Aq.mk x12.Clock x12.Anchor x12.Since x12.Pipe x12.Age x12.Vec x12.Agreed x12.Number x12.Regular x12.Members x12.Seen x12.Heard x12.Sent x12.Out x12.Line x12.Ports x12.Hold x12.Log y0)))
  else none
 else
  some (.inr x12)
def R1 (i5:List UInt8)(s4:Ab)(x13:Aq)(o4 x11:Int)(x12:Aq):Option Aq:=
 Ai (fun s:Int×Int×Aq=>Ev i5 s4 x13 s.1 s.2.1 s.2.2) (o4,x11,x12)
def Xw (i5:List UInt8)(s4:Ab)(x13:Aq)(v:Int×Int×Aq)(e:PF.St):Prop:= ∃g37,∃g38,∃g39,∃g40,∃g41,∃g42,e=⟨[(1,.str i5),(2,.ept (Ab.cells s4) 0),(4,.ptr 104 0),(6,iav v.1),(21,.ptr 121 0),(36,iav v.2.1)],[(121,⟨true,[iav v.2.2.Clock,iav v.2.2.Anchor,iav v.2.2.Since,.str v.2.2.Pipe,iav v.2.2.Age,.str v.2.2.Vec,.str v.2.2.Agreed,iav v.2.2.Number,iav v.2.2.Regular,.str v.2.2.Members,.str v.2.2.Seen,.str v.2.2.Heard,.str v.2.2.Sent,.str v.2.2.Out,.str v.2.2.Line,.lst g37 (List.map Aj.av v.2.2.Ports),.lst g38 (List.map sav v.2.2.Hold),.lst g39 (List.map Al.av v.2.2.Log),iav v.2.2.Diag.a0,iav v.2.2.Diag.a1,iav v.2.2.Diag.a2,iav v.2.2.Diag.a3,iav v.2.2.Diag.a4,iav v.2.2.Diag.a5]⟩),(104,⟨true,[iav x13.Clock,iav x13.Anchor,iav x13.Since,.str x13.Pipe,iav x13.Age,.str x13.Vec,.str x13.Agreed,iav x13.Number,iav x13.Regular,.str x13.Members,.str x13.Seen,.str x13.Heard,.str x13.Sent,.str x13.Out,.str x13.Line,.lst g40 (List.map Aj.av x13.Ports),.lst g41 (List.map sav x13.Hold),.lst g42 (List.map Al.av x13.Log),iav x13.Diag.a0,iav x13.Diag.a1,iav x13.Diag.a2,iav x13.Diag.a3,iav x13.Diag.a4,iav x13.Diag.a5]⟩)]⟩∧Mg 3 g37∧Mg 1 g38∧Mg 2 g39∧Mg 3 g40∧Mg 1 g41∧Mg 2 g42
instance Ail (i5:List UInt8)(s4:Ab)(x13:Aq)(o4 x11:Int)(x12:Aq):HL (R1 i5 s4 x13 o4 x11 x12) LM ([1,2,4,6,21,36],[104,121],[2,4,21],Asp) (Xw i5 s4 x13 (o4,x11,x12)) (fun r (q:Ex×PF.St)=> ∃g0',∃g1',∃g2',∃g3',∃g4',∃g5',q=((.exit 6),⟨[(2,.ept (Ab.cells s4) 0),(4,.ptr 104 0),(21,.ptr 121 0)],[(121,⟨true,[iav r.Clock,iav r.Anchor,iav r.Since,.str r.Pipe,iav r.Age,.str r.Vec,.str r.Agreed,iav r.Number,iav r.Regular,.str r.Members,.str r.Seen,.str r.Heard,.str r.Sent,.str r.Out,.str r.Line,.lst g0' (List.map Aj.av r.Ports),.lst g1' (List.map sav r.Hold),.lst g2' (List.map Al.av r.Log),iav r.Diag.a0,iav r.Diag.a1,iav r.Diag.a2,iav r.Diag.a3,iav r.Diag.a4,iav r.Diag.a5]⟩),(104,⟨true,[iav x13.Clock,iav x13.Anchor,iav x13.Since,.str x13.Pipe,iav x13.Age,.str x13.Vec,.str x13.Agreed,iav x13.Number,iav x13.Regular,.str x13.Members,.str x13.Seen,.str x13.Heard,.str x13.Sent,.str x13.Out,.str x13.Line,.lst g3' (List.map Aj.av x13.Ports),.lst g4' (List.map sav x13.Hold),.lst g5' (List.map Al.av x13.Log),iav x13.Diag.a0,iav x13.Diag.a1,iav x13.Diag.a2,iav x13.Diag.a3,iav x13.Diag.a4,iav x13.Diag.a5]⟩)]⟩)∧Mg 3 g0'∧Mg 1 g1'∧Mg 2 g2'∧Mg 3 g3'∧Mg 1 g4'∧Mg 2 g5'):=by
 refine lv (Xw i5 s4 x13) _ fun S hS hw hw8 R hR=> ?_
 rintro⟨o4,x11,x12⟩ env hp ⟨g37,g38,g39,g40,g41,g42,he,hg37,hg38,hg39,hg40,hg41,hg42⟩
 cases he
 show Sim (Ev i5 s4 x13 o4 x11 x12) _ _
 unfold Ev
 simp only[hw]
 refine au (.ite Iff.rfl (fun hc6=> ?_) fun hc6=> ?_)
 ·refine au (.hc hR ?_)
  rintro r30 q rfl
  refine au ?_
  first|refine Sim.ite Iff.rfl (fun hb=> ?_) (fun _=>Sim.no)|refine Sim.guard (fun hb=> ?_)
  refine au ?_
  refine Sim.opt (f:=fun y0=>[iav x12.Clock,iav x12.Anchor,iav x12.Since,.str x12.Pipe,iav x12.Age,.str x12.Vec,.str x12.Agreed,iav x12.Number,iav x12.Regular,.str x12.Members,.str x12.Seen,.str x12.Heard,.str x12.Sent,.str x12.Out,.str x12.Line,.lst g37 (List.map Aj.av x12.Ports),.lst g38 (List.map sav x12.Hold),.lst g39 (List.map Al.av x12.Log),iav y0.a0,iav y0.a1,iav y0.a2,iav y0.a3,iav y0.a4,iav y0.a5]) (by have hb':(Int.toNat x11)<6:=(by omega);generalize (Int.toNat x11)=j at hb' ⊢;rcases j with _|_|_|_|_|_|j<;>first|rfl|exact absurd hb' (by omega)) (fun y0 _=> ?_)
  exact fin
 ·exact fin
def Ur (L0:Ab)(i0:List UInt8):Option Aq:=
 (Bg L0).bind fun r0=>
 if r0≠0 then
  some (Aq.mk 0 0 0 ([]:List UInt8) 0 ([]:List UInt8) ([]:List UInt8) 0 0 ([]:List UInt8) ([]:List UInt8) ([]:List UInt8) ([]:List UInt8) ([]:List UInt8) ([]:List UInt8) ([]:List Aj) ([]:List (List UInt8)) ([]:List Al) (Ar6.mk 0 0 0 0 0 0))
 else
  (C7 i0 0 2).bind fun r2=>
  (C7 i0 r2.2 2).bind fun r3=>
  (C7 i0 r3.2 2).bind fun r4=>
  (C7 i0 r4.2 1).bind fun r5=>
  (C7 i0 r5.2 1).bind fun r6=>
  (C7 i0 r6.2 1).bind fun r7=>
  (Kf L0).bind fun r8=>
  (Lu i0 r7.2 r8).bind fun r9=>
  (Pi L0).bind fun r10=>
  (Mr i0 r9.2 r10).bind fun r11=>
  (Pi L0).bind fun r12=>
  (Mr i0 r11.2 r12).bind fun r13=>
  (Lu i0 r13.2 L0.N).bind fun r14=>
  (Lu i0 r14.2 L0.N).bind fun r15=>
  (Lu i0 r15.2 (List.length L0.Table:Int)).bind fun r16=>
  (Lu i0 r16.2 (List.length L0.Table:Int)).bind fun r17=>
  (Mi i0 r17.2 17).bind fun r18=>
  (Mi i0 r18.2 17).bind fun r19=>
  (Rs i0 L0 (Aq.mk 0 0 0 ([]:List UInt8) 0 ([]:List UInt8) ([]:List UInt8) 0 0 ([]:List UInt8) ([]:List UInt8) ([]:List UInt8) ([]:List UInt8) ([]:List UInt8) ([]:List UInt8) ([]:List Aj) ([]:List (List UInt8)) ([]:List Al) (Ar6.mk 0 0 0 0 0 0)) r19.2 0 (Aq.mk r2.1 r3.1 r4.1 r9.1 r5.1 r11.1 r13.1 r6.1 r7.1 r14.1 r15.1 r16.1 r17.1 r18.1 r19.1 ([]:List Aj) ([]:List (List UInt8)) ([]:List Al) (Ar6.mk 0 0 0 0 0 0))).bind fun r23=>
  (Rw i0 L0 (Aq.mk 0 0 0 ([]:List UInt8) 0 ([]:List UInt8) ([]:List UInt8) 0 0 ([]:List UInt8) ([]:List UInt8) ([]:List UInt8) ([]:List UInt8) ([]:List UInt8) ([]:List UInt8) ([]:List Aj) ([]:List (List UInt8)) ([]:List Al) (Ar6.mk 0 0 0 0 0 0)) r23.1 0 r23.2).bind fun r25=>
  (Hi i0 r25.1).bind fun r26=>
  (R7 i0 L0 (Int.tmod r26 65) (Aq.mk 0 0 0 ([]:List UInt8) 0 ([]:List UInt8) ([]:List UInt8) 0 0 ([]:List UInt8) ([]:List UInt8) ([]:List UInt8) ([]:List UInt8) ([]:List UInt8) ([]:List UInt8) ([]:List Aj) ([]:List (List UInt8)) ([]:List Al) (Ar6.mk 0 0 0 0 0 0)) (wr (r25.1+1)) 0 r25.2).bind fun r29=>
  (R1 i0 L0 (Aq.mk 0 0 0 ([]:List UInt8) 0 ([]:List UInt8) ([]:List UInt8) 0 0 ([]:List UInt8) ([]:List UInt8) ([]:List UInt8) ([]:List UInt8) ([]:List UInt8) ([]:List UInt8) ([]:List Aj) ([]:List (List UInt8)) ([]:List Al) (Ar6.mk 0 0 0 0 0 0)) r29.1 0 r29.2).bind fun r31=>
  (Tp L0 r31).bind fun r32=>
  some r32
instance App (L0:Ab)(i0:List UInt8):HE Aq.av (Ur L0 i0) 47 [Ab.av L0,.str i0]:=⟨by
 unfold Ur
 refine sv fun S hS hw hw8 R hR=> ?_
 simp only[hw]
 refine au (.hc hR ?_)
 rintro r0 q rfl
 refine au (.ite Iff.rfl (fun hc=> ?_) fun hc=> ?_)
 ·exact fin
 ·refine au (.hc hR ?_)
  rintro r2 q rfl
  refine au (.hc hR ?_)
  rintro r3 q rfl
  refine au (.hc hR ?_)
  rintro r4 q rfl
  refine au (.hc hR ?_)
  rintro r5 q rfl
  refine au (.hc hR ?_)
  rintro r6 q rfl
  refine au (.hc hR ?_)
  rintro r7 q rfl
  refine au (.hc hR ?_)
  rintro r8 q rfl
  refine au (.hc hR ?_)
  rintro r9 q rfl
  refine au (.hc hR ?_)
  rintro r10 q rfl
  refine au (.hc hR ?_)
  rintro r11 q rfl
  refine au (.hc hR ?_)
  rintro r12 q rfl
  refine au (.hc hR ?_)
  rintro r13 q rfl
  refine au (.hc hR ?_)
  rintro r14 q rfl
  refine au (.hc hR ?_)
  rintro r15 q rfl
  refine au ?_
  refine Sim.ki hS (m:=(List.length L0.Table:Int)) (by simp) ?_
  refine au (.hc hR ?_)
  rintro r16 q rfl
  refine au ?_
  refine Sim.ki hS (m:=(List.length L0.Table:Int)) (by simp) ?_
  refine au (.hc hR ?_)
  rintro r17 q rfl
  refine au (.hc hR ?_)
  rintro r18 q rfl
  refine au (.hc hR ?_)
  rintro r19 q rfl
  refine au ?_
  refine Sim.hl hR kp pz ?_
  rintro r23 q ⟨g7,g8,g9,g10,g11,g12,rfl,hg7,hg8,hg9,hg10,hg11,hg12⟩
  refine au ?_
  refine Sim.hl hR kp pz ?_
  rintro r25 q ⟨g19,g20,g21,g22,g23,g24,rfl,hg19,hg20,hg21,hg22,hg23,hg24⟩
  refine au (.hc hR ?_)
  rintro r26 q rfl
  refine au ?_
  refine Sim.hl hR kp pz ?_
  rintro r29 q ⟨g31,g32,g33,g34,g35,g36,rfl,hg31,hg32,hg33,hg34,hg35,hg36⟩
  refine au ?_
  refine Sim.hl hR kp pz ?_
  rintro r31 q ⟨g43,g44,g45,g46,g47,g48,rfl,hg43,hg44,hg45,hg46,hg47,hg48⟩
  exact fin⟩
def Ge (c0:Ab)(n0:Int):Option Bool:=
 if 0≤n0 then
  (Dk c0.N 0 13).bind fun r0=>
  some (decide (n0<r0))
 else
  some false
instance Ao4 (c0:Ab)(n0:Int):HE bav (Ge c0 n0) 105 [Ab.av c0,iav n0]:=⟨by unfold Ge;exact sa⟩
def Ty (s0:Aa)(n0:Int):Option ((List UInt8)):=
 if n0<0 then
  some ([]:List UInt8)
 else
  if(List.length s0.Images:Int)≤n0 then
   some ([]:List UInt8)
  else
   (Ge s0.Conf n0).bind fun r0=>
   if(!r0)=true then
    some ([]:List UInt8)
   else
    (idx? s0.Images n0).bind fun z0=>
    some z0
instance Ans (s0:Aa)(n0:Int):HE sav (Ty s0 n0) 48 [Aa.av s0,iav n0]:=⟨by unfold Ty;exact sa⟩
def Ip (i3 s3:Int)(t2:Aa)(r4:Int)(A2:List UInt8)(r5:Int):Option (((List UInt8)×Int)⊕((List UInt8))):=
 (idx? t2.Ticks r4).bind fun z0=>
 if r5<(List.length z0.Bursts:Int)then
  (idx? t2.Ticks r4).bind fun z2=>
  (idx? z2.Bursts r5).bind fun z3=>
  if z3.Node=i3 then
   (idx? t2.Ticks r4).bind fun z4=>
   (idx? z4.Bursts r5).bind fun z5=>
   (Ur t2.Conf z5.Image).bind fun r6=>
   some (.inl (r6.Out,(wr (r5+1))))
  else
   some (.inl (A2,(wr (r5+1))))
 else
  some (.inr A2)
def Vu (i3 s3:Int)(t2:Aa)(r4:Int)(A2:List UInt8)(r5:Int):Option ((List UInt8)):=
 Ai (fun s:(List UInt8)×Int=>Ip i3 s3 t2 r4 s.1 s.2) (A2,r5)
def jS (i3 s3:Int)(t2:Aa)(r4:Int)(v:(List UInt8)×Int)(e:PF.St):Prop:=e=⟨[(1,iav i3),(2,iav s3),(3,.ept (Aa.cells t2) 0),(7,.str v.1),(8,iav r4),(9,iav v.2)],[]⟩
instance Ak9 (i3 s3:Int)(t2:Aa)(r4:Int)(A2:List UInt8)(r5:Int):HL (Vu i3 s3 t2 r4 A2 r5) LM ([1,2,3,7,8,9],[],[1,2,3,7,8],As5) (jS i3 s3 t2 r4 (A2,r5)) (rE fun r=>((.exit 2),⟨[(1,iav i3),(2,iav s3),(3,.ept (Aa.cells t2) 0),(7,.str r),(8,iav r4)],[]⟩)):=by unfold Vu Ip;exact lf
def Iu (i4 s4:Int)(t3:Aa)(r8:Int)(A3:List UInt8)(a0:Int):Option (((List UInt8)×Int)⊕((List UInt8))):=
 (idx? t3.Ticks r8).bind fun z6=>
 if a0<(List.length z6.Writes:Int)then
  (idx? t3.Ticks r8).bind fun z7=>
  (idx? z7.Writes a0).bind fun z8=>
  if z8.Node=i4 then
   (idx? t3.Ticks r8).bind fun z9=>
   (idx? z9.Writes a0).bind fun z10=>
   some (.inl (z10.Text,(wr (a0+1))))
  else
   some (.inl (A3,(wr (a0+1))))
 else
  some (.inr A3)
def V4 (i4 s4:Int)(t3:Aa)(r8:Int)(A3:List UInt8)(a0:Int):Option ((List UInt8)):=
 Ai (fun s:(List UInt8)×Int=>Iu i4 s4 t3 r8 s.1 s.2) (A3,a0)
def iX (i4 s4:Int)(t3:Aa)(r8:Int)(v:(List UInt8)×Int)(e:PF.St):Prop:=e=⟨[(1,iav i4),(2,iav s4),(3,.ept (Aa.cells t3) 0),(7,.str v.1),(8,iav r8),(10,iav v.2)],[]⟩
instance Akh (i4 s4:Int)(t3:Aa)(r8:Int)(A3:List UInt8)(a0:Int):HL (V4 i4 s4 t3 r8 A3 a0) LM ([1,2,3,7,8,10],[],[1,2,3,7,8],Ars) (iX i4 s4 t3 r8 (A3,a0)) (rE fun r=>((.exit 4),⟨[(1,iav i4),(2,iav s4),(3,.ept (Aa.cells t3) 0),(7,.str r),(8,iav r8)],[]⟩)):=by unfold V4 Iu;exact lf
def I0 (i2 s2:Int)(t0:Aa)(A0:List UInt8)(r3:Int):Option (((List UInt8)×Int)⊕((List UInt8))):=
 if r3≤s2 then
  if r3<(List.length t0.Ticks:Int)then
   (Vu i2 s2 t0 r3 A0 0).bind fun r7=>
   (V4 i2 s2 t0 r3 r7 0).bind fun r9=>
   some (.inl (r9,(wr (r3+1))))
  else
   some (.inr A0)
 else
  some (.inr A0)
def Ux (i2 s2:Int)(t0:Aa)(A0:List UInt8)(r3:Int):Option ((List UInt8)):=
 Ai (fun s:(List UInt8)×Int=>I0 i2 s2 t0 s.1 s.2) (A0,r3)
def kM (i2 s2:Int)(t0:Aa)(v:(List UInt8)×Int)(e:PF.St):Prop:=e=⟨[(1,iav i2),(2,iav s2),(3,.ept (Aa.cells t0) 0),(7,.str v.1),(8,iav v.2)],[]⟩
instance Aie (i2 s2:Int)(t0:Aa)(A0:List UInt8)(r3:Int):HL (Ux i2 s2 t0 A0 r3) LM ([1,2,3,7,8],[],[7],Asc) (kM i2 s2 t0 (A0,r3)) (rE fun r=>((.exit 0),⟨[(7,.str r)],[]⟩)):=by unfold Ux I0;exact lf
def Xg (L0:Aa)(i0 s0:Int):Option ((List UInt8)):=
 if i0<0 then
  some ([]:List UInt8)
 else
  if(min L0.Conf.N 13)≤i0 then
   some ([]:List UInt8)
  else
   (Ty L0 i0).bind fun r0=>
   (Ur L0.Conf r0).bind fun r2=>
   (Ux i0 s0 L0 r2.Out 0).bind fun r10=>
   some r10
instance Aoc (L0:Aa)(i0 s0:Int):HE sav (Xg L0 i0 s0) 14 [Aa.av L0,iav i0,iav s0]:=⟨by unfold Xg;exact sa⟩
def Hz (c0:Ab)(slot:Int):Option Int:=
 (Bg c0).bind fun r0=>
 if r0≠0 then
  some 0
 else
  if slot<0 then
   some 0
  else
   if(List.length c0.Table:Int)≤slot then
    some 0
   else
    some (wr (c0.Offset+(wr (slot*c0.Slot))))
instance Anq (c0:Ab)(slot:Int):HE iav (Hz c0 slot) 144 [Ab.av c0,iav slot]:=⟨by unfold Hz;exact sa⟩
def N5 (c0:Ab)(slot:Int):Option Int:=
 (Bg c0).bind fun r0=>
 if r0≠0 then
  some 0
 else
  if slot<0 then
   some 0
  else
   if(List.length c0.Table:Int)≤slot then
    some 0
   else
    (Hz c0 slot).bind fun r2=>
    some (wr (r2+(wr (Int.tdiv c0.Slot 2))))
instance Alq (c0:Ab)(slot:Int):HE iav (N5 c0 slot) 173 [Ab.av c0,iav slot]:=⟨by unfold N5;exact sa⟩
def Tm (c0:Ab):Option Int:=
 (Bg c0).bind fun r0=>
 if r0≠0 then
  some 0
 else
  (N5 c0 (wr ((List.length c0.Table:Int)-1))).bind fun r2=>
  if(wr (c0.Rate-c0.Drift))=0 then none else
  if 0<(Int.tmod (wr ((wr (2*c0.Drift))*r2)) (wr (c0.Rate-c0.Drift)))then
   some (wr ((wr ((wr ((wr (Int.tdiv (wr ((wr (2*c0.Drift))*r2)) (wr (c0.Rate-c0.Drift))))+1))+c0.Rate))+(wr ((wr (c0.D+1))*c0.Drift))))
  else
   some (wr ((wr ((wr (Int.tdiv (wr ((wr (2*c0.Drift))*r2)) (wr (c0.Rate-c0.Drift))))+c0.Rate))+(wr ((wr (c0.D+1))*c0.Drift))))
instance Am2 (c0:Ab):HE iav (Tm c0) 172 [Ab.av c0]:=⟨by unfold Tm;exact sa⟩
def Q7 (c0:Ab):Option Int:=
 (Bg c0).bind fun r0=>
 if r0≠0 then
  (Bg c0).bind fun r2=>
  some r2
 else
  (Tm c0).bind fun r3=>
  (N5 c0 (wr ((List.length c0.Table:Int)-1))).bind fun r4=>
  if c0.Slot≤(wr (2*r3))then
   some 8
  else
   if(wr ((wr (c0.Period-1))*(wr (c0.Rate-c0.Drift))))<(wr ((wr (r4+(wr (c0.D*c0.Rate))))+r3))then
    some 8
   else
    if 32768≤(wr (c0.Period*(wr (c0.Rate+c0.Drift))))then
     some 8
    else
     some 0
instance Anm (c0:Ab):HE iav (Q7 c0) 106 [Ab.av c0]:=⟨by unfold Q7;exact sa⟩
def Eo (l2:List Int)(i0:Int):Option ((Int)⊕((Bool)⊕(Unit))):=
 if i0<(List.length l2:Int)then
  (idx? l2 i0).bind fun z0=>
  if z0<0 then
   some (.inr (.inl false))
  else
   (idx? l2 i0).bind fun z2=>
   if 65535<z2 then
    some (.inr (.inl false))
   else
    some (.inl (wr (i0+1)))
 else
  some (.inr (.inr ()))
def Vk (l2:List Int)(i0:Int):Option ((Bool)⊕(Unit)):=
 Ai (fun s:Int=>Eo l2 s) i0
def dA (l2:List Int)(v:Int)(e:PF.St):Prop:=e=⟨[(0,lav iav l2),(5,iav v)],[]⟩
instance Abu (l2:List Int)(i0:Int):HL (Vk l2 i0) LM ([0,5],[],[4],Amb) (dA l2 i0) (rS (rE fun r=>(Ex.ret,⟨[(4,.bool r)],[]⟩)) (rE fun r=>((.exit 0),⟨[(4,.undef)],[]⟩))):=by unfold Vk Eo;exact lf
def L6 (l0:List Int)(n0:Int):Option Bool:=
 if n0<(List.length l0:Int)then
  some false
 else
  (Vk l0 0).bind fun r0=>
  Sum.elim
   (fun r2=>
     some r2)
   (fun r3=>
     some true)
   r0
instance Aiz (l0:List Int)(n0:Int):HE bav (L6 l0 n0) 174 [lav iav l0,iav n0]:=⟨by unfold L6;exact sa⟩
def Dj (t2:Am)(x0:List Ay)(x2:Int)(out:List Int)(x3:Int):Option (((List Int)×Int)⊕((List Int))):=
 if x3<x2 then
  (idx? x0 x3).bind fun z0=>
  if List.length out+List.length [z0.Delay]≤Ar then
   some (.inl ((out++[z0.Delay]),(wr (x3+1))))
  else none
 else
  some (.inr out)
def Xn (t2:Am)(x0:List Ay)(x2:Int)(out:List Int)(x3:Int):Option ((List Int)):=
 Ai (fun s:(List Int)×Int=>Dj t2 x0 x2 s.1 s.2) (out,x3)
def Wm (t2:Am)(x0:List Ay)(x2:Int)(v:(List Int)×Int)(e:PF.St):Prop:= ∃g0,e=⟨[(1,.ept (Am.cells t2) 0),(3,.lst g0 (List.map iav v.1)),(9,lav Ay.av x0),(10,iav x2),(11,iav v.2)],[]⟩∧Mg 1 g0
instance Afk (t2:Am)(x0:List Ay)(x2:Int)(out:List Int)(x3:Int):HL (Xn t2 x0 x2 out x3) LM ([1,3,9,10,11],[],[1,3],Al2) (Wm t2 x0 x2 (out,x3)) (fun r (q:Ex×PF.St)=> ∃g0',q=((.exit 0),⟨[(1,.ept (Am.cells t2) 0),(3,.lst g0' (List.map iav r))],[]⟩)∧Mg 1 g0'):=by
 refine lv (Wm t2 x0 x2) _ fun S hS hw hw8 R hR=> ?_
 rintro⟨out,x3⟩ env hp ⟨g0,he,hg0⟩
 cases he
 show Sim (Dj t2 x0 x2 out x3) _ _
 unfold Dj
 simp only[hw]
 refine au (.ite Iff.rfl (fun hc=> ?_) fun hc=> ?_)
 ·refine au ?_
  refine Sim.ix (by simp) (fun z0 hz0=> ?_)
  refine au ?_
  refine Sim.go (Bw _ hz0) ?_
  refine au ?_
  refine Sim.kl hS (ys:=List.map iav [z0.Delay]) rfl ?_
  refine au ?_
  first|(refine Sim.goB (Cj (by intro _;rfl) hg0 _) ?_)|skip
  refine au ?_
  first|(refine Sim.goB (Ca (by intro _;exact⟨rfl,rfl,rfl⟩) _) ?_)|skip
  refine au ?_
  first|refine Sim.ite (by simp) (fun _=> ?_) (fun _=>Sim.no)|refine Sim.guard (fun _=> ?_)
  exact fin
 ·exact fin
def Di (x4:List Ay)(x5:Int)(out2:List Int)(x6:Int):Option (((List Int)×Int)⊕((List Int))):=
 if x6<x5 then
  (idx? x4 x6).bind fun z2=>
  if List.length out2+List.length [z2.Delay]≤Ar then
   some (.inl ((out2++[z2.Delay]),(wr (x6+1))))
  else none
 else
  some (.inr out2)
def X0 (x4:List Ay)(x5:Int)(out2:List Int)(x6:Int):Option ((List Int)):=
 Ai (fun s:(List Int)×Int=>Di x4 x5 s.1 s.2) (out2,x6)
def Wn (x4:List Ay)(x5:Int)(v:(List Int)×Int)(e:PF.St):Prop:= ∃g3,e=⟨[(3,.lst g3 (List.map iav v.1)),(22,lav Ay.av x4),(23,iav x5),(24,iav v.2)],[]⟩∧Mg 1 g3
instance Afx (x4:List Ay)(x5:Int)(out2:List Int)(x6:Int):HL (X0 x4 x5 out2 x6) LM ([3,22,23,24],[],[3],Agz) (Wn x4 x5 (out2,x6)) (fun r (q:Ex×PF.St)=> ∃g0',q=((.exit 2),⟨[(3,.lst g0' (List.map iav r))],[]⟩)∧Mg 1 g0'):=by
 refine lv (Wn x4 x5) _ fun S hS hw hw8 R hR=> ?_
 rintro⟨out2,x6⟩ env hp ⟨g3,he,hg3⟩
 cases he
 show Sim (Di x4 x5 out2 x6) _ _
 unfold Di
 simp only[hw]
 refine au (.ite Iff.rfl (fun hc2=> ?_) fun hc2=> ?_)
 ·refine au ?_
  refine Sim.ix (by simp) (fun z2 hz2=> ?_)
  refine au ?_
  refine Sim.go (Bw _ hz2) ?_
  refine au ?_
  refine Sim.kl hS (ys:=List.map iav [z2.Delay]) rfl ?_
  refine au ?_
  first|(refine Sim.goB (Cj (by intro _;rfl) hg3 _) ?_)|skip
  refine au ?_
  first|(refine Sim.goB (Ca (by intro _;exact⟨rfl,rfl,rfl⟩) _) ?_)|skip
  refine au ?_
  first|refine Sim.ite (by simp) (fun _=> ?_) (fun _=>Sim.no)|refine Sim.guard (fun _=> ?_)
  exact fin
 ·exact fin
def Tv (t0:Am):Option ((List Int)):=
 (Xn t0 t0.Sends (List.length t0.Sends:Int) ([]:List Int) 0).bind fun r0=>
 (X0 t0.Strays (List.length t0.Strays:Int) r0 0).bind fun r2=>
 some r2
instance Anr (t0:Am):HE (lav iav) (Tv t0) 175 [Am.av t0]:=⟨by unfold Tv;exact sa⟩
def H9 (s0:Ab)(t0:Am)(x0:List Ay)(x2 x3:Int):Option ((Int)⊕((Bool)⊕(Unit))):=
 if x3<x2 then
  (idx? x0 x3).bind fun z0=>
  (Ge s0 z0.From).bind fun r0=>
  if(!r0)=true then
   some (.inr (.inl false))
  else
   (Ge s0 z0.To).bind fun r2=>
   if(!r2)=true then
    some (.inr (.inl false))
   else
    some (.inl (wr (x3+1)))
 else
  some (.inr (.inr ()))
def Sn (s0:Ab)(t0:Am)(x0:List Ay)(x2 x3:Int):Option ((Bool)⊕(Unit)):=
 Ai (fun s:Int=>H9 s0 t0 x0 x2 s) x3
def fF (s0:Ab)(t0:Am)(x0:List Ay)(x2 v:Int)(e:PF.St):Prop:=e=⟨[(2,.ept (Ab.cells s0) 0),(3,.ept (Am.cells t0) 0),(14,lav Ay.av x0),(15,iav x2),(16,iav v)],[]⟩
instance Afu (s0:Ab)(t0:Am)(x0:List Ay)(x2 x3:Int):HL (Sn s0 t0 x0 x2 x3) LM ([2,3,14,15,16],[],[2,3,4],Aix) (fF s0 t0 x0 x2 x3) (rS (rE fun r=>(Ex.ret,⟨[(2,.ept (Ab.cells s0) 0),(3,.ept (Am.cells t0) 0),(4,.bool r)],[]⟩)) (rE fun r=>((.exit 0),⟨[(2,.ept (Ab.cells s0) 0),(3,.ept (Am.cells t0) 0),(4,.undef)],[]⟩))):=by unfold Sn H9;exact lf
def H0 (s2:Ab)(t2:Am)(x4:List Ay)(x5 x6:Int):Option ((Int)⊕((Bool)⊕(Unit))):=
 if x6<x5 then
  (idx? x4 x6).bind fun z2=>
  (Ge s2 z2.From).bind fun r6=>
  if(!r6)=true then
   some (.inr (.inl false))
  else
   (Ge s2 z2.To).bind fun r7=>
   if(!r7)=true then
    some (.inr (.inl false))
   else
    some (.inl (wr (x6+1)))
 else
  some (.inr (.inr ()))
def S6 (s2:Ab)(t2:Am)(x4:List Ay)(x5 x6:Int):Option ((Bool)⊕(Unit)):=
 Ai (fun s:Int=>H0 s2 t2 x4 x5 s) x6
def fV (s2:Ab)(t2:Am)(x4:List Ay)(x5 v:Int)(e:PF.St):Prop:=e=⟨[(2,.ept (Ab.cells s2) 0),(3,.ept (Am.cells t2) 0),(34,lav Ay.av x4),(35,iav x5),(36,iav v)],[]⟩
instance Aga (s2:Ab)(t2:Am)(x4:List Ay)(x5 x6:Int):HL (S6 s2 t2 x4 x5 x6) LM ([2,3,34,35,36],[],[2,3,4],Aia) (fV s2 t2 x4 x5 x6) (rS (rE fun r=>(Ex.ret,⟨[(2,.ept (Ab.cells s2) 0),(3,.ept (Am.cells t2) 0),(4,.bool r)],[]⟩)) (rE fun r=>((.exit 2),⟨[(2,.ept (Ab.cells s2) 0),(3,.ept (Am.cells t2) 0),(4,.undef)],[]⟩))):=by unfold S6 H0;exact lf
def Hv (s3:Ab)(t3:Am)(x7:List Ba)(x8 x9:Int):Option ((Int)⊕((Bool)⊕(Unit))):=
 if x9<x8 then
  (idx? x7 x9).bind fun z3=>
  (Ge s3 z3.Node).bind fun r11=>
  if(!r11)=true then
   some (.inr (.inl false))
  else
   some (.inl (wr (x9+1)))
 else
  some (.inr (.inr ()))
def Ss (s3:Ab)(t3:Am)(x7:List Ba)(x8 x9:Int):Option ((Bool)⊕(Unit)):=
 Ai (fun s:Int=>Hv s3 t3 x7 x8 s) x9
def fU (s3:Ab)(t3:Am)(x7:List Ba)(x8 v:Int)(e:PF.St):Prop:=e=⟨[(2,.ept (Ab.cells s3) 0),(3,.ept (Am.cells t3) 0),(54,lav Ba.av x7),(55,iav x8),(56,iav v)],[]⟩
instance Afr (s3:Ab)(t3:Am)(x7:List Ba)(x8 x9:Int):HL (Ss s3 t3 x7 x8 x9) LM ([2,3,54,55,56],[],[2,3,4],Aih) (fU s3 t3 x7 x8 x9) (rS (rE fun r=>(Ex.ret,⟨[(2,.ept (Ab.cells s3) 0),(3,.ept (Am.cells t3) 0),(4,.bool r)],[]⟩)) (rE fun r=>((.exit 4),⟨[(2,.ept (Ab.cells s3) 0),(3,.ept (Am.cells t3) 0),(4,.undef)],[]⟩))):=by unfold Ss Hv;exact lf
def Hu (s4:Ab)(x10:List Bd)(x11 x12:Int):Option ((Int)⊕((Bool)⊕(Unit))):=
 if x12<x11 then
  (idx? x10 x12).bind fun z4=>
  (Ge s4 z4.Node).bind fun r15=>
  if(!r15)=true then
   some (.inr (.inl false))
  else
   some (.inl (wr (x12+1)))
 else
  some (.inr (.inr ()))
def Ta (s4:Ab)(x10:List Bd)(x11 x12:Int):Option ((Bool)⊕(Unit)):=
 Ai (fun s:Int=>Hu s4 x10 x11 s) x12
def fI (s4:Ab)(x10:List Bd)(x11 v:Int)(e:PF.St):Prop:=e=⟨[(2,.ept (Ab.cells s4) 0),(67,lav Bd.av x10),(68,iav x11),(69,iav v)],[]⟩
instance Afh (s4:Ab)(x10:List Bd)(x11 x12:Int):HL (Ta s4 x10 x11 x12) LM ([2,67,68,69],[],[4],Ah8) (fI s4 x10 x11 x12) (rS (rE fun r=>(Ex.ret,⟨[(4,.bool r)],[]⟩)) (rE fun r=>((.exit 6),⟨[(4,.undef)],[]⟩))):=by unfold Ta Hu;exact lf
def T7 (L0:Ab)(i0:Am):Option Bool:=
 (Sn L0 i0 i0.Sends (List.length i0.Sends:Int) 0).bind fun r3=>
 Sum.elim
  (fun r4=>
    some r4)
  (fun r5=>
    (S6 L0 i0 i0.Strays (List.length i0.Strays:Int) 0).bind fun r8=>
    Sum.elim
     (fun r9=>
       some r9)
     (fun r10=>
       (Ss L0 i0 i0.Bursts (List.length i0.Bursts:Int) 0).bind fun r12=>
       Sum.elim
        (fun r13=>
          some r13)
        (fun r14=>
          (Ta L0 i0.Writes (List.length i0.Writes:Int) 0).bind fun r16=>
          Sum.elim
           (fun r17=>
             some r17)
           (fun r18=>
             some true)
           r16)
        r12)
     r8)
  r3
instance An0 (L0:Ab)(i0:Am):HE bav (T7 L0 i0) 176 [Ab.av L0,Am.av i0]:=⟨by unfold T7;exact sa⟩
def I9 (t2:Am)(x0:List Ay)(x2 x3:Int):Option ((Int)⊕((Bool)⊕(Unit))):=
 if x3<x2 then
  (idx? x0 x3).bind fun z0=>
  if 40<(List.length z0.Bytes:Int)then
   some (.inr (.inl true))
  else
   some (.inl (wr (x3+1)))
 else
  some (.inr (.inr ()))
def V7 (t2:Am)(x0:List Ay)(x2 x3:Int):Option ((Bool)⊕(Unit)):=
 Ai (fun s:Int=>I9 t2 x0 x2 s) x3
def iY (t2:Am)(x0:List Ay)(x2 v:Int)(e:PF.St):Prop:=e=⟨[(1,.ept (Am.cells t2) 0),(10,lav Ay.av x0),(11,iav x2),(12,iav v)],[]⟩
instance Ajz (t2:Am)(x0:List Ay)(x2 x3:Int):HL (V7 t2 x0 x2 x3) LM ([1,10,11,12],[],[1,2],Akl) (iY t2 x0 x2 x3) (rS (rE fun r=>(Ex.ret,⟨[(1,.ept (Am.cells t2) 0),(2,.bool r)],[]⟩)) (rE fun r=>((.exit 0),⟨[(1,.ept (Am.cells t2) 0),(2,.undef)],[]⟩))):=by unfold V7 I9;exact lf
def I8 (t3:Am)(x4:List Ay)(x5 x6:Int):Option ((Int)⊕((Bool)⊕(Unit))):=
 if x6<x5 then
  (idx? x4 x6).bind fun z2=>
  if 40<(List.length z2.Bytes:Int)then
   some (.inr (.inl true))
  else
   some (.inl (wr (x6+1)))
 else
  some (.inr (.inr ()))
def U3 (t3:Am)(x4:List Ay)(x5 x6:Int):Option ((Bool)⊕(Unit)):=
 Ai (fun s:Int=>I8 t3 x4 x5 s) x6
def gT (t3:Am)(x4:List Ay)(x5 v:Int)(e:PF.St):Prop:=e=⟨[(1,.ept (Am.cells t3) 0),(22,lav Ay.av x4),(23,iav x5),(24,iav v)],[]⟩
instance Ah2 (t3:Am)(x4:List Ay)(x5 x6:Int):HL (U3 t3 x4 x5 x6) LM ([1,22,23,24],[],[1,2],Aj9) (gT t3 x4 x5 x6) (rS (rE fun r=>(Ex.ret,⟨[(1,.ept (Am.cells t3) 0),(2,.bool r)],[]⟩)) (rE fun r=>((.exit 2),⟨[(1,.ept (Am.cells t3) 0),(2,.undef)],[]⟩))):=by unfold U3 I8;exact lf
def Iq (x7:List Ba)(x8 x9:Int):Option ((Int)⊕((Bool)⊕(Unit))):=
 if x9<x8 then
  (idx? x7 x9).bind fun z3=>
  if 8000<(List.length z3.Image:Int)then
   some (.inr (.inl true))
  else
   some (.inl (wr (x9+1)))
 else
  some (.inr (.inr ()))
def Vr (x7:List Ba)(x8 x9:Int):Option ((Bool)⊕(Unit)):=
 Ai (fun s:Int=>Iq x7 x8 s) x9
def kC (x7:List Ba)(x8 v:Int)(e:PF.St):Prop:=e=⟨[(34,lav Ba.av x7),(35,iav x8),(36,iav v)],[]⟩
instance Akq (x7:List Ba)(x8 x9:Int):HL (Vr x7 x8 x9) LM ([34,35,36],[],[2],Agm) (kC x7 x8 x9) (rS (rE fun r=>(Ex.ret,⟨[(2,.bool r)],[]⟩)) (rE fun r=>((.exit 4),⟨[(2,.undef)],[]⟩))):=by unfold Vr Iq;exact lf
def Xr (t0:Am):Option Bool:=
 (V7 t0 t0.Sends (List.length t0.Sends:Int) 0).bind fun r0=>
 Sum.elim
  (fun r2=>
    some r2)
  (fun r3=>
    (U3 t0 t0.Strays (List.length t0.Strays:Int) 0).bind fun r4=>
    Sum.elim
     (fun r5=>
       some r5)
     (fun r6=>
       (Vr t0.Bursts (List.length t0.Bursts:Int) 0).bind fun r7=>
       Sum.elim
        (fun r8=>
          some r8)
        (fun r9=>
          some false)
        r7)
     r4)
  r0
instance Aqe (t0:Am):HE bav (Xr t0) 177 [Am.av t0]:=⟨by unfold Xr;exact sa⟩
def I4 (x0:List Bd)(x2 x3:Int):Option ((Int)⊕((Int)⊕(Unit))):=
 if x3<x2 then
  (idx? x0 x3).bind fun z0=>
  if 16<(List.length z0.Text:Int)then
   some (.inr (.inl 15))
  else
   some (.inl (wr (x3+1)))
 else
  some (.inr (.inr ()))
def U7 (x0:List Bd)(x2 x3:Int):Option ((Int)⊕(Unit)):=
 Ai (fun s:Int=>I4 x0 x2 s) x3
def jX (x0:List Bd)(x2 v:Int)(e:PF.St):Prop:=e=⟨[(66,lav Bd.av x0),(67,iav x2),(68,iav v)],[]⟩
instance Ajx (x0:List Bd)(x2 x3:Int):HL (U7 x0 x2 x3) LM ([66,67,68],[],[4],Aj0) (jX x0 x2 x3) (rS (rE fun r=>(Ex.ret,⟨[(4,iav r)],[]⟩)) (rE fun r=>((.exit 0),⟨[(4,.undef)],[]⟩))):=by unfold U7 I4;exact lf
def W5 (L0:Ab)(i0:Am):Option Int:=
 (L6 i0.Units L0.N).bind fun r0=>
 if(!r0)=true then
  some 2
 else
  (L6 i0.Delays (wr (L0.N*L0.N))).bind fun r2=>
  if(!r2)=true then
   some 2
  else
   (Tv i0).bind fun r3=>
   (L6 r3 (wr ((List.length i0.Sends:Int)+(List.length i0.Strays:Int)))).bind fun r4=>
   if(!r4)=true then
    some 2
   else
    if 40<(List.length i0.Sends:Int)then
     some 9
    else
     if 40<(List.length i0.Bursts:Int)then
      some 9
     else
      if 40<(List.length i0.Strays:Int)then
       some 9
      else
       if 40<(List.length i0.Writes:Int)then
        some 9
       else
        (T7 L0 i0).bind fun r5=>
        if(!r5)=true then
         some 7
        else
         (Xr i0).bind fun r6=>
         if r6=true then
          some 6
         else
          (U7 i0.Writes (List.length i0.Writes:Int) 0).bind fun r7=>
          Sum.elim
           (fun r8=>
             some r8)
           (fun r9=>
             some 0)
           r7
instance Aor (L0:Ab)(i0:Am):HE iav (W5 L0 i0) 107 [Ab.av L0,Am.av i0]:=⟨by unfold W5;exact sa⟩
def Fr (i0:Aa)(t0:Int):Option ((Int)⊕((Int)⊕(Unit))):=
 if t0<(List.length i0.Faulty:Int)then
  (idx? i0.Faulty t0).bind fun z0=>
  (Ge i0.Conf z0).bind fun r3=>
  if(!r3)=true then
   some (.inr (.inl 7))
  else
   if 0≤t0∧t0≤((List.length i0.Faulty):Nat)then
    (idx? i0.Faulty t0).bind fun z2=>
    (Ka (List.take (Int.toNat t0) i0.Faulty) z2).bind fun r4=>
    if r4=true then
     some (.inr (.inl 7))
    else
     some (.inl (wr (t0+1)))
   else none
 else
  some (.inr (.inr ()))
def W9 (i0:Aa)(t0:Int):Option ((Int)⊕(Unit)):=
 Ai (fun s:Int=>Fr i0 s) t0
def We (i0:Aa)(v:Int)(e:PF.St):Prop:=e=⟨[(1,.ept (Aa.cells i0) 0),(3,iav v)],[]⟩
instance Afd (i0:Aa)(t0:Int):HL (W9 i0 t0) LM ([1,3],[],[1,2],Arg) (We i0 t0) (rS (rE fun r=>(Ex.ret,⟨[(1,.ept (Aa.cells i0) 0),(2,iav r)],[]⟩)) (rE fun r=>((.exit 0),⟨[(1,.ept (Aa.cells i0) 0),(2,.undef)],[]⟩))):=by
 refine lv (We i0) _ fun S hS hw hw8 R hR=> ?_
 rintro t0 env hp he
 cases he
 show Sim (Fr i0 t0) _ _
 unfold Fr
 simp only[hw]
 refine au ?_
 refine Sim.ki hS (m:=(List.length i0.Faulty:Int)) (by simp) ?_
 refine au (.ite Iff.rfl (fun hc2=> ?_) fun hc2=> ?_)
 ·refine au ?_
  refine Sim.ix (by simp) (fun z0 hz0=> ?_)
  refine au ?_
  refine Sim.go (Bw _ hz0) ?_
  refine au (.hc hR ?_)
  rintro r3 q rfl
  refine au (.iteB (fun hc3=> ?_) fun hc3=> ?_)
  ·exact fin
  ·refine au ?_
   first|(refine Sim.goB (Ue (by intro _;rfl) _) ?_)|skip
   refine au ?_
   refine Sim.kn hS (m:=(List.length i0.Faulty)) (by simp) ?_
   refine au ?_
   first|refine Sim.ite Iff.rfl (fun _=> ?_) (fun _=>Sim.no)|refine Sim.guard (fun _=> ?_)
   refine au ?_
   refine Sim.kl hS (ys:=List.map iav (List.take (Int.toNat t0) i0.Faulty)) (by simp only[PF.cut,List.map_drop,List.map_take]) ?_
   exact fin
 ·exact fin
def H1 (i2:Aa)(x0:Int):Option ((Int)⊕((Int)⊕(Unit))):=
 if x0<(List.length i2.Images:Int)then
  (idx? i2.Images x0).bind fun z3=>
  if 8000<(List.length z3:Int)then
   some (.inr (.inl 6))
  else
   some (.inl (wr (x0+1)))
 else
  some (.inr (.inr ()))
def Sk (i2:Aa)(x0:Int):Option ((Int)⊕(Unit)):=
 Ai (fun s:Int=>H1 i2 s) x0
def fM (i2:Aa)(v:Int)(e:PF.St):Prop:=e=⟨[(1,.ept (Aa.cells i2) 0),(4,iav v)],[]⟩
instance Ae7 (i2:Aa)(x0:Int):HL (Sk i2 x0) LM ([1,4],[],[1,2],Att) (fM i2 x0) (rS (rE fun r=>(Ex.ret,⟨[(1,.ept (Aa.cells i2) 0),(2,iav r)],[]⟩)) (rE fun r=>((.exit 2),⟨[(1,.ept (Aa.cells i2) 0),(2,.undef)],[]⟩))):=by unfold Sk H1;exact lf
def Ib (i3:Aa)(t2:Int):Option ((Int)⊕((Int)⊕(Unit))):=
 if t2<(List.length i3.Ticks:Int)then
  (idx? i3.Ticks t2).bind fun z4=>
  (W5 i3.Conf z4).bind fun r11=>
  if r11≠0 then
   some (.inr (.inl r11))
  else
   some (.inl (wr (t2+1)))
 else
  some (.inr (.inr ()))
def Sz (i3:Aa)(t2:Int):Option ((Int)⊕(Unit)):=
 Ai (fun s:Int=>Ib i3 s) t2
def fA (i3:Aa)(v:Int)(e:PF.St):Prop:=e=⟨[(1,.ept (Aa.cells i3) 0),(5,iav v)],[]⟩
instance Afq (i3:Aa)(t2:Int):HL (Sz i3 t2) LM ([1,5],[],[2],Ato) (fA i3 t2) (rS (rE fun r=>(Ex.ret,⟨[(2,iav r)],[]⟩)) (rE fun r=>((.exit 4),⟨[(2,.undef)],[]⟩))):=by unfold Sz Ib;exact lf
def Ku (L0:Aa):Option Int:=
 (Q7 L0.Conf).bind fun r0=>
 if r0≠0 then
  (Q7 L0.Conf).bind fun r2=>
  some r2
 else
  (W9 L0 0).bind fun r5=>
  Sum.elim
   (fun r6=>
     some r6)
   (fun r7=>
     if L0.Conf.N<(List.length L0.Images:Int)then
      some 6
     else
      if 2000<(List.length L0.Ticks:Int)then
       some 6
      else
       (Sk L0 0).bind fun r8=>
       Sum.elim
        (fun r9=>
          some r9)
        (fun r10=>
          (Sz L0 0).bind fun r12=>
          Sum.elim
           (fun r13=>
             some r13)
           (fun r14=>
             some 0)
           r12)
        r8)
   r5
instance Ani (L0:Aa):HE iav (Ku L0) 50 [Aa.av L0]:=⟨by unfold Ku;exact sa⟩
def Q8 (s0:Aa):Option Int:=
 (Ku s0).bind fun r0=>
 if r0≠0 then
  (Ku s0).bind fun r2=>
  some r2
 else
  if s0.Conf.F<(List.length s0.Faulty:Int)then
   some 7
  else
   some 0
instance Amx (s0:Aa):HE iav (Q8 s0) 16 [Aa.av s0]:=⟨by unfold Q8;exact sa⟩
def Od (s0:Aa)(n0:Int):Option Bool:=
 (Ka s0.Faulty n0).bind fun r0=>
 some r0
instance Alb (s0:Aa)(n0:Int):HE bav (Od s0 n0) 18 [Aa.av s0,iav n0]:=⟨by unfold Od;exact sa⟩
def R5 (rows:List (List Ac))(t0 node:Int):Option Ac:=
 if t0<0 then
  some (Ac.mk false false 0 0 ([]:List UInt8) 0 ([]:List Ag))
 else
  if(List.length rows:Int)≤t0 then
   some (Ac.mk false false 0 0 ([]:List UInt8) 0 ([]:List Ag))
  else
   if node<0 then
    some (Ac.mk false false 0 0 ([]:List UInt8) 0 ([]:List Ag))
   else
    (idx? rows t0).bind fun z0=>
    if(List.length z0:Int)≤node then
     some (Ac.mk false false 0 0 ([]:List UInt8) 0 ([]:List Ag))
    else
     (idx? rows t0).bind fun z2=>
     (idx? z2 node).bind fun z3=>
     some z3
instance Au0 (rows:List (List Ac))(t0 node:Int):HE Ac.av (R5 rows t0 node) 54 [lav (lav Ac.av) rows,iav t0,iav node]:=⟨by unfold R5;exact sa⟩
def Du (rows2:List (List Ac))(node2:Int)(c2:Ab)(out:List Int)(t0:Int):Option (((List Int)×Int)⊕((List Int))):=
 if t0<(List.length rows2:Int)then
  (R5 rows2 t0 node2).bind fun r2=>
  if r2.Pulse=true then
   if(wr (t0+c2.Period))≤(List.length rows2:Int)then
    if List.length out+List.length [t0]≤Ar then
     some (.inl ((out++[t0]),(wr (t0+1))))
    else none
   else
    some (.inl (out,(wr (t0+1))))
  else
   some (.inl (out,(wr (t0+1))))
 else
  some (.inr out)
def Wa (rows2:List (List Ac))(node2:Int)(c2:Ab)(out:List Int)(t0:Int):Option ((List Int)):=
 Ai (fun s:(List Int)×Int=>Du rows2 node2 c2 s.1 s.2) (out,t0)
def T9 (rows2:List (List Ac))(node2:Int)(c2:Ab)(v:(List Int)×Int)(e:PF.St):Prop:= ∃g0,e=⟨[(1,lav (lav Ac.av) rows2),(2,iav node2),(4,.ept (Ab.cells c2) 0),(9,.lst g0 (List.map iav v.1)),(10,iav v.2)],[]⟩∧Mg 1 g0
instance Acn (rows2:List (List Ac))(node2:Int)(c2:Ab)(out:List Int)(t0:Int):HL (Wa rows2 node2 c2 out t0) LM ([1,2,4,9,10],[],[9],Atc) (T9 rows2 node2 c2 (out,t0)) (fun r (q:Ex×PF.St)=> ∃g0',q=((.exit 0),⟨[(9,.lst g0' (List.map iav r))],[]⟩)∧Mg 1 g0'):=by
 refine lv (T9 rows2 node2 c2) _ fun S hS hw hw8 R hR=> ?_
 rintro⟨out,t0⟩ env hp ⟨g0,he,hg0⟩
 cases he
 show Sim (Du rows2 node2 c2 out t0) _ _
 unfold Du
 simp only[hw]
 refine au ?_
 refine Sim.ki hS (m:=(List.length rows2:Int)) (by simp) ?_
 refine au (.ite Iff.rfl (fun hc2=> ?_) fun hc2=> ?_)
 ·refine au (.hc hR ?_)
  rintro r2 q rfl
  refine au (.iteB (fun hc3=> ?_) fun hc3=> ?_)
  ·refine au ?_
   refine Sim.ki hS (m:=(List.length rows2:Int)) (by simp) ?_
   refine au (.ite Iff.rfl (fun hc4=> ?_) fun hc4=> ?_)
   ·refine au ?_
    refine Sim.kl hS (ys:=List.map iav [t0]) rfl ?_
    refine au ?_
    first|(refine Sim.goB (Cj (by intro _;rfl) hg0 _) ?_)|skip
    refine au ?_
    first|(refine Sim.goB (Ca (by intro _;exact⟨rfl,rfl,rfl⟩) _) ?_)|skip
    refine au ?_
    first|refine Sim.ite (by simp) (fun _=> ?_) (fun _=>Sim.no)|refine Sim.guard (fun _=> ?_)
    exact fin
   ·exact fin
  ·exact fin
 ·exact fin
def Rx (c0:Ab)(rows:List (List Ac))(node from0:Int):Option ((List Int)):=
 (Bg c0).bind fun r0=>
 if r0≠0 then
  some ([]:List Int)
 else
  (Wa rows node c0 ([]:List Int) (max from0 0)).bind fun r3=>
  some r3
instance Aj8 (c0:Ab)(rows:List (List Ac))(node from0:Int):HE (lav iav) (Rx c0 rows node from0) 20 [Ab.av c0,lav (lav Ac.av) rows,iav node,iav from0]:=⟨by unfold Rx;exact sa⟩
def En (s2:Aa)(out:List Int)(i0:Int):Option (((List Int)×Int)⊕((List Int))):=
 (Dk s2.Conf.N 0 13).bind fun r0=>
 if i0<r0 then
  (Od s2 i0).bind fun r2=>
  if(!r2)=true then
   if List.length out+List.length [i0]≤Ar then
    some (.inl ((out++[i0]),(wr (i0+1))))
   else none
  else
   some (.inl (out,(wr (i0+1))))
 else
  some (.inr out)
def Vy (s2:Aa)(out:List Int)(i0:Int):Option ((List Int)):=
 Ai (fun s:(List Int)×Int=>En s2 s.1 s.2) (out,i0)
def Uk (s2:Aa)(v:(List Int)×Int)(e:PF.St):Prop:= ∃g0,e=⟨[(1,.ept (Aa.cells s2) 0),(3,.lst g0 (List.map iav v.1)),(4,iav v.2)],[]⟩∧Mg 1 g0
instance Ady (s2:Aa)(out:List Int)(i0:Int):HL (Vy s2 out i0) LM ([1,3,4],[],[3],Arq) (Uk s2 (out,i0)) (fun r (q:Ex×PF.St)=> ∃g0',q=((.exit 0),⟨[(3,.lst g0' (List.map iav r))],[]⟩)∧Mg 1 g0'):=by
 refine lv (Uk s2) _ fun S hS hw hw8 R hR=> ?_
 rintro⟨out,i0⟩ env hp ⟨g0,he,hg0⟩
 cases he
 show Sim (En s2 out i0) _ _
 unfold En
 simp only[hw]
 refine au (.hc hR ?_)
 rintro r0 q rfl
 refine au (.ite Iff.rfl (fun hc=> ?_) fun hc=> ?_)
 ·refine au (.hc hR ?_)
  rintro r2 q rfl
  refine au (.iteB (fun hc2=> ?_) fun hc2=> ?_)
  ·refine au ?_
   refine Sim.kl hS (ys:=List.map iav [i0]) rfl ?_
   refine au ?_
   first|(refine Sim.goB (Cj (by intro _;rfl) hg0 _) ?_)|skip
   refine au ?_
   first|(refine Sim.goB (Ca (by intro _;exact⟨rfl,rfl,rfl⟩) _) ?_)|skip
   refine au ?_
   first|refine Sim.ite (by simp) (fun _=> ?_) (fun _=>Sim.no)|refine Sim.guard (fun _=> ?_)
   exact fin
  ·exact fin
 ·exact fin
def J3 (s0:Aa):Option ((List Int)):=
 (Vy s0 ([]:List Int) 0).bind fun r3=>
 some r3
instance Aij (s0:Aa):HE (lav iav) (J3 s0) 21 [Aa.av s0]:=⟨by unfold J3;exact sa⟩
def T6 (s0:Aa)(t0 n0:Int):Option Int:=
 if t0<0 then
  some 0
 else
  if(List.length s0.Ticks:Int)≤t0 then
   some 0
  else
   (Ge s0.Conf n0).bind fun r0=>
   if(!r0)=true then
    some 0
   else
    (idx? s0.Ticks t0).bind fun z0=>
    if n0<(List.length z0.Units:Int)then
     (idx? s0.Ticks t0).bind fun z2=>
     (idx? z2.Units n0).bind fun z3=>
     some z3
    else
     some s0.Conf.Rate
instance Am0 (s0:Aa)(t0 n0:Int):HE iav (T6 s0 t0 n0) 139 [Aa.av s0,iav t0,iav n0]:=⟨by unfold T6;exact sa⟩
def Tx (s0:Aa)(t0 from0 to0:Int):Option Int:=
 if t0<0 then
  some 0
 else
  if(List.length s0.Ticks:Int)≤t0 then
   some 0
  else
   (Ge s0.Conf from0).bind fun r0=>
   if(!r0)=true then
    some 0
   else
    (Ge s0.Conf to0).bind fun r2=>
    if(!r2)=true then
     some 0
    else
     (Dk s0.Conf.N 0 13).bind fun r3=>
     (idx? s0.Ticks t0).bind fun z0=>
     if(wr ((wr (from0*r3))+to0))<(List.length z0.Delays:Int)then
      (idx? s0.Ticks t0).bind fun z2=>
      (idx? z2.Delays (wr ((wr (from0*r3))+to0))).bind fun z3=>
      some z3
     else
      some s0.Conf.D
instance Amv (s0:Aa)(t0 from0 to0:Int):HE iav (Tx s0 t0 from0 to0) 140 [Aa.av s0,iav t0,iav from0,iav to0]:=⟨by unfold Tx;exact sa⟩
def I5 (i3:Int)(s2:Aa)(o2:List Int)(r4:Int)(x4:List Int)(x5 x6:Int)(x7:List Int)(x8:Int)(t2:Ab)(x9:Int):Option ((Int)⊕((Bool)⊕(Unit))):=
 if x9<x8 then
  (idx? x7 x9).bind fun z4=>
  (Tx s2 i3 r4 z4).bind fun r5=>
  if r5<1 then
   some (.inr (.inl false))
  else
   if t2.D<r5 then
    some (.inr (.inl false))
   else
    some (.inl (wr (x9+1)))
 else
  some (.inr (.inr ()))
def Vz (i3:Int)(s2:Aa)(o2:List Int)(r4:Int)(x4:List Int)(x5 x6:Int)(x7:List Int)(x8:Int)(t2:Ab)(x9:Int):Option ((Bool)⊕(Unit)):=
 Ai (fun s:Int=>I5 i3 s2 o2 r4 x4 x5 x6 x7 x8 t2 s) x9
def jI (i3:Int)(s2:Aa)(o2:List Int)(r4:Int)(x4:List Int)(x5 x6:Int)(x7:List Int)(x8:Int)(t2:Ab)(v:Int)(e:PF.St):Prop:=e=⟨[(1,iav i3),(2,.ept (Aa.cells s2) 0),(5,.ptr 105 0),(6,lav iav o2),(8,iav r4),(51,lav iav x4),(52,iav x5),(53,iav x6),(77,lav iav x7),(78,iav x8),(79,iav v)],[(105,⟨true,Ab.cells t2⟩)]⟩
instance Ag3 (i3:Int)(s2:Aa)(o2:List Int)(r4:Int)(x4:List Int)(x5 x6:Int)(x7:List Int)(x8:Int)(t2:Ab)(x9:Int):HL (Vz i3 s2 o2 r4 x4 x5 x6 x7 x8 t2 x9) LM ([1,2,5,6,8,51,52,53,77,78,79],[105],[1,2,4,5,6,51,52,53],Atp) (jI i3 s2 o2 r4 x4 x5 x6 x7 x8 t2 x9) (rS (rE fun r=>(Ex.ret,⟨[(1,iav i3),(2,.ept (Aa.cells s2) 0),(4,.bool r),(5,.ptr 105 0),(6,lav iav o2),(51,lav iav x4),(52,iav x5),(53,iav x6)],[(105,⟨true,Ab.cells t2⟩)]⟩)) (rE fun r=>((.exit 2),⟨[(1,iav i3),(2,.ept (Aa.cells s2) 0),(4,.undef),(5,.ptr 105 0),(6,lav iav o2),(51,lav iav x4),(52,iav x5),(53,iav x6)],[(105,⟨true,Ab.cells t2⟩)]⟩))):=by unfold Vz I5;exact lf
def Gt (i2:Int)(s0:Aa)(o0 x0:List Int)(x2:Int)(t0:Ab)(x3:Int):Option ((Int)⊕((Bool)⊕(Unit))):=
 if x3<x2 then
  (idx? x0 x3).bind fun z3=>
  (T6 s0 i2 z3).bind fun r3=>
  if r3<(wr (t0.Rate-t0.Drift))then
   some (.inr (.inl false))
  else
   if(wr (t0.Rate+t0.Drift))<r3 then
    some (.inr (.inl false))
   else
    (Vz i2 s0 o0 z3 x0 x2 x3 o0 (List.length o0:Int) t0 0).bind fun r6=>
    Sum.elim
     (fun r7=>
       some (.inr (.inl r7)))
     (fun r8=>
       some (.inl (wr (x3+1))))
     r6
 else
  some (.inr (.inr ()))
def Vd (i2:Int)(s0:Aa)(o0 x0:List Int)(x2:Int)(t0:Ab)(x3:Int):Option ((Bool)⊕(Unit)):=
 Ai (fun s:Int=>Gt i2 s0 o0 x0 x2 t0 s) x3
def iT (i2:Int)(s0:Aa)(o0 x0:List Int)(x2:Int)(t0:Ab)(v:Int)(e:PF.St):Prop:=e=⟨[(1,iav i2),(2,.ept (Aa.cells s0) 0),(5,.ptr 105 0),(6,lav iav o0),(51,lav iav x0),(52,iav x2),(53,iav v)],[(105,⟨true,Ab.cells t0⟩)]⟩
instance Ah7 (i2:Int)(s0:Aa)(o0 x0:List Int)(x2:Int)(t0:Ab)(x3:Int):HL (Vd i2 s0 o0 x0 x2 t0 x3) LM ([1,2,5,6,51,52,53],[105],[4],Asn) (iT i2 s0 o0 x0 x2 t0 x3) (rS (rE fun r=>(Ex.ret,⟨[(4,.bool r)],[(105,⟨true,Ab.cells t0⟩)]⟩)) (rE fun r=>((.exit 0),⟨[(4,.undef)],[(105,⟨true,Ab.cells t0⟩)]⟩))):=by unfold Vd Gt;exact lf
def Wz (L0:Aa)(i0:Int):Option Bool:=
 if i0<0 then
  some false
 else
  if(List.length L0.Ticks:Int)≤i0 then
   some false
  else
   (Bg L0.Conf).bind fun r0=>
   if r0≠0 then
    some false
   else
    (idx? L0.Ticks i0).bind fun z0=>
    if 0<(List.length z0.Bursts:Int)then
     some false
    else
     (idx? L0.Ticks i0).bind fun z2=>
     if 0<(List.length z2.Strays:Int)then
      some false
     else
      (J3 L0).bind fun r2=>
      (Vd i0 L0 r2 r2 (List.length r2:Int) L0.Conf 0).bind fun r9=>
      Sum.elim
       (fun r10=>
         some r10)
       (fun r11=>
         some true)
       r9
instance Aot (L0:Aa)(i0:Int):HE bav (Wz L0 i0) 82 [Aa.av L0,iav i0]:=⟨by unfold Wz;exact sa⟩
def I2 (s2:Aa)(last t0:Int):Option ((Int×Int)⊕Int):=
 if t0<(List.length s2.Ticks:Int)then
  (Wz s2 t0).bind fun r2=>
  if(!r2)=true then
   some (.inl (t0,(wr (t0+1))))
  else
   some (.inl (last,(wr (t0+1))))
 else
  some (.inr last)
def Vi (s2:Aa)(last t0:Int):Option Int:=
 Ai (fun s:Int×Int=>I2 s2 s.1 s.2) (last,t0)
def jF (s2:Aa)(v:Int×Int)(e:PF.St):Prop:=e=⟨[(1,.ept (Aa.cells s2) 0),(3,iav v.1),(4,iav v.2)],[]⟩
instance Agi (s2:Aa)(last t0:Int):HL (Vi s2 last t0) LM ([1,3,4],[],[3],Ar3) (jF s2 (last,t0)) (rE fun r=>((.exit 0),⟨[(3,iav r)],[]⟩)):=by unfold Vi I2;exact lf
def Pk (s0:Aa):Option Int:=
 (Ku s0).bind fun r0=>
 if r0≠0 then
  some (-1)
 else
  (Vi s0 (-1) 0).bind fun r3=>
  some r3
instance Ap6 (s0:Aa):HE iav (Pk s0) 38 [Aa.av s0]:=⟨by unfold Pk;exact sa⟩
def Ol (c0:Ab):Option Int:=
 (Bg c0).bind fun r0=>
 if r0≠0 then
  some 0
 else
  (Kf c0).bind fun r2=>
  some (wr ((wr (1+(wr (4*r2))))+(wr (2*c0.Period))))
instance Ajo (c0:Ab):HE iav (Ol c0) 51 [Ab.av c0]:=⟨by unfold Ol;exact sa⟩
def aO (c0:Ab):Option Int:=
 (Bg c0).bind fun r0=>
 if r0≠0 then
  some 0
 else
  (Ol c0).bind fun r2=>
  some (wr (r2+(wr (4*c0.Period))))
instance Ats (c0:Ab):HE iav (aO c0) 56 [Ab.av c0]:=⟨by unfold aO;exact sa⟩
def Pa (s0:Aa):Option Int:=
 (Ku s0).bind fun r0=>
 if r0≠0 then
  some 0
 else
  (Pk s0).bind fun r2=>
  (aO s0.Conf).bind fun r3=>
  some (wr (r2+r3))
instance Ata (s0:Aa):HE iav (Pa s0) 22 [Aa.av s0]:=⟨by unfold Pa;exact sa⟩
def Iv (rows2:List (List Ac))(s2:Aa)(t0:Int):Option ((Int)⊕((Bool)⊕(Unit))):=
 if t0<(List.length rows2:Int)then
  (idx? rows2 t0).bind fun z0=>
  if(List.length z0:Int)≠s2.Conf.N then
   some (.inr (.inl false))
  else
   some (.inl (wr (t0+1)))
 else
  some (.inr (.inr ()))
def Vq (rows2:List (List Ac))(s2:Aa)(t0:Int):Option ((Bool)⊕(Unit)):=
 Ai (fun s:Int=>Iv rows2 s2 s) t0
def iU (rows2:List (List Ac))(s2:Aa)(v:Int)(e:PF.St):Prop:=e=⟨[(1,lav (lav Ac.av) rows2),(2,.ept (Aa.cells s2) 0),(5,iav v)],[]⟩
instance Aib (rows2:List (List Ac))(s2:Aa)(t0:Int):HL (Vq rows2 s2 t0) LM ([1,2,5],[],[4],Asj) (iU rows2 s2 t0) (rS (rE fun r=>(Ex.ret,⟨[(4,.bool r)],[]⟩)) (rE fun r=>((.exit 0),⟨[(4,.undef)],[]⟩))):=by unfold Vq Iv;exact lf
def Tl (s0:Aa)(rows:List (List Ac)):Option Bool:=
 if(List.length rows:Int)≠(List.length s0.Ticks:Int)then
  some false
 else
  (Vq rows s0 0).bind fun r0=>
  Sum.elim
   (fun r2=>
     some r2)
   (fun r3=>
     some true)
   r0
instance Ap1 (s0:Aa)(rows:List (List Ac)):HE bav (Tl s0 rows) 37 [Aa.av s0,lav (lav Ac.av) rows]:=⟨by unfold Tl;exact sa⟩
def Gg (rows2:List (List Ac))(node2 to2:Int)(out:List Ag)(t0:Int):Option (((List Ag)×Int)⊕((List Ag))):=
 if t0<to2 then
  if t0<(List.length rows2:Int)then
   (R5 rows2 t0 node2).bind fun r0=>
   if List.length out+List.length r0.Got≤Ar then
    some (.inl ((out++r0.Got),(wr (t0+1))))
   else none
  else
   some (.inr out)
 else
  some (.inr out)
def dK (rows2:List (List Ac))(node2 to2:Int)(out:List Ag)(t0:Int):Option ((List Ag)):=
 Ai (fun s:(List Ag)×Int=>Gg rows2 node2 to2 s.1 s.2) (out,t0)
def Zl (rows2:List (List Ac))(node2 to2:Int)(v:(List Ag)×Int)(e:PF.St):Prop:= ∃g0,e=⟨[(0,lav (lav Ac.av) rows2),(1,iav node2),(3,iav to2),(9,.lst g0 (List.map Ag.av v.1)),(10,iav v.2)],[]⟩∧Mg 4 g0
instance Anv (rows2:List (List Ac))(node2 to2:Int)(out:List Ag)(t0:Int):HL (dK rows2 node2 to2 out t0) LM ([0,1,3,9,10],[],[9],Arz) (Zl rows2 node2 to2 (out,t0)) (fun r (q:Ex×PF.St)=> ∃g0',q=((.exit 0),⟨[(9,.lst g0' (List.map Ag.av r))],[]⟩)∧Mg 4 g0'):=by
 refine lv (Zl rows2 node2 to2) _ fun S hS hw hw8 R hR=> ?_
 rintro⟨out,t0⟩ env hp ⟨g0,he,hg0⟩
 cases he
 show Sim (Gg rows2 node2 to2 out t0) _ _
 unfold Gg
 simp only[hw]
 refine au (.ite Iff.rfl (fun hc=> ?_) fun hc=> ?_)
 ·refine au ?_
  refine Sim.ki hS (m:=(List.length rows2:Int)) (by simp) ?_
  refine au (.ite Iff.rfl (fun hc2=> ?_) fun hc2=> ?_)
  ·refine au (.hc hR ?_)
   rintro r0 q rfl
   refine au ?_
   first|(refine Sim.goB (Cj (by intro _;rfl) hg0 _) ?_)|skip
   refine au ?_
   first|(refine Sim.goB (Ca (by intro _;exact⟨rfl,rfl,rfl⟩) _) ?_)|skip
   refine au ?_
   first|refine Sim.ite (by simp) (fun _=> ?_) (fun _=>Sim.no)|refine Sim.guard (fun _=> ?_)
   exact fin
  ·exact fin
 ·exact fin
def bY (rows:List (List Ac))(node from0 to0:Int):Option ((List Ag)):=
 (dK rows node to0 ([]:List Ag) (max from0 0)).bind fun r2=>
 some r2
instance As7 (rows:List (List Ac))(node from0 to0:Int):HE (lav Ag.av) (bY rows node from0 to0) 44 [lav (lav Ac.av) rows,iav node,iav from0,iav to0]:=⟨by unfold bY;exact sa⟩
def Es (i3:List (List Ac))(s2:Aa)(t2:Int)(o2:List Ah)(A2:List Int)(r7 a0:Int)(r8:Ah):Option ((Int×Ah)⊕Ah):=
 if a0<s2.Conf.N then
  (Od s2 a0).bind fun r9=>
  if r9=true then
   if List.length r8.Lines+List.length [([]:List UInt8)]≤Ar then
    if List.length r8.Got+List.length [([]:List Ag)]≤Ar then
     some (.inl ((wr (a0+1)),(Ah.mk r8.Number r8.Members (r8.Lines++[([]:List UInt8)]) (r8.Got++[([]:List Ag)]))))
    else none
   else none
  else
   (idx? A2 r7).bind fun z8=>
   (Xg s2 a0 z8).bind fun r10=>
   if List.length r8.Lines+List.length [r10]≤Ar then
    (idx? A2 r7).bind fun z9=>
    (idx? A2 r7).bind fun z10=>
    (bY i3 a0 z9 (wr (z10+s2.Conf.Period))).bind fun r11=>
    if List.length r8.Got+List.length [r11]≤Ar then
     some (.inl ((wr (a0+1)),(Ah.mk r8.Number r8.Members (r8.Lines++[r10]) (r8.Got++[r11]))))
    else none
   else none
 else
  some (.inr r8)
def U6 (i3:List (List Ac))(s2:Aa)(t2:Int)(o2:List Ah)(A2:List Int)(r7 a0:Int)(r8:Ah):Option Ah:=
 Ai (fun s:Int×Ah=>Es i3 s2 t2 o2 A2 r7 s.1 s.2) (a0,r8)
def Uf (i3:List (List Ac))(s2:Aa)(t2:Int)(o2:List Ah)(A2:List Int)(r7:Int)(v:Int×Ah)(e:PF.St):Prop:= ∃g2,∃g3,∃g4,e=⟨[(1,lav (lav Ac.av) i3),(2,.ept (Aa.cells s2) 0),(5,iav t2),(6,.lst g2 (List.map Ah.av o2)),(7,lav iav A2),(8,iav r7),(9,.ptr 109 0),(10,iav v.1)],[(109,⟨true,[iav v.2.Number,.str v.2.Members,.lst g3 (List.map sav v.2.Lines),.lst g4 (List.map (lav Ag.av) v.2.Got)]⟩)]⟩∧Mg 4 g2∧Mg 1 g3∧Mg 1 g4
instance Ae0 (i3:List (List Ac))(s2:Aa)(t2:Int)(o2:List Ah)(A2:List Int)(r7 a0:Int)(r8:Ah):HL (U6 i3 s2 t2 o2 A2 r7 a0 r8) LM ([1,2,5,6,7,8,9,10],[109],[1,2,5,6,7,8,9],Arw) (Uf i3 s2 t2 o2 A2 r7 (a0,r8)) (fun r (q:Ex×PF.St)=> ∃g0',∃g1',∃g2',q=((.exit 2),⟨[(1,lav (lav Ac.av) i3),(2,.ept (Aa.cells s2) 0),(5,iav t2),(6,.lst g0' (List.map Ah.av o2)),(7,lav iav A2),(8,iav r7),(9,.ptr 109 0)],[(109,⟨true,[iav r.Number,.str r.Members,.lst g1' (List.map sav r.Lines),.lst g2' (List.map (lav Ag.av) r.Got)]⟩)]⟩)∧Mg 4 g0'∧Mg 1 g1'∧Mg 1 g2'):=by
 refine lv (Uf i3 s2 t2 o2 A2 r7) _ fun S hS hw hw8 R hR=> ?_
 rintro⟨a0,r8⟩ env hp ⟨g2,g3,g4,he,hg2,hg3,hg4⟩
 cases he
 show Sim (Es i3 s2 t2 o2 A2 r7 a0 r8) _ _
 unfold Es
 simp only[hw]
 refine au (.ite Iff.rfl (fun hc4=> ?_) fun hc4=> ?_)
 ·refine au (.hc hR ?_)
  rintro r9 q rfl
  refine au (.iteB (fun hc5=> ?_) fun hc5=> ?_)
  ·refine au ?_
   refine Sim.kl hS rfl ?_
   refine au ?_
   refine Sim.kl hS (ys:=List.map sav [([]:List UInt8)]) rfl ?_
   refine au ?_
   first|(refine Sim.goB (Cj (by intro _;rfl) hg3 _) ?_)|skip
   refine au ?_
   first|(refine Sim.goB (Ca (by intro _;exact⟨rfl,rfl,rfl⟩) _) ?_)|skip
   refine au ?_
   first|refine Sim.ite (by simp) (fun _=> ?_) (fun _=>Sim.no)|refine Sim.guard (fun _=> ?_)
   refine au ?_
   refine Sim.kl hS (ys:=List.map sav (r8.Lines++[([]:List UInt8)])) (by simp) ?_
   refine au ?_
   refine Sim.kl hS rfl ?_
   refine au ?_
   refine Sim.kl hS (ys:=List.map (lav Ag.av) [([]:List Ag)]) rfl ?_
   refine au ?_
   first|(refine Sim.goB (Cj (by intro _;rfl) hg4 _) ?_)|skip
   refine au ?_
   first|(refine Sim.goB (Ca (by intro _;exact⟨rfl,rfl,rfl⟩) _) ?_)|skip
   refine au ?_
   first|refine Sim.ite (by simp) (fun _=> ?_) (fun _=>Sim.no)|refine Sim.guard (fun _=> ?_)
   refine au ?_
   refine Sim.kl hS (ys:=List.map (lav Ag.av) (r8.Got++[([]:List Ag)])) (by simp) ?_
   exact fin
  ·refine au ?_
   refine Sim.kl hS rfl ?_
   refine au ?_
   refine Sim.ix (by simp) (fun z8 hz8=> ?_)
   refine au ?_
   refine Sim.go (Bw _ hz8) ?_
   refine au (.hc hR ?_)
   rintro r10 q rfl
   refine au ?_
   refine Sim.kl hS (ys:=List.map sav [r10]) rfl ?_
   refine au ?_
   first|(refine Sim.goB (Cj (by intro _;rfl) hg3 _) ?_)|skip
   refine au ?_
   first|(refine Sim.goB (Ca (by intro _;exact⟨rfl,rfl,rfl⟩) _) ?_)|skip
   refine au ?_
   first|refine Sim.ite (by simp) (fun _=> ?_) (fun _=>Sim.no)|refine Sim.guard (fun _=> ?_)
   refine au ?_
   refine Sim.kl hS (ys:=List.map sav (r8.Lines++[r10])) (by simp) ?_
   refine au ?_
   refine Sim.kl hS rfl ?_
   refine au ?_
   refine Sim.ix (by simp) (fun z9 hz9=> ?_)
   refine au ?_
   refine Sim.go (Bw _ hz9) ?_
   refine au ?_
   refine Sim.ix (by simp) (fun z10 hz10=> ?_)
   refine au ?_
   refine Sim.go (Bw _ hz10) ?_
   refine au (.hc hR ?_)
   rintro r11 q rfl
   refine au ?_
   refine Sim.kl hS (ys:=List.map (lav Ag.av) [r11]) rfl ?_
   refine au ?_
   first|(refine Sim.goB (Cj (by intro _;rfl) hg4 _) ?_)|skip
   refine au ?_
   first|(refine Sim.goB (Ca (by intro _;exact⟨rfl,rfl,rfl⟩) _) ?_)|skip
   refine au ?_
   first|refine Sim.ite (by simp) (fun _=> ?_) (fun _=>Sim.no)|refine Sim.guard (fun _=> ?_)
   refine au ?_
   refine Sim.kl hS (ys:=List.map (lav Ag.av) (r8.Got++[r11])) (by simp) ?_
   exact fin
 ·exact fin
def Et (i2:List (List Ac))(s0:Aa)(t0:Int)(A0:List Int)(o0:List Ah)(r6:Int):Option (((List Ah)×Int)⊕((List Ah))):=
 if r6<(List.length A0:Int)then
  (idx? A0 r6).bind fun z2=>
  (idx? i2 z2).bind fun z3=>
  (idx? z3 t0).bind fun z4=>
  (idx? A0 r6).bind fun z5=>
  (idx? i2 z5).bind fun z6=>
  (idx? z6 t0).bind fun z7=>
  (U6 i2 s0 t0 o0 A0 r6 0 (Ah.mk z4.Number z7.Members ([]:List (List UInt8)) ([]:List (List Ag)))).bind fun r12=>
  if List.length o0+List.length [r12]≤Ar then
   some (.inl ((o0++[r12]),(wr (r6+1))))
  else none
 else
  some (.inr o0)
def U5 (i2:List (List Ac))(s0:Aa)(t0:Int)(A0:List Int)(o0:List Ah)(r6:Int):Option ((List Ah)):=
 Ai (fun s:(List Ah)×Int=>Et i2 s0 t0 A0 s.1 s.2) (o0,r6)
def Tk (i2:List (List Ac))(s0:Aa)(t0:Int)(A0:List Int)(v:(List Ah)×Int)(e:PF.St):Prop:= ∃g0,e=⟨[(1,lav (lav Ac.av) i2),(2,.ept (Aa.cells s0) 0),(5,iav t0),(6,.lst g0 (List.map Ah.av v.1)),(7,lav iav A0),(8,iav v.2)],[]⟩∧Mg 4 g0
instance Acc (i2:List (List Ac))(s0:Aa)(t0:Int)(A0:List Int)(o0:List Ah)(r6:Int):HL (U5 i2 s0 t0 A0 o0 r6) LM ([1,2,5,6,7,8],[],[6],Ara) (Tk i2 s0 t0 A0 (o0,r6)) (fun r (q:Ex×PF.St)=> ∃g0',q=((.exit 0),⟨[(6,.lst g0' (List.map Ah.av r))],[]⟩)∧Mg 4 g0'):=by
 refine lv (Tk i2 s0 t0 A0) _ fun S hS hw hw8 R hR=> ?_
 rintro⟨o0,r6⟩ env hp ⟨g0,he,hg0⟩
 cases he
 show Sim (Et i2 s0 t0 A0 o0 r6) _ _
 unfold Et
 simp only[hw]
 refine au ?_
 refine Sim.ki hS (m:=(List.length A0:Int)) (by simp) ?_
 refine au (.ite Iff.rfl (fun hc3=> ?_) fun hc3=> ?_)
 ·refine au ?_
  refine Sim.ix (by simp) (fun z2 hz2=> ?_)
  refine au ?_
  refine Sim.go (Bw _ hz2) ?_
  refine au ?_
  refine Sim.ix (by simp) (fun z3 hz3=> ?_)
  refine au ?_
  refine Sim.go (Bw _ hz3) ?_
  refine au ?_
  refine Sim.ix (by simp) (fun z4 hz4=> ?_)
  refine au ?_
  refine Sim.go (Bw _ hz4) ?_
  refine au ?_
  refine Sim.ix (by simp) (fun z5 hz5=> ?_)
  refine au ?_
  refine Sim.go (Bw _ hz5) ?_
  refine au ?_
  refine Sim.ix (by simp) (fun z6 hz6=> ?_)
  refine au ?_
  refine Sim.go (Bw _ hz6) ?_
  refine au ?_
  refine Sim.ix (by simp) (fun z7 hz7=> ?_)
  refine au ?_
  refine Sim.go (Bw _ hz7) ?_
  refine au ?_
  refine Sim.hl hR kp pz ?_
  rintro r12 q ⟨g5,g6,g7,rfl,hg5,hg6,hg7⟩
  refine au ?_
  refine Sim.kl hS (ys:=List.map Ah.av [r12]) rfl ?_
  refine au ?_
  first|(refine Sim.goB (Cj (by intro _;rfl) hg5 _) ?_)|skip
  refine au ?_
  first|(refine Sim.goB (Ca (by intro _;exact⟨rfl,rfl,rfl⟩) _) ?_)|skip
  refine au ?_
  first|refine Sim.ite (by simp) (fun _=> ?_) (fun _=>Sim.no)|refine Sim.guard (fun _=> ?_)
  exact fin
 ·exact fin
def N9 (L0:Aa)(i0:List (List Ac)):Option ((List Ah)):=
 (Q8 L0).bind fun r0=>
 if r0≠0 then
  some ([]:List Ah)
 else
  (Tl L0 i0).bind fun r2=>
  if(!r2)=true then
   some ([]:List Ah)
  else
   (J3 L0).bind fun r3=>
   (idx? r3 0).bind fun z0=>
   (Pa L0).bind fun r4=>
   (Rx L0.Conf i0 z0 r4).bind fun r5=>
   (U5 i0 L0 z0 r5 ([]:List Ah) 0).bind fun r13=>
   some r13
instance Ags (L0:Aa)(i0:List (List Ac)):HE (lav Ah.av) (N9 L0 i0) 12 [Aa.av L0,lav (lav Ac.av) i0]:=⟨by unfold N9;exact sa⟩
def Mt (s0:Aa):Option Int:=
 (Ku s0).bind fun r0=>
 if r0≠0 then
  some 0
 else
  (Pk s0).bind fun r2=>
  (Ol s0.Conf).bind fun r3=>
  some (wr (r2+r3))
instance Afv (s0:Aa):HE iav (Mt s0) 17 [Aa.av s0]:=⟨by unfold Mt;exact sa⟩
def Gy (rows2:List (List Ac))(nodes2:List Int)(t2 i0:Int):Option ((Int)⊕((Bool)⊕(Unit))):=
 if i0<(List.length nodes2:Int)then
  (idx? nodes2 i0).bind fun z0=>
  (R5 rows2 t2 z0).bind fun r0=>
  (idx? nodes2 0).bind fun z2=>
  (R5 rows2 t2 z2).bind fun r2=>
  if(r0.Pulse !=r2.Pulse)=true then
   some (.inr (.inl false))
  else
   some (.inl (wr (i0+1)))
 else
  some (.inr (.inr ()))
def Vj (rows2:List (List Ac))(nodes2:List Int)(t2 i0:Int):Option ((Bool)⊕(Unit)):=
 Ai (fun s:Int=>Gy rows2 nodes2 t2 s) i0
def cL (rows2:List (List Ac))(nodes2:List Int)(t2 v:Int)(e:PF.St):Prop:=e=⟨[(0,lav (lav Ac.av) rows2),(1,lav iav nodes2),(2,iav t2),(7,iav v)],[]⟩
instance Acf (rows2:List (List Ac))(nodes2:List Int)(t2 i0:Int):HL (Vj rows2 nodes2 t2 i0) LM ([0,1,2,7],[],[6],Ask) (cL rows2 nodes2 t2 i0) (rS (rE fun r=>(Ex.ret,⟨[(6,.bool r)],[]⟩)) (rE fun r=>((.exit 0),⟨[(6,.undef)],[]⟩))):=by unfold Vj Gy;exact lf
def Vw (rows:List (List Ac))(nodes:List Int)(t0:Int):Option Bool:=
 (Vj rows nodes t0 0).bind fun r3=>
 Sum.elim
  (fun r4=>
    some r4)
  (fun r5=>
    some true)
  r3
instance Ag6 (rows:List (List Ac))(nodes:List Int)(t0:Int):HE bav (Vw rows nodes t0) 83 [lav (lav Ac.av) rows,lav iav nodes,iav t0]:=⟨by unfold Vw;exact sa⟩
def Gk (i2:List (List Ac))(s2:List Int)(x0:Ab)(r3 a0:Int):Option ((Int)⊕((Int)⊕(Unit))):=
 if a0<(List.length i2:Int)then
  (Vw i2 s2 a0).bind fun r4=>
  if(!r4)=true then
   some (.inr (.inl 7))
  else
   some (.inl (wr (a0+1)))
 else
  some (.inr (.inr ()))
def Ll (i2:List (List Ac))(s2:List Int)(x0:Ab)(r3 a0:Int):Option ((Int)⊕(Unit)):=
 Ai (fun s:Int=>Gk i2 s2 x0 r3 s) a0
def bO (i2:List (List Ac))(s2:List Int)(x0:Ab)(r3 v:Int)(e:PF.St):Prop:=e=⟨[(1,lav (lav Ac.av) i2),(2,lav iav s2),(4,.ept (Ab.cells x0) 0),(9,iav r3),(10,iav v)],[]⟩
instance Aav (i2:List (List Ac))(s2:List Int)(x0:Ab)(r3 a0:Int):HL (Ll i2 s2 x0 r3 a0) LM ([1,2,4,9,10],[],[1,2,4,8,9],Atm) (bO i2 s2 x0 r3 a0) (rS (rE fun r=>(Ex.ret,⟨[(1,lav (lav Ac.av) i2),(2,lav iav s2),(4,.ept (Ab.cells x0) 0),(8,iav r),(9,iav r3)],[]⟩)) (rE fun r=>((.exit 0),⟨[(1,lav (lav Ac.av) i2),(2,lav iav s2),(4,.ept (Ab.cells x0) 0),(8,.undef),(9,iav r3)],[]⟩))):=by unfold Ll Gk;exact lf
def Fw (i3:List (List Ac))(s3:List Int)(x2:Ab)(r8 y0 x3:Int):Option ((Int×Int)⊕((Int)⊕(Unit))):=
 if x3<(List.length i3:Int)then
  (idx? s3 0).bind fun z0=>
  (R5 i3 x3 z0).bind fun r9=>
  if r9.Pulse=true then
   if 0≤y0 then
    if(wr (x3-y0))<x2.Period then
     some (.inr (.inl 13))
    else
     some (.inl (x3,(wr (x3+1))))
   else
    some (.inl (x3,(wr (x3+1))))
  else
   some (.inl (y0,(wr (x3+1))))
 else
  some (.inr (.inr ()))
def Oz (i3:List (List Ac))(s3:List Int)(x2:Ab)(r8 y0 x3:Int):Option ((Int)⊕(Unit)):=
 Ai (fun s:Int×Int=>Fw i3 s3 x2 r8 s.1 s.2) (y0,x3)
def aR (i3:List (List Ac))(s3:List Int)(x2:Ab)(r8:Int)(v:Int×Int)(e:PF.St):Prop:=e=⟨[(1,lav (lav Ac.av) i3),(2,lav iav s3),(4,.ept (Ab.cells x2) 0),(9,iav r8),(11,iav v.1),(12,iav v.2)],[]⟩
instance Abk (i3:List (List Ac))(s3:List Int)(x2:Ab)(r8 y0 x3:Int):HL (Oz i3 s3 x2 r8 y0 x3) LM ([1,2,4,9,11,12],[],[1,2,4,8,9],Atl) (aR i3 s3 x2 r8 (y0,x3)) (rS (rE fun r=>(Ex.ret,⟨[(1,lav (lav Ac.av) i3),(2,lav iav s3),(4,.ept (Ab.cells x2) 0),(8,iav r),(9,iav r8)],[]⟩)) (rE fun r=>((.exit 2),⟨[(1,lav (lav Ac.av) i3),(2,lav iav s3),(4,.ept (Ab.cells x2) 0),(8,.undef),(9,iav r8)],[]⟩))):=by unfold Oz Fw;exact lf
def F2 (i5:List (List Ac))(s5:List Int)(x6:Ab)(x7:Int)(x8:Bool)(x9:Int):Option ((Bool×Int)⊕Bool):=
 if x9<(wr (x7+x6.Period))then
  if x8=true then
   some (.inl (true,(wr (x9+1))))
  else
   (idx? s5 0).bind fun z2=>
   (R5 i5 x9 z2).bind fun r13=>
   some (.inl (r13.Pulse,(wr (x9+1))))
 else
  some (.inr x8)
def Oo (i5:List (List Ac))(s5:List Int)(x6:Ab)(x7:Int)(x8:Bool)(x9:Int):Option Bool:=
 Ai (fun s:Bool×Int=>F2 i5 s5 x6 x7 s.1 s.2) (x8,x9)
def bC (i5:List (List Ac))(s5:List Int)(x6:Ab)(x7:Int)(v:Bool×Int)(e:PF.St):Prop:=e=⟨[(1,lav (lav Ac.av) i5),(2,lav iav s5),(4,.ept (Ab.cells x6) 0),(13,iav x7),(14,.bool v.1),(15,iav v.2)],[]⟩
instance Aai (i5:List (List Ac))(s5:List Int)(x6:Ab)(x7:Int)(x8:Bool)(x9:Int):HL (Oo i5 s5 x6 x7 x8 x9) LM ([1,2,4,13,14,15],[],[1,2,4,13,14],Ass) (bC i5 s5 x6 x7 (x8,x9)) (rE fun r=>((.exit 6),⟨[(1,lav (lav Ac.av) i5),(2,lav iav s5),(4,.ept (Ab.cells x6) 0),(13,iav x7),(14,.bool r)],[]⟩)):=by unfold Oo F2;exact lf
def Fu (i4:List (List Ac))(s4:List Int)(x4:Ab)(x5:Int):Option ((Int)⊕((Int)⊕(Unit))):=
 if x4.Period≤(wr ((List.length i4:Int)-x5))then
  (Oo i4 s4 x4 x5 false x5).bind fun r14=>
  if(!r14)=true then
   some (.inr (.inl 10))
  else
   some (.inl (wr (x5+1)))
 else
  some (.inr (.inr ()))
def Pb (i4:List (List Ac))(s4:List Int)(x4:Ab)(x5:Int):Option ((Int)⊕(Unit)):=
 Ai (fun s:Int=>Fu i4 s4 x4 s) x5
def aF (i4:List (List Ac))(s4:List Int)(x4:Ab)(v:Int)(e:PF.St):Prop:=e=⟨[(1,lav (lav Ac.av) i4),(2,lav iav s4),(4,.ept (Ab.cells x4) 0),(13,iav v)],[]⟩
instance Abg (i4:List (List Ac))(s4:List Int)(x4:Ab)(x5:Int):HL (Pb i4 s4 x4 x5) LM ([1,2,4,13],[],[8],Atr) (aF i4 s4 x4 x5) (rS (rE fun r=>(Ex.ret,⟨[(8,iav r)],[]⟩)) (rE fun r=>((.exit 4),⟨[(8,.undef)],[]⟩))):=by unfold Pb Fu;exact lf
def Mp (L0:Ab)(i0:List (List Ac))(s0:List Int)(t0:Int):Option Int:=
 (Bg L0).bind fun r0=>
 if r0≠0 then
  (Bg L0).bind fun r2=>
  some r2
 else
  if(List.length s0:Int)=0 then
   some 0
  else
   (Ll i0 s0 L0 (max t0 0) (max t0 0)).bind fun r5=>
   Sum.elim
    (fun r6=>
      some r6)
    (fun r7=>
      (Oz i0 s0 L0 (max t0 0) (-1) (max t0 0)).bind fun r10=>
      Sum.elim
       (fun r11=>
         some r11)
       (fun r12=>
         (Pb i0 s0 L0 (max t0 0)).bind fun r15=>
         Sum.elim
          (fun r16=>
            some r16)
          (fun r17=>
            some 0)
          r15)
       r10)
    r5
instance Afc (L0:Ab)(i0:List (List Ac))(s0:List Int)(t0:Int):HE iav (Mp L0 i0 s0 t0) 39 [Ab.av L0,lav (lav Ac.av) i0,lav iav s0,iav t0]:=⟨by unfold Mp;exact sa⟩
def oI (b0:Int):Option Int:=
 if b0=49 then
  some 1
 else
  some 0
instance Atd (b0:Int):HE iav (oI b0) 204 [Qp b0]:=⟨by unfold oI;exact sa⟩
def Ni (bits2:List UInt8)(n0 w0 i0:Int):Option ((Int×Int×Int)⊕Int):=
 if i0<8 then
  if i0<(List.length bits2:Int)then
   (idx? bits2 i0).bind fun b0=>
   (oI (UInt8.toNat b0:Int)).bind fun r0=>
   some (.inl ((wr (n0+(wr (w0*r0)))),(wr (2*w0)),(wr (i0+1))))
  else
   some (.inr n0)
 else
  some (.inr n0)
def bZ (bits2:List UInt8)(n0 w0 i0:Int):Option Int:=
 Ai (fun s:Int×Int×Int=>Ni bits2 s.1 s.2.1 s.2.2) (n0,w0,i0)
def Ua (bits2:List UInt8)(v:Int×Int×Int)(e:PF.St):Prop:=e=⟨[(0,.str bits2),(3,iav v.1),(4,iav v.2.1),(5,iav v.2.2)],[]⟩
instance Ab8 (bits2:List UInt8)(n0 w0 i0:Int):HL (bZ bits2 n0 w0 i0) LM ([0,3,4,5],[],[3],Ago) (Ua bits2 (n0,w0,i0)) (rE fun r=>((.exit 0),⟨[(3,iav r)],[]⟩)):=by
 refine lv (Ua bits2) _ fun S hS hw hw8 R hR=> ?_
 rintro⟨n0,w0,i0⟩ env hp he
 cases he
 show Sim (Ni bits2 n0 w0 i0) _ _
 unfold Ni
 simp only[hw]
 refine au (.ite Iff.rfl (fun hc=> ?_) fun hc=> ?_)
 ·refine au (.ite Iff.rfl (fun hc2=> ?_) fun hc2=> ?_)
  ·refine au ?_
   refine Sim.ix rfl (fun b0 hb0=> ?_)
   refine au ?_
   refine Sim.go hb0 ?_
   exact fin
  ·exact fin
 ·exact fin
def aB (bits:List UInt8):Option Int:=
 (bZ bits 0 1 0).bind fun r2=>
 some r2
instance Akf (bits:List UInt8):HE iav (aB bits) 142 [.str bits]:=⟨by unfold aB;exact sa⟩
def Xl (c0:Ab)(own:Int)(agreed:List UInt8):Option Int:=
 (Bg c0).bind fun r0=>
 if r0≠0 then
  some 0
 else
  if agreed≠([]:List UInt8)then
   (aB agreed).bind fun r2=>
   (Kr (wr (r2+1)) c0.Mod).bind fun r3=>
   some r3
  else
   (Kr own c0.Mod).bind fun r4=>
   (Kr (wr (r4+1)) c0.Mod).bind fun r5=>
   some r5
instance Aqh (c0:Ab)(own:Int)(agreed:List UInt8):HE iav (Xl c0 own agreed) 84 [Ab.av c0,iav own,.str agreed]:=⟨by unfold Xl;exact sa⟩
def Fv (i3:List (List Ac))(s3:List Int)(t2:Aa)(A2 r4 r5:Int)(x0:List Int)(x2 x3:Int):Option ((Int)⊕((Int)⊕(Unit))):=
 if x3<x2 then
  (idx? x0 x3).bind fun z2=>
  (idx? i3 r5).bind fun z3=>
  (idx? z3 z2).bind fun z4=>
  if(!z4.Sync)=true then
   some (.inr (.inl 14))
  else
   some (.inl (wr (x3+1)))
 else
  some (.inr (.inr ()))
def O4 (i3:List (List Ac))(s3:List Int)(t2:Aa)(A2 r4 r5:Int)(x0:List Int)(x2 x3:Int):Option ((Int)⊕(Unit)):=
 Ai (fun s:Int=>Fv i3 s3 t2 A2 r4 r5 x0 x2 s) x3
def bF (i3:List (List Ac))(s3:List Int)(t2:Aa)(A2 r4 r5:Int)(x0:List Int)(x2 v:Int)(e:PF.St):Prop:=e=⟨[(1,lav (lav Ac.av) i3),(2,lav iav s3),(3,.ept (Aa.cells t2) 0),(7,iav A2),(8,iav r4),(9,iav r5),(28,lav iav x0),(29,iav x2),(30,iav v)],[]⟩
instance Aaz (i3:List (List Ac))(s3:List Int)(t2:Aa)(A2 r4 r5:Int)(x0:List Int)(x2 x3:Int):HL (O4 i3 s3 t2 A2 r4 r5 x0 x2 x3) LM ([1,2,3,7,8,9,28,29,30],[],[1,2,3,6,7,8,9],As6) (bF i3 s3 t2 A2 r4 r5 x0 x2 x3) (rS (rE fun r=>(Ex.ret,⟨[(1,lav (lav Ac.av) i3),(2,lav iav s3),(3,.ept (Aa.cells t2) 0),(6,iav r),(7,iav A2),(8,iav r4),(9,iav r5)],[]⟩)) (rE fun r=>((.exit 2),⟨[(1,lav (lav Ac.av) i3),(2,lav iav s3),(3,.ept (Aa.cells t2) 0),(6,.undef),(7,iav A2),(8,iav r4),(9,iav r5)],[]⟩))):=by unfold O4 Fv;exact lf
def Ft (i4:List (List Ac))(s4:List Int)(t3:Aa)(A3 r9 r10:Int)(x4:List Int)(x5 x6:Int):Option ((Int)⊕((Int)⊕(Unit))):=
 if x6<x5 then
  (idx? x4 x6).bind fun z5=>
  (idx? i4 r10).bind fun z6=>
  (idx? z6 z5).bind fun z7=>
  (idx? i4 r10).bind fun z8=>
  (idx? z8 r9).bind fun z9=>
  if z7.Number≠z9.Number then
   some (.inr (.inl 7))
  else
   some (.inl (wr (x6+1)))
 else
  some (.inr (.inr ()))
def Ou (i4:List (List Ac))(s4:List Int)(t3:Aa)(A3 r9 r10:Int)(x4:List Int)(x5 x6:Int):Option ((Int)⊕(Unit)):=
 Ai (fun s:Int=>Ft i4 s4 t3 A3 r9 r10 x4 x5 s) x6
def aY (i4:List (List Ac))(s4:List Int)(t3:Aa)(A3 r9 r10:Int)(x4:List Int)(x5 v:Int)(e:PF.St):Prop:=e=⟨[(1,lav (lav Ac.av) i4),(2,lav iav s4),(3,.ept (Aa.cells t3) 0),(7,iav A3),(8,iav r9),(9,iav r10),(44,lav iav x4),(45,iav x5),(46,iav v)],[]⟩
instance Abc (i4:List (List Ac))(s4:List Int)(t3:Aa)(A3 r9 r10:Int)(x4:List Int)(x5 x6:Int):HL (Ou i4 s4 t3 A3 r9 r10 x4 x5 x6) LM ([1,2,3,7,8,9,44,45,46],[],[1,2,3,6,7,8,9],Asu) (aY i4 s4 t3 A3 r9 r10 x4 x5 x6) (rS (rE fun r=>(Ex.ret,⟨[(1,lav (lav Ac.av) i4),(2,lav iav s4),(3,.ept (Aa.cells t3) 0),(6,iav r),(7,iav A3),(8,iav r9),(9,iav r10)],[]⟩)) (rE fun r=>((.exit 4),⟨[(1,lav (lav Ac.av) i4),(2,lav iav s4),(3,.ept (Aa.cells t3) 0),(6,.undef),(7,iav A3),(8,iav r9),(9,iav r10)],[]⟩))):=by unfold Ou Ft;exact lf
def Gf (i2:List (List Ac))(s2:List Int)(t0:Aa)(A0 r2 r3:Int):Option ((Int)⊕((Int)⊕(Unit))):=
 if r3<(List.length i2:Int)then
  (O4 i2 s2 t0 A0 r2 r3 s2 (List.length s2:Int) 0).bind fun r6=>
  Sum.elim
   (fun r7=>
     some (.inr (.inl r7)))
   (fun r8=>
     (Ou i2 s2 t0 A0 r2 r3 s2 (List.length s2:Int) 0).bind fun r11=>
     Sum.elim
      (fun r12=>
        some (.inr (.inl r12)))
      (fun r13=>
        if r3=A0 then
         some (.inl (wr (r3+1)))
        else
         (idx? i2 (wr (r3-1))).bind fun z10=>
         (idx? z10 r2).bind fun z11=>
         (idx? i2 r3).bind fun z12=>
         (idx? z12 r2).bind fun z13=>
         if z13.Pulse=true then
          (Xl t0.Conf z11.Number ([]:List UInt8)).bind fun r14=>
          (idx? i2 r3).bind fun z14=>
          (idx? z14 r2).bind fun z15=>
          if z15.Number≠r14 then
           some (.inr (.inl 16))
          else
           some (.inl (wr (r3+1)))
         else
          (idx? i2 r3).bind fun z16=>
          (idx? z16 r2).bind fun z17=>
          if z17.Number≠z11.Number then
           some (.inr (.inl 16))
          else
           some (.inl (wr (r3+1))))
      r11)
   r6
 else
  some (.inr (.inr ()))
def Ox (i2:List (List Ac))(s2:List Int)(t0:Aa)(A0 r2 r3:Int):Option ((Int)⊕(Unit)):=
 Ai (fun s:Int=>Gf i2 s2 t0 A0 r2 s) r3
def bP (i2:List (List Ac))(s2:List Int)(t0:Aa)(A0 r2 v:Int)(e:PF.St):Prop:=e=⟨[(1,lav (lav Ac.av) i2),(2,lav iav s2),(3,.ept (Aa.cells t0) 0),(7,iav A0),(8,iav r2),(9,iav v)],[]⟩
instance Aa8 (i2:List (List Ac))(s2:List Int)(t0:Aa)(A0 r2 r3:Int):HL (Ox i2 s2 t0 A0 r2 r3) LM ([1,2,3,7,8,9],[],[6],Atg) (bP i2 s2 t0 A0 r2 r3) (rS (rE fun r=>(Ex.ret,⟨[(6,iav r)],[]⟩)) (rE fun r=>((.exit 0),⟨[(6,.undef)],[]⟩))):=by unfold Ox Gf;exact lf
def Mu (L0:Aa)(i0:List (List Ac))(s0:List Int):Option Int:=
 (Pa L0).bind fun r0=>
 (idx? s0 0).bind fun z0=>
 (Ox i0 s0 L0 (max 0 r0) z0 (max 0 r0)).bind fun r15=>
 Sum.elim
  (fun r16=>
    some r16)
  (fun r17=>
    some 0)
  r15
instance Afi (L0:Aa)(i0:List (List Ac))(s0:List Int):HE iav (Mu L0 i0 s0) 40 [Aa.av L0,lav (lav Ac.av) i0,lav iav s0]:=⟨by unfold Mu;exact sa⟩
def Fn (rows2:List (List Ac))(node2 t2 k0:Int):Option ((Int)⊕((Int)⊕(Unit))):=
 if 0≤k0 then
  (R5 rows2 k0 node2).bind fun r0=>
  if r0.Pulse=true then
   some (.inr (.inl (wr (t2-k0))))
  else
   some (.inl (wr (k0-1)))
 else
  some (.inr (.inr ()))
def Sr (rows2:List (List Ac))(node2 t2 k0:Int):Option ((Int)⊕(Unit)):=
 Ai (fun s:Int=>Fn rows2 node2 t2 s) k0
def fC (rows2:List (List Ac))(node2 t2 v:Int)(e:PF.St):Prop:=e=⟨[(0,lav (lav Ac.av) rows2),(1,iav node2),(2,iav t2),(7,iav v)],[]⟩
instance Af4 (rows2:List (List Ac))(node2 t2 k0:Int):HL (Sr rows2 node2 t2 k0) LM ([0,1,2,7],[],[6],Asm) (fC rows2 node2 t2 k0) (rS (rE fun r=>(Ex.ret,⟨[(6,iav r)],[]⟩)) (rE fun r=>((.exit 0),⟨[(6,.undef)],[]⟩))):=by unfold Sr Fn;exact lf
def Tt (rows:List (List Ac))(node t0:Int):Option Int:=
 if(List.length rows:Int)≤t0 then
  some (-1)
 else
  (Sr rows node t0 t0).bind fun r2=>
  Sum.elim
   (fun r3=>
     some r3)
   (fun r4=>
     some (-1))
   r2
instance Anf (rows:List (List Ac))(node t0:Int):HE iav (Tt rows node t0) 85 [lav (lav Ac.av) rows,iav node,iav t0]:=⟨by unfold Tt;exact sa⟩
def Y0 (c0:Ab)(ticks border:Int):Option Bool:=
 if(wr (ticks*c0.Drift))<(wr ((wr (ticks*c0.Rate))-border))then
  some true
 else
  some (decide ((wr (ticks*c0.Drift))<(IntKind.wrap .i64 (0-(wr ((wr (ticks*c0.Rate))-border))))))
instance Asx (c0:Ab)(ticks border:Int):HE bav (Y0 c0 ticks border) 143 [Ab.av c0,iav ticks,iav border]:=⟨by unfold Y0;exact sa⟩
def Hs (ticks2:Int)(c2:Ab)(k0:Int):Option ((Int)⊕((Bool)⊕(Unit))):=
 if k0<(List.length c2.Table:Int)then
  (Hz c2 k0).bind fun r2=>
  (Y0 c2 ticks2 r2).bind fun r3=>
  if(!r3)=true then
   some (.inr (.inl false))
  else
   some (.inl (wr (k0+1)))
 else
  some (.inr (.inr ()))
def Tb (ticks2:Int)(c2:Ab)(k0:Int):Option ((Bool)⊕(Unit)):=
 Ai (fun s:Int=>Hs ticks2 c2 s) k0
def fL (ticks2:Int)(c2:Ab)(v:Int)(e:PF.St):Prop:=e=⟨[(1,iav ticks2),(2,.ept (Ab.cells c2) 0),(5,iav v)],[]⟩
instance Agf (ticks2:Int)(c2:Ab)(k0:Int):HL (Tb ticks2 c2 k0) LM ([1,2,5],[],[1,2,4],As4) (fL ticks2 c2 k0) (rS (rE fun r=>(Ex.ret,⟨[(1,iav ticks2),(2,.ept (Ab.cells c2) 0),(4,.bool r)],[]⟩)) (rE fun r=>((.exit 0),⟨[(1,iav ticks2),(2,.ept (Ab.cells c2) 0),(4,.undef)],[]⟩))):=by unfold Tb Hs;exact lf
def Ul (c0:Ab)(ticks:Int):Option Bool:=
 (Bg c0).bind fun r0=>
 if r0≠0 then
  some false
 else
  if ticks<0 then
   some false
  else
   if 2000<ticks then
    some false
   else
    (Tb ticks c0 0).bind fun r4=>
    Sum.elim
     (fun r5=>
       some r5)
     (fun r6=>
       (Hz c0 (wr ((List.length c0.Table:Int)-1))).bind fun r7=>
       (Y0 c0 ticks (wr (r7+c0.Slot))).bind fun r8=>
       some r8)
     r4
instance Anh (c0:Ab)(ticks:Int):HE bav (Ul c0 ticks) 86 [Ab.av c0,iav ticks]:=⟨by unfold Ul;exact sa⟩
def Ey (elapsed2:Int)(c2:Ab)(k0:Int):Option ((Int)⊕((Int)⊕(Unit))):=
 if k0<(List.length c2.Table:Int)then
  (Hz c2 k0).bind fun r2=>
  if r2≤elapsed2 then
   (Hz c2 k0).bind fun r3=>
   if elapsed2<(wr (r3+c2.Slot))then
    some (.inr (.inl k0))
   else
    some (.inl (wr (k0+1)))
  else
   some (.inl (wr (k0+1)))
 else
  some (.inr (.inr ()))
def Vv (elapsed2:Int)(c2:Ab)(k0:Int):Option ((Int)⊕(Unit)):=
 Ai (fun s:Int=>Ey elapsed2 c2 s) k0
def iC (elapsed2:Int)(c2:Ab)(v:Int)(e:PF.St):Prop:=e=⟨[(1,iav elapsed2),(2,.ept (Ab.cells c2) 0),(5,iav v)],[]⟩
instance Aje (elapsed2:Int)(c2:Ab)(k0:Int):HL (Vv elapsed2 c2 k0) LM ([1,2,5],[],[4],Ahg) (iC elapsed2 c2 k0) (rS (rE fun r=>(Ex.ret,⟨[(4,iav r)],[]⟩)) (rE fun r=>((.exit 0),⟨[(4,.undef)],[]⟩))):=by unfold Vv Ey;exact lf
def aX (c0:Ab)(elapsed:Int):Option Int:=
 (Bg c0).bind fun r0=>
 if r0≠0 then
  some (-1)
 else
  (Vv elapsed c0 0).bind fun r4=>
  Sum.elim
   (fun r5=>
     some r5)
   (fun r6=>
     some (-1))
   r4
instance Ap3 (c0:Ab)(elapsed:Int):HE iav (aX c0 elapsed) 145 [Ab.av c0,iav elapsed]:=⟨by unfold aX;exact sa⟩
def P0 (c0:Ab)(ticks:Int):Option Int:=
 if ticks<0 then
  some (-1)
 else
  if 2000<ticks then
   some (-1)
  else
   (aX c0 (wr (ticks*c0.Rate))).bind fun r0=>
   some r0
instance Afj (c0:Ab)(ticks:Int):HE iav (P0 c0 ticks) 87 [Ab.av c0,iav ticks]:=⟨by unfold P0;exact sa⟩
def Fk (i2:List (List Ac))(s2:List Int)(t0:Aa)(A0:Int):Option ((Int)⊕Int):=
 if A0<(List.length i2:Int)then
  (idx? i2 A0).bind fun z0=>
  (idx? s2 0).bind fun z2=>
  (idx? z0 z2).bind fun z3=>
  if(!z3.Pulse)=true then
   some (.inl (wr (A0+1)))
  else
   some (.inr A0)
 else
  some (.inr A0)
def S8 (i2:List (List Ac))(s2:List Int)(t0:Aa)(A0:Int):Option Int:=
 Ai (fun s:Int=>Fk i2 s2 t0 s) A0
def fE (i2:List (List Ac))(s2:List Int)(t0:Aa)(v:Int)(e:PF.St):Prop:=e=⟨[(1,lav (lav Ac.av) i2),(2,lav iav s2),(3,.ept (Aa.cells t0) 0),(7,iav v)],[]⟩
instance Ae6 (i2:List (List Ac))(s2:List Int)(t0:Aa)(A0:Int):HL (S8 i2 s2 t0 A0) LM ([1,2,3,7],[],[1,2,3,7],As1) (fE i2 s2 t0 A0) (rE fun r=>((.exit 0),⟨[(1,lav (lav Ac.av) i2),(2,lav iav s2),(3,.ept (Aa.cells t0) 0),(7,iav r)],[]⟩)):=by unfold S8 Fk;exact lf
def Ht (i4:List (List Ac))(s4:List Int)(t3:Aa)(r5 r6:Int)(x0:List Int)(x2 x3:Int):Option ((Int)⊕((Int)⊕(Unit))):=
 if x3<x2 then
  (idx? x0 x3).bind fun z5=>
  (Ul t3.Conf r6).bind fun r7=>
  if r7=true then
   (idx? i4 r5).bind fun z6=>
   (idx? z6 z5).bind fun z7=>
   (P0 t3.Conf r6).bind fun r8=>
   if z7.Slot≠r8 then
    some (.inr (.inl 11))
   else
    some (.inl (wr (x3+1)))
  else
   some (.inl (wr (x3+1)))
 else
  some (.inr (.inr ()))
def Sg (i4:List (List Ac))(s4:List Int)(t3:Aa)(r5 r6:Int)(x0:List Int)(x2 x3:Int):Option ((Int)⊕(Unit)):=
 Ai (fun s:Int=>Ht i4 s4 t3 r5 r6 x0 x2 s) x3
def fS (i4:List (List Ac))(s4:List Int)(t3:Aa)(r5 r6:Int)(x0:List Int)(x2 v:Int)(e:PF.St):Prop:=e=⟨[(1,lav (lav Ac.av) i4),(2,lav iav s4),(3,.ept (Aa.cells t3) 0),(8,iav r5),(9,iav r6),(47,lav iav x0),(48,iav x2),(49,iav v)],[]⟩
instance Af6 (i4:List (List Ac))(s4:List Int)(t3:Aa)(r5 r6:Int)(x0:List Int)(x2 x3:Int):HL (Sg i4 s4 t3 r5 r6 x0 x2 x3) LM ([1,2,3,8,9,47,48,49],[],[1,2,3,6,8],Atu) (fS i4 s4 t3 r5 r6 x0 x2 x3) (rS (rE fun r=>(Ex.ret,⟨[(1,lav (lav Ac.av) i4),(2,lav iav s4),(3,.ept (Aa.cells t3) 0),(6,iav r),(8,iav r5)],[]⟩)) (rE fun r=>((.exit 4),⟨[(1,lav (lav Ac.av) i4),(2,lav iav s4),(3,.ept (Aa.cells t3) 0),(6,.undef),(8,iav r5)],[]⟩))):=by unfold Sg Ht;exact lf
def H3 (i3:List (List Ac))(s3:List Int)(t2:Aa)(r3:Int):Option ((Int)⊕((Int)⊕(Unit))):=
 if r3<(List.length i3:Int)then
  (idx? s3 0).bind fun z4=>
  (Tt i3 z4 r3).bind fun r4=>
  (Sg i3 s3 t2 r3 r4 s3 (List.length s3:Int) 0).bind fun r9=>
  Sum.elim
   (fun r10=>
     some (.inr (.inl r10)))
   (fun r11=>
     some (.inl (wr (r3+1))))
   r9
 else
  some (.inr (.inr ()))
def S5 (i3:List (List Ac))(s3:List Int)(t2:Aa)(r3:Int):Option ((Int)⊕(Unit)):=
 Ai (fun s:Int=>H3 i3 s3 t2 s) r3
def fG (i3:List (List Ac))(s3:List Int)(t2:Aa)(v:Int)(e:PF.St):Prop:=e=⟨[(1,lav (lav Ac.av) i3),(2,lav iav s3),(3,.ept (Aa.cells t2) 0),(8,iav v)],[]⟩
instance Afb (i3:List (List Ac))(s3:List Int)(t2:Aa)(r3:Int):HL (S5 i3 s3 t2 r3) LM ([1,2,3,8],[],[6],Arm) (fG i3 s3 t2 r3) (rS (rE fun r=>(Ex.ret,⟨[(6,iav r)],[]⟩)) (rE fun r=>((.exit 2),⟨[(6,.undef)],[]⟩))):=by unfold S5 H3;exact lf
def Q5 (L0:Aa)(i0:List (List Ac))(s0:List Int):Option Int:=
 (Pa L0).bind fun r0=>
 (S8 i0 s0 L0 (max 0 r0)).bind fun r2=>
 (S5 i0 s0 L0 r2).bind fun r12=>
 Sum.elim
  (fun r13=>
    some r13)
  (fun r14=>
    some 0)
  r12
instance An1 (L0:Aa)(i0:List (List Ac))(s0:List Int):HE iav (Q5 L0 i0 s0) 41 [Aa.av L0,lav (lav Ac.av) i0,lav iav s0]:=⟨by unfold Q5;exact sa⟩
def Ea (faulty2:List Int)(s2:List UInt8)(c2:Ab)(i0:Int):Option ((Int)⊕((Bool)⊕(Unit))):=
 if i0<c2.N then
  (idx? s2 i0).bind fun b0=>
  if(UInt8.toNat b0:Int)≠48 then
   (idx? s2 i0).bind fun b2=>
   if(UInt8.toNat b2:Int)≠49 then
    some (.inr (.inl false))
   else
    (idx? s2 i0).bind fun b3=>
    if(UInt8.toNat b3:Int)=48 then
     (Ka faulty2 i0).bind fun r0=>
     if(!r0)=true then
      some (.inr (.inl false))
     else
      some (.inl (wr (i0+1)))
    else
     some (.inl (wr (i0+1)))
  else
   (idx? s2 i0).bind fun b4=>
   if(UInt8.toNat b4:Int)=48 then
    (Ka faulty2 i0).bind fun r2=>
    if(!r2)=true then
     some (.inr (.inl false))
    else
     some (.inl (wr (i0+1)))
   else
    some (.inl (wr (i0+1)))
 else
  some (.inr (.inr ()))
def Ti (faulty2:List Int)(s2:List UInt8)(c2:Ab)(i0:Int):Option ((Bool)⊕(Unit)):=
 Ai (fun s:Int=>Ea faulty2 s2 c2 s) i0
def S0 (faulty2:List Int)(s2:List UInt8)(c2:Ab)(v:Int)(e:PF.St):Prop:=e=⟨[(1,lav iav faulty2),(2,.str s2),(3,.ept (Ab.cells c2) 0),(7,iav v)],[]⟩
instance Aaw (faulty2:List Int)(s2:List UInt8)(c2:Ab)(i0:Int):HL (Ti faulty2 s2 c2 i0) LM ([1,2,3,7],[],[6],Agp) (S0 faulty2 s2 c2 i0) (rS (rE fun r=>(Ex.ret,⟨[(6,.bool r)],[]⟩)) (rE fun r=>((.exit 0),⟨[(6,.undef)],[]⟩))):=by
 refine lv (S0 faulty2 s2 c2) _ fun S hS hw hw8 R hR=> ?_
 rintro i0 env hp he
 cases he
 show Sim (Ea faulty2 s2 c2 i0) _ _
 unfold Ea
 simp only[hw]
 refine au (.ite Iff.rfl (fun hc2=> ?_) fun hc2=> ?_)
 ·refine au ?_
  refine Sim.ix rfl (fun b0 hb0=> ?_)
  refine au ?_
  refine Sim.go hb0 ?_
  refine au (.ite Iff.rfl (fun hc3=> ?_) fun hc3=> ?_)
  ·refine au ?_
   refine Sim.ix rfl (fun b2 hb2=> ?_)
   refine au ?_
   refine Sim.go hb2 ?_
   refine au (.ite Iff.rfl (fun hc4=> ?_) fun hc4=> ?_)
   ·exact fin
   ·refine au ?_
    refine Sim.ix rfl (fun b3 hb3=> ?_)
    refine au ?_
    refine Sim.go hb3 ?_
    exact fin
  ·refine au ?_
   refine Sim.ix rfl (fun b4 hb4=> ?_)
   refine au ?_
   refine Sim.go hb4 ?_
   exact fin
 ·exact fin
def Px (c0:Ab)(faulty:List Int)(s0:List UInt8):Option Bool:=
 if(List.length s0:Int)≠c0.N then
  some false
 else
  (Ti faulty s0 c0 0).bind fun r3=>
  Sum.elim
   (fun r4=>
     some r4)
   (fun r5=>
     some true)
   r3
instance Afo (c0:Ab)(faulty:List Int)(s0:List UInt8):HE bav (Px c0 faulty s0) 146 [Ab.av c0,lav iav faulty,.str s0]:=⟨by unfold Px;exact sa⟩
def H8 (faulty2:List Int)(c2:Ab)(r2:Ah)(i0:Int):Option ((Int)⊕((Bool)⊕(Unit))):=
 if i0<c2.N then
  (idx? r2.Lines i0).bind fun z0=>
  if 16<(List.length z0:Int)then
   some (.inr (.inl false))
  else
   (Ka faulty2 i0).bind fun r3=>
   if r3=true then
    (idx? r2.Lines i0).bind fun z2=>
    if z2≠([]:List UInt8)then
     some (.inr (.inl false))
    else
     (idx? r2.Got i0).bind fun z3=>
     if 0<(List.length z3:Int)then
      some (.inr (.inl false))
     else
      some (.inl (wr (i0+1)))
   else
    some (.inl (wr (i0+1)))
 else
  some (.inr (.inr ()))
def Wv (faulty2:List Int)(c2:Ab)(r2:Ah)(i0:Int):Option ((Bool)⊕(Unit)):=
 Ai (fun s:Int=>H8 faulty2 c2 r2 s) i0
def fO (faulty2:List Int)(c2:Ab)(r2:Ah)(v:Int)(e:PF.St):Prop:=e=⟨[(1,lav iav faulty2),(3,.ept (Ab.cells c2) 0),(5,.ept (Ah.cells r2) 0),(7,iav v)],[]⟩
instance Ae4 (faulty2:List Int)(c2:Ab)(r2:Ah)(i0:Int):HL (Wv faulty2 c2 r2 i0) LM ([1,3,5,7],[],[6],Aj1) (fO faulty2 c2 r2 i0) (rS (rE fun r=>(Ex.ret,⟨[(6,.bool r)],[]⟩)) (rE fun r=>((.exit 0),⟨[(6,.undef)],[]⟩))):=by unfold Wv H8;exact lf
def Um (c0:Ab)(faulty:List Int)(r0:Ah):Option Bool:=
 if(List.length r0.Lines:Int)≠c0.N then
  some false
 else
  if(List.length r0.Got:Int)≠c0.N then
   some false
  else
   (Wv faulty c0 r0 0).bind fun r4=>
   Sum.elim
    (fun r5=>
      some r5)
    (fun r6=>
      some true)
    r4
instance Anu (c0:Ab)(faulty:List Int)(r0:Ah):HE bav (Um c0 faulty r0) 147 [Ab.av c0,lav iav faulty,Ah.av r0]:=⟨by unfold Um;exact sa⟩
def Ef (i2:List Int)(t2:List Ag)(x0:Ab)(o0:Ah)(len:Nat)(r0 y0:Int)(x2:List Bool):Option ((Int×Int×(List Bool))⊕((Int×(List Bool))⊕((List Bool)))):=
 if y0<(List.length t2:Int)then
  (idx? t2 y0).bind fun z0=>
  if z0.Slot≤r0 then
   some (.inr (.inl (11,x2)))
  else
   if(List.length x0.Table:Int)≤z0.Slot then
    some (.inr (.inl (11,x2)))
   else
    (idx? x0.Table z0.Slot).bind fun z2=>
    if z0.From≠z2 then
     some (.inr (.inl (12,x2)))
    else
     if z0.Cycle≠o0.Number then
      some (.inr (.inl (16,x2)))
     else
      if 16<(List.length z0.Text:Int)then
       some (.inr (.inl (15,x2)))
      else
       (Ka i2 z0.From).bind fun r2=>
       if(!r2)=true then
        (idx? o0.Lines z0.From).bind fun z3=>
        if z0.Text≠z3 then
         some (.inr (.inl (15,x2)))
        else
         if 0≤z0.Slot∧z0.Slot<((len:Nat):Int)then
          (mod? x2 (Int.toNat z0.Slot) (fun _=>true)).bind fun l0=>
          some (.inl (z0.Slot,(wr (y0+1)),l0))
         else none
       else
        if 0≤z0.Slot∧z0.Slot<((len:Nat):Int)then
         (mod? x2 (Int.toNat z0.Slot) (fun _=>true)).bind fun l2=>
         some (.inl (z0.Slot,(wr (y0+1)),l2))
        else none
 else
  some (.inr (.inr x2))
def cU (i2:List Int)(t2:List Ag)(x0:Ab)(o0:Ah)(len:Nat)(r0 y0:Int)(x2:List Bool):Option ((Int×(List Bool))⊕((List Bool))):=
 Ai (fun s:Int×Int×(List Bool)=>Ef i2 t2 x0 o0 len s.1 s.2.1 s.2.2) (r0,y0,x2)
def Zj (i2:List Int)(t2:List Ag)(x0:Ab)(o0:Ah)(len:Nat)(v:Int×Int×(List Bool))(e:PF.St):Prop:=e=⟨[(1,lav iav i2),(3,lav Ag.av t2),(4,.ept (Ab.cells x0) 0),(6,.ept (Ah.cells o0) 0),(9,iav v.1),(10,.arr 117 0 len 1 false),(11,iav v.2.1)],[(117,⟨true,(List.map bav v.2.2)⟩)]⟩
instance Amp (i2:List Int)(t2:List Ag)(x0:Ab)(o0:Ah)(len:Nat)(r0 y0:Int)(x2:List Bool):HL (cU i2 t2 x0 o0 len r0 y0 x2) LM ([1,3,4,6,9,10,11],[117],[1,4,8,10],Ai1) (Zj i2 t2 x0 o0 len (r0,y0,x2)) (rS (rE fun r=>(Ex.ret,⟨[(1,lav iav i2),(4,.ept (Ab.cells x0) 0),(8,iav r.1),(10,.arr 117 0 len 1 false)],[(117,⟨true,(List.map bav r.2)⟩)]⟩)) (rE fun r=>((.exit 0),⟨[(1,lav iav i2),(4,.ept (Ab.cells x0) 0),(8,.undef),(10,.arr 117 0 len 1 false)],[(117,⟨true,(List.map bav r)⟩)]⟩))):=by
 refine lv (Zj i2 t2 x0 o0 len) _ fun S hS hw hw8 R hR=> ?_
 rintro⟨r0,y0,x2⟩ env hp he
 cases he
 show Sim (Ef i2 t2 x0 o0 len r0 y0 x2) _ _
 unfold Ef
 simp only[hw]
 refine au ?_
 refine Sim.ki hS (m:=(List.length t2:Int)) (by simp) ?_
 refine au (.ite Iff.rfl (fun hc=> ?_) fun hc=> ?_)
 ·refine au ?_
  refine Sim.ix (by simp) (fun z0 hz0=> ?_)
  refine au ?_
  refine Sim.go (Bw _ hz0) ?_
  refine au (.ite Iff.rfl (fun hc2=> ?_) fun hc2=> ?_)
  ·exact fin
  ·refine au ?_
   refine Sim.ki hS (m:=(List.length x0.Table:Int)) (by simp) ?_
   refine au (.ite Iff.rfl (fun hc3=> ?_) fun hc3=> ?_)
   ·exact fin
   ·refine au ?_
    refine Sim.ix (by simp) (fun z2 hz2=> ?_)
    refine au ?_
    refine Sim.go (Bw _ hz2) ?_
    refine au (.ite Iff.rfl (fun hc4=> ?_) fun hc4=> ?_)
    ·exact fin
    ·refine au (.ite Iff.rfl (fun hc5=> ?_) fun hc5=> ?_)
     ·exact fin
     ·refine au (.ite Iff.rfl (fun hc6=> ?_) fun hc6=> ?_)
      ·exact fin
      ·refine au (.hc hR ?_)
       rintro r2 q rfl
       refine au (.iteB (fun hc7=> ?_) fun hc7=> ?_)
       ·refine au ?_
        refine Sim.ix (by simp) (fun z3 hz3=> ?_)
        refine au ?_
        refine Sim.go (Bw _ hz3) ?_
        refine au (.ite Iff.rfl (fun hc8=> ?_) fun hc8=> ?_)
        ·exact fin
        ·refine au ?_
         first|refine Sim.ite Iff.rfl (fun _=> ?_) (fun _=>Sim.no)|refine Sim.guard (fun _=> ?_)
         refine au ?_
         refine Sim.opt (Gp (u:=(fun _=>true)) (m:=(Int.toNat z0.Slot)) (by omega) (fun _=>rfl)) (fun l0 _=> ?_)
         exact fin
       ·refine au ?_
        first|refine Sim.ite Iff.rfl (fun _=> ?_) (fun _=>Sim.no)|refine Sim.guard (fun _=> ?_)
        refine au ?_
        refine Sim.opt (Gp (u:=(fun _=>true)) (m:=(Int.toNat z0.Slot)) (by omega) (fun _=>rfl)) (fun l2 _=> ?_)
        exact fin
 ·exact fin
def Hx (i3:List Int)(x3:Ab)(len2:Nat)(x5:List Bool)(x4:Int):Option ((Int)⊕((Int)⊕(Unit))):=
 if x4<(List.length x3.Table:Int)then
  if 0≤x4∧x4<((len2:Nat):Int)then
   (x5[(Int.toNat x4)]?).bind fun z4=>
   if(!z4)=true then
    (idx? x3.Table x4).bind fun z5=>
    (Ka i3 z5).bind fun r6=>
    if(!r6)=true then
     some (.inr (.inl 10))
    else
     some (.inl (wr (x4+1)))
   else
    some (.inl (wr (x4+1)))
  else none
 else
  some (.inr (.inr ()))
def Yf (i3:List Int)(x3:Ab)(len2:Nat)(x5:List Bool)(x4:Int):Option ((Int)⊕(Unit)):=
 Ai (fun s:Int=>Hx i3 x3 len2 x5 s) x4
def Zo (i3:List Int)(x3:Ab)(len2:Nat)(x5:List Bool)(v:Int)(e:PF.St):Prop:=e=⟨[(1,lav iav i3),(4,.ept (Ab.cells x3) 0),(10,.arr 117 0 len2 1 false),(13,iav v)],[(117,⟨true,(List.map bav x5)⟩)]⟩
instance Amw (i3:List Int)(x3:Ab)(len2:Nat)(x5:List Bool)(x4:Int):HL (Yf i3 x3 len2 x5 x4) LM ([1,4,10,13],[117],[8],Aiw) (Zo i3 x3 len2 x5 x4) (rS (rE fun r=>(Ex.ret,⟨[(8,iav r)],[(117,⟨true,(List.map bav x5)⟩)]⟩)) (rE fun r=>((.exit 2),⟨[(8,.undef)],[(117,⟨true,(List.map bav x5)⟩)]⟩))):=by
 refine lv (Zo i3 x3 len2 x5) _ fun S hS hw hw8 R hR=> ?_
 rintro x4 env hp he
 cases he
 show Sim (Hx i3 x3 len2 x5 x4) _ _
 unfold Hx
 simp only[hw]
 refine au ?_
 refine Sim.ki hS (m:=(List.length x3.Table:Int)) (by simp) ?_
 refine au (.ite Iff.rfl (fun hc9=> ?_) fun hc9=> ?_)
 ·refine au ?_
  first|refine Sim.ite Iff.rfl (fun _=> ?_) (fun _=>Sim.no)|refine Sim.guard (fun _=> ?_)
  refine au ?_
  refine Sim.opt (uG (f:=bav) (m:=(Int.toNat x4)) (fun _=>rfl) (by omega)) (fun z4 _=> ?_)
  exact fin
 ·exact fin
def aK (L0:Ab)(i0:List Int)(s0:Ah)(t0:List Ag):Option Int:=
 if 0≤(List.length L0.Table:Int)∧(List.length L0.Table:Int)≤Ar then
  (cU i0 t0 L0 s0 (Int.toNat (List.length L0.Table:Int)) (-1) 0 (List.replicate (Int.toNat (List.length L0.Table:Int)) false)).bind fun r3=>
  Sum.elim
   (fun r4=>
     some r4.1)
   (fun r5=>
     (Yf i0 L0 (Int.toNat (List.length L0.Table:Int)) r5 0).bind fun r7=>
     Sum.elim
      (fun r8=>
        some r8)
      (fun r9=>
        some 0)
      r7)
   r3
 else none
instance Ate (L0:Ab)(i0:List Int)(s0:Ah)(t0:List Ag):HE iav (aK L0 i0 s0 t0) 148 [Ab.av L0,lav iav i0,Ah.av s0,lav Ag.av t0]:=⟨by
 unfold aK
 refine sv fun S hS hw hw8 R hR=> ?_
 refine au ?_
 refine Sim.ki hS (m:=(List.length L0.Table:Int)) (by simp) ?_
 refine au ?_
 first|refine Sim.ite Iff.rfl (fun _=> ?_) (fun _=>Sim.no)|refine Sim.guard (fun _=> ?_)
 refine au ?_
 refine Sim.kl hS (Ye (f:=bav) false _ rfl _) ?_
 exact fin⟩
def Ir (faulty2:List Int)(c2:Ab)(r6:Ah)(i0:Int):Option ((Int)⊕((Int)⊕(Unit))):=
 if i0<c2.N then
  (idx? r6.Got i0).bind fun z0=>
  (aK c2 faulty2 r6 z0).bind fun r7=>
  (Ka faulty2 i0).bind fun r8=>
  if(!r8)=true then
   if r7≠0 then
    some (.inr (.inl r7))
   else
    some (.inl (wr (i0+1)))
  else
   some (.inl (wr (i0+1)))
 else
  some (.inr (.inr ()))
def Z1 (faulty2:List Int)(c2:Ab)(r6:Ah)(i0:Int):Option ((Int)⊕(Unit)):=
 Ai (fun s:Int=>Ir faulty2 c2 r6 s) i0
def jR (faulty2:List Int)(c2:Ab)(r6:Ah)(v:Int)(e:PF.St):Prop:=e=⟨[(1,lav iav faulty2),(3,.ept (Ab.cells c2) 0),(5,.ept (Ah.cells r6) 0),(7,iav v)],[]⟩
instance Akb (faulty2:List Int)(c2:Ab)(r6:Ah)(i0:Int):HL (Z1 faulty2 c2 r6 i0) LM ([1,3,5,7],[],[6],Asf) (jR faulty2 c2 r6 i0) (rS (rE fun r=>(Ex.ret,⟨[(6,iav r)],[]⟩)) (rE fun r=>((.exit 0),⟨[(6,.undef)],[]⟩))):=by unfold Z1 Ir;exact lf
def W6 (c0:Ab)(faulty:List Int)(r0:Ah):Option Int:=
 (Bg c0).bind fun r2=>
 if r2≠0 then
  (Bg c0).bind fun r3=>
  some r3
 else
  if r0.Number<0 then
   some 2
  else
   if c0.Mod≤r0.Number then
    some 2
   else
    (Px c0 faulty r0.Members).bind fun r4=>
    if(!r4)=true then
     some 7
    else
     (Um c0 faulty r0).bind fun r5=>
     if(!r5)=true then
      some 6
     else
      (Z1 faulty c0 r0 0).bind fun r9=>
      Sum.elim
       (fun r10=>
         some r10)
       (fun r11=>
         some 0)
       r9
instance Apg (c0:Ab)(faulty:List Int)(r0:Ah):HE iav (W6 c0 faulty r0) 88 [Ab.av c0,lav iav faulty,Ah.av r0]:=⟨by unfold W6;exact sa⟩
def Yi (c0:Ab)(from0 to0:Int):Option Int:=
 (Bg c0).bind fun r0=>
 if r0≠0 then
  some 0
 else
  (Kr to0 c0.Mod).bind fun r2=>
  (Kr from0 c0.Mod).bind fun r3=>
  (Kr (wr (r2-r3)) c0.Mod).bind fun r4=>
  some r4
instance Am6 (c0:Ab)(from0 to0:Int):HE iav (Yi c0 from0 to0) 149 [Ab.av c0,iav from0,iav to0]:=⟨by unfold Yi;exact sa⟩
def Pm (c0:Ab)(a0 b0:Ah):Option Bool:=
 (Bg c0).bind fun r0=>
 if r0=0 then
  (Yi c0 a0.Number b0.Number).bind fun r2=>
  some (decide (r2=1))
 else
  some false
instance Afg (c0:Ab)(a0 b0:Ah):HE bav (Pm c0 a0 b0) 89 [Ab.av c0,Ah.av a0,Ah.av b0]:=⟨by unfold Pm;exact sa⟩
def G0 (l2:List Ah)(s2:Aa)(i0:Int):Option ((Int)⊕((Int)⊕(Unit))):=
 if i0<(List.length l2:Int)then
  (idx? l2 i0).bind fun z0=>
  (W6 s2.Conf s2.Faulty z0).bind fun r0=>
  if r0≠0 then
   some (.inr (.inl r0))
  else
   if 0<i0 then
    (idx? l2 (wr (i0-1))).bind fun z2=>
    (idx? l2 i0).bind fun z3=>
    (Pm s2.Conf z2 z3).bind fun r2=>
    if(!r2)=true then
     some (.inr (.inl 16))
    else
     some (.inl (wr (i0+1)))
   else
    some (.inl (wr (i0+1)))
 else
  some (.inr (.inr ()))
def Vc (l2:List Ah)(s2:Aa)(i0:Int):Option ((Int)⊕(Unit)):=
 Ai (fun s:Int=>G0 l2 s2 s) i0
def dM (l2:List Ah)(s2:Aa)(v:Int)(e:PF.St):Prop:=e=⟨[(1,lav Ah.av l2),(2,.ept (Aa.cells s2) 0),(5,iav v)],[]⟩
instance Ae1 (l2:List Ah)(s2:Aa)(i0:Int):HL (Vc l2 s2 i0) LM ([1,2,5],[],[4],Arl) (dM l2 s2 i0) (rS (rE fun r=>(Ex.ret,⟨[(4,iav r)],[]⟩)) (rE fun r=>((.exit 0),⟨[(4,.undef)],[]⟩))):=by unfold Vc G0;exact lf
def Rt (s0:Aa)(l0:List Ah):Option Int:=
 (Vc l0 s0 0).bind fun r3=>
 Sum.elim
  (fun r4=>
    some r4)
  (fun r5=>
    some 0)
  r3
instance Ai8 (s0:Aa)(l0:List Ah):HE iav (Rt s0 l0) 42 [Aa.av s0,lav Ah.av l0]:=⟨by unfold Rt;exact sa⟩
def cF (marks:List UInt8)(node:Int):Option Bool:=
 (Y7 marks node).bind fun r0=>
 some r0
instance Asa (marks:List UInt8)(node:Int):HE bav (cF marks node) 90 [.str marks,iav node]:=⟨by unfold cF;exact sa⟩
def F1 (rows3:List (List Ac))(honest3:List Int)(t2:Int)(m0:List UInt8)(x0:List Int)(x2 x3:Int):Option ((Int)⊕((Int)⊕(Unit))):=
 if x3<x2 then
  (idx? x0 x3).bind fun z4=>
  (idx? rows3 t2).bind fun z5=>
  (idx? z5 z4).bind fun z6=>
  if z6.Members≠m0 then
   some (.inr (.inl 7))
  else
   some (.inl (wr (x3+1)))
 else
  some (.inr (.inr ()))
def Oy (rows3:List (List Ac))(honest3:List Int)(t2:Int)(m0:List UInt8)(x0:List Int)(x2 x3:Int):Option ((Int)⊕(Unit)):=
 Ai (fun s:Int=>F1 rows3 honest3 t2 m0 x0 x2 s) x3
def aI (rows3:List (List Ac))(honest3:List Int)(t2:Int)(m0:List UInt8)(x0:List Int)(x2 v:Int)(e:PF.St):Prop:=e=⟨[(1,lav (lav Ac.av) rows3),(2,lav iav honest3),(7,iav t2),(8,.str m0),(32,lav iav x0),(33,iav x2),(34,iav v)],[]⟩
instance Aao (rows3:List (List Ac))(honest3:List Int)(t2:Int)(m0:List UInt8)(x0:List Int)(x2 x3:Int):HL (Oy rows3 honest3 t2 m0 x0 x2 x3) LM ([1,2,7,8,32,33,34],[],[1,2,6,7,8],Asw) (aI rows3 honest3 t2 m0 x0 x2 x3) (rS (rE fun r=>(Ex.ret,⟨[(1,lav (lav Ac.av) rows3),(2,lav iav honest3),(6,iav r),(7,iav t2),(8,.str m0)],[]⟩)) (rE fun r=>((.exit 2),⟨[(1,lav (lav Ac.av) rows3),(2,lav iav honest3),(6,.undef),(7,iav t2),(8,.str m0)],[]⟩))):=by unfold Oy F1;exact lf
def Fx (rows4:List (List Ac))(honest4:List Int)(t3:Int)(m2:List UInt8)(x4:List Int)(x5 x6:Int):Option ((Int)⊕((Int)⊕(Unit))):=
 if x6<x5 then
  (idx? x4 x6).bind fun z7=>
  (cF m2 z7).bind fun r5=>
  if(!r5)=true then
   some (.inr (.inl 12))
  else
   some (.inl (wr (x6+1)))
 else
  some (.inr (.inr ()))
def O0 (rows4:List (List Ac))(honest4:List Int)(t3:Int)(m2:List UInt8)(x4:List Int)(x5 x6:Int):Option ((Int)⊕(Unit)):=
 Ai (fun s:Int=>Fx rows4 honest4 t3 m2 x4 x5 s) x6
def aL (rows4:List (List Ac))(honest4:List Int)(t3:Int)(m2:List UInt8)(x4:List Int)(x5 v:Int)(e:PF.St):Prop:=e=⟨[(1,lav (lav Ac.av) rows4),(2,lav iav honest4),(7,iav t3),(8,.str m2),(49,lav iav x4),(50,iav x5),(51,iav v)],[]⟩
instance Aa7 (rows4:List (List Ac))(honest4:List Int)(t3:Int)(m2:List UInt8)(x4:List Int)(x5 x6:Int):HL (O0 rows4 honest4 t3 m2 x4 x5 x6) LM ([1,2,7,8,49,50,51],[],[1,2,6,7],Atb) (aL rows4 honest4 t3 m2 x4 x5 x6) (rS (rE fun r=>(Ex.ret,⟨[(1,lav (lav Ac.av) rows4),(2,lav iav honest4),(6,iav r),(7,iav t3)],[]⟩)) (rE fun r=>((.exit 4),⟨[(1,lav (lav Ac.av) rows4),(2,lav iav honest4),(6,.undef),(7,iav t3)],[]⟩))):=by unfold O0 Fx;exact lf
def Gc (rows2:List (List Ac))(honest2:List Int)(t0:Int):Option ((Int)⊕((Int)⊕(Unit))):=
 if t0<(List.length rows2:Int)then
  (idx? rows2 t0).bind fun z0=>
  (idx? honest2 0).bind fun z2=>
  (idx? z0 z2).bind fun z3=>
  (Oy rows2 honest2 t0 z3.Members honest2 (List.length honest2:Int) 0).bind fun r2=>
  Sum.elim
   (fun r3=>
     some (.inr (.inl r3)))
   (fun r4=>
     (O0 rows2 honest2 t0 z3.Members honest2 (List.length honest2:Int) 0).bind fun r6=>
     Sum.elim
      (fun r7=>
        some (.inr (.inl r7)))
      (fun r8=>
        some (.inl (wr (t0+1))))
      r6)
   r2
 else
  some (.inr (.inr ()))
def Pd (rows2:List (List Ac))(honest2:List Int)(t0:Int):Option ((Int)⊕(Unit)):=
 Ai (fun s:Int=>Gc rows2 honest2 s) t0
def aM (rows2:List (List Ac))(honest2:List Int)(v:Int)(e:PF.St):Prop:=e=⟨[(1,lav (lav Ac.av) rows2),(2,lav iav honest2),(7,iav v)],[]⟩
instance zX (rows2:List (List Ac))(honest2:List Int)(t0:Int):HL (Pd rows2 honest2 t0) LM ([1,2,7],[],[6],Atn) (aM rows2 honest2 t0) (rS (rE fun r=>(Ex.ret,⟨[(6,iav r)],[]⟩)) (rE fun r=>((.exit 0),⟨[(6,.undef)],[]⟩))):=by unfold Pd Gc;exact lf
def Ms (s0:Aa)(rows:List (List Ac))(honest:List Int):Option Int:=
 (Pa s0).bind fun r0=>
 (Pd rows honest (max 0 r0)).bind fun r9=>
 Sum.elim
  (fun r10=>
    some r10)
  (fun r11=>
    some 0)
  r9
instance Afa (s0:Aa)(rows:List (List Ac))(honest:List Int):HE iav (Ms s0 rows honest) 43 [Aa.av s0,lav (lav Ac.av) rows,lav iav honest]:=⟨by unfold Ms;exact sa⟩
def T8 (L0:Aa)(i0:List (List Ac)):Option E0:=
 (Q8 L0).bind fun r0=>
 if r0=0 then
  (Tl L0 i0).bind fun r2=>
  if(!r2)=true then
   some (E0.mk 0 0 0 0 0 (Ar5.mk 2 2 2 2 2))
  else
   if r0≠0 then
    some (E0.mk 0 0 0 0 0 (Ar5.mk r0 r0 r0 r0 r0))
   else
    (N9 L0 i0).bind fun r3=>
    (J3 L0).bind fun r4=>
    (Pk L0).bind fun r5=>
    (Mt L0).bind fun r6=>
    (Pa L0).bind fun r7=>
    (Mp L0.Conf i0 r4 r6).bind fun r8=>
    (Mu L0 i0 r4).bind fun r9=>
    (Q5 L0 i0 r4).bind fun r10=>
    (Rt L0 r3).bind fun r11=>
    (Ms L0 i0 r4).bind fun r12=>
    some (E0.mk (List.length i0:Int) r5 r6 r7 (List.length r3:Int) (Ar5.mk r8 r9 r10 r11 r12))
 else
  if r0≠0 then
   some (E0.mk 0 0 0 0 0 (Ar5.mk r0 r0 r0 r0 r0))
  else
   (N9 L0 i0).bind fun r13=>
   (J3 L0).bind fun r14=>
   (Pk L0).bind fun r15=>
   (Mt L0).bind fun r16=>
   (Pa L0).bind fun r17=>
   (Mp L0.Conf i0 r14 r16).bind fun r18=>
   (Mu L0 i0 r14).bind fun r19=>
   (Q5 L0 i0 r14).bind fun r20=>
   (Rt L0 r13).bind fun r21=>
   (Ms L0 i0 r14).bind fun r22=>
   some (E0.mk (List.length i0:Int) r15 r16 r17 (List.length r13:Int) (Ar5.mk r18 r19 r20 r21 r22))
instance Amu (L0:Aa)(i0:List (List Ac)):HE E0.av (T8 L0 i0) 10 [Aa.av L0,lav (lav Ac.av) i0]:=⟨by unfold T8;exact sa⟩
def Pe (s0:Aa)(rows:List (List Ac)):Option Bool:=
 (bD s0 rows).bind fun r0=>
 if(!r0)=true then
  (cN).bind fun r2=>
  some r2
 else
  (Pw s0 rows).bind fun r3=>
  (T8 s0 rows).bind fun r4=>
  if(decide (r3.Ticks=r4.Ticks)&&(decide (r3.Last=r4.Last)&&(decide (r3.Settled=r4.Settled)&&(decide (r3.All=r4.All)&&(decide (r3.Cycles=r4.Cycles)&&(decide (r3.Faults.a0=r4.Faults.a0)&&(decide (r3.Faults.a1=r4.Faults.a1)&&(decide (r3.Faults.a2=r4.Faults.a2)&&(decide (r3.Faults.a3=r4.Faults.a3)&&(decide (r3.Faults.a4=r4.Faults.a4)&&true))))))))))=true then
   (cN).bind fun r5=>
   some r5
  else
   some false
instance aT (s0:Aa)(rows:List (List Ac)):HE bav (Pe s0 rows) 3 [Aa.av s0,lav (lav Ac.av) rows]:=⟨by unfold Pe;exact sa⟩
end
end Go.Proofs.YtaoijbibmcgdaaaGreat
