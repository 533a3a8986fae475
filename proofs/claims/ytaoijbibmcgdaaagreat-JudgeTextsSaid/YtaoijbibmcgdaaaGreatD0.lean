/-
  The program's functions as plain functions (printed by a program of mine), each beside the machine's.
-/
import Derived.Test.YtaoijbibmcgdaaaGreatF0
import Derived.Test.YtaoijbibmcgdaaaGreatPFe
set_option linter.unusedVariables false
set_option linter.unusedSimpArgs false
set_option maxRecDepth 100000
set_option maxHeartbeats 4000000
namespace Go.Proofs.YtaoijbibmcgdaaaGreat
open Go.Proofs.PF
structure GDeliver where
 From:Int
 Slot:Int
 Cycle:Int
 Text:List UInt8
 deriving DecidableEq,Inhabited
@[reducible] def GDeliver.cells (x:GDeliver):List AV:=[iav x.From,iav x.Slot,iav x.Cycle,.str x.Text]
@[reducible] def GDeliver.av (x:GDeliver):AV:=.agg [iav x.From,iav x.Slot,iav x.Cycle,.str x.Text]
structure GReport where
 Pulse:Bool
 Sync:Bool
 Number:Int
 Slot:Int
 Members:List UInt8
 Sent:Int
 Got:List GDeliver
 deriving DecidableEq,Inhabited
@[reducible] def GReport.cells (x:GReport):List AV:=[.bool x.Pulse,.bool x.Sync,iav x.Number,iav x.Slot,.str x.Members,iav x.Sent,lav GDeliver.av x.Got]
@[reducible] def GReport.av (x:GReport):AV:=.agg [.bool x.Pulse,.bool x.Sync,iav x.Number,iav x.Slot,.str x.Members,iav x.Sent,lav GDeliver.av x.Got]
structure GConf where
 N:Int
 F:Int
 D:Int
 Period:Int
 Rate:Int
 Drift:Int
 Offset:Int
 Slot:Int
 Mod:Int
 Fresh:Int
 Table:List Int
 deriving DecidableEq,Inhabited
@[reducible] def GConf.cells (x:GConf):List AV:=[iav x.N,iav x.F,iav x.D,iav x.Period,iav x.Rate,iav x.Drift,iav x.Offset,iav x.Slot,iav x.Mod,iav x.Fresh,lav iav x.Table]
@[reducible] def GConf.av (x:GConf):AV:=.agg [iav x.N,iav x.F,iav x.D,iav x.Period,iav x.Rate,iav x.Drift,iav x.Offset,iav x.Slot,iav x.Mod,iav x.Fresh,lav iav x.Table]
structure Ground_machine where
 Conf:GConf
 f_faulty:List Int
 deriving DecidableEq,Inhabited
@[reducible] def Ground_machine.cells (x:Ground_machine):List AV:=[iav x.Conf.N,iav x.Conf.F,iav x.Conf.D,iav x.Conf.Period,iav x.Conf.Rate,iav x.Conf.Drift,iav x.Conf.Offset,iav x.Conf.Slot,iav x.Conf.Mod,iav x.Conf.Fresh,lav iav x.Conf.Table,lav iav x.f_faulty]
@[reducible] def Ground_machine.av (x:Ground_machine):AV:=.agg [iav x.Conf.N,iav x.Conf.F,iav x.Conf.D,iav x.Conf.Period,iav x.Conf.Rate,iav x.Conf.Drift,iav x.Conf.Offset,iav x.Conf.Slot,iav x.Conf.Mod,iav x.Conf.Fresh,lav iav x.Conf.Table,lav iav x.f_faulty]
structure GRound where
 Number:Int
 Members:List UInt8
 Lines:List (List UInt8)
 Got:List (List GDeliver)
 deriving DecidableEq,Inhabited
@[reducible] def GRound.cells (x:GRound):List AV:=[iav x.Number,.str x.Members,lav sav x.Lines,lav (lav GDeliver.av) x.Got]
@[reducible] def GRound.av (x:GRound):AV:=.agg [iav x.Number,.str x.Members,lav sav x.Lines,lav (lav GDeliver.av) x.Got]
namespace x0
noncomputable abbrev LM :MRec:=lim M XE
abbrev HE {α:Type}(e:α→AV)(P:Option α)(f:Nat)(a:List AV):Prop:=HS P (LM.call f a []) fun r q=>q=(e r,[])
theorem sv {α:Type}{f:Nat}{F:MFunc}{args:List AV}{hin:List PF.Obj}{P:Option α}{G:α→Option (AV×List PF.Obj)→Prop}(h: ∀(S:Stp) (_:S=stp) (_:wr=S.wr) (_:w8=S.w8) (R:MRec) (_:R=lim M XE),Sim P G (callE2 S R F args hin))(hf:M f=some F:=by rfl)(hl:args.length=F.nargs:=by rfl):Sim P G (LM.call f args hin):=sim_evR M XE hf hl h
theorem sa {α:Type}{f:Nat}{F:MFunc}{args:List AV}{hin:List PF.Obj}{P:Option α}{G:α→Option (AV×List PF.Obj)→Prop}(hf:M f=some F:=by rfl)(hl:args.length=F.nargs:=by rfl)(h: ∀(S:Stp) (_:S=stp) (_:wr=S.wr) (_:w8=S.w8) (R:MRec) (_:R=lim M XE),Sim P G (callE2 S R F args hin):=by
 intro S hS hw hw8 R hR
 try simp only[hw]
 try simp only[hw8]
 exact fin):Sim P G (LM.call f args hin):=sim_evR M XE hf hl h
theorem lv {σ ρ:Type}{ks ko kx:List Nat}{b:MCode}{f:σ→Option (σ⊕ρ)}{R:ρ→Ex×PF.St→Prop}(pre:σ→PF.St→Prop)(v0:σ)
 (round: ∀(S:Stp) (_:S=stp) (_:wr=S.wr) (_:w8=S.w8) (L:MRec) (_:L=lim M XE) v env hp,pre v ⟨env,hp⟩→Sim (f v) (fun o Q=>match o with
   | .inl v'=> ∃t e',Q=L.loop (ks,ko,kx,b) t∧keep ks ko t=some e'∧pre v' e'
   | .inr r=>Gv R r Q)
   (rnJ S L b env hp (fun e env h=>match e with
     | .norm=>L.loop (ks,ko,kx,b) ⟨env,h⟩
     | .exit j=>kO (keep kx ko ⟨env,h⟩) fun s=>some (.exit j,s)
     | .ret=>kO (keep kx ko ⟨env,h⟩) fun s=>some (.ret,s)))):HL (loopO f v0) LM (ks,ko,kx,b) (pre v0) R:=
 ⟨fun s e hk hp=>sim_loop M XE pre R round v0 s e hk hp⟩
theorem lf {σ ρ:Type}{ks ko kx:List Nat}{b:MCode}{f:σ→Option (σ⊕ρ)}{R:ρ→Ex×PF.St→Prop}{pre:σ→PF.St→Prop}{v0:σ}
 (round: ∀(S:Stp) (_:S=stp) (_:wr=S.wr) (_:w8=S.w8) (L:MRec) (_:L=lim M XE) v env hp,pre v ⟨env,hp⟩→Sim (f v) (fun o Q=>match o with
   | .inl v'=> ∃t e',Q=L.loop (ks,ko,kx,b) t∧keep ks ko t=some e'∧pre v' e'
   | .inr r=>Gv R r Q)
   (rnJ S L b env hp (fun e env h=>match e with
     | .norm=>L.loop (ks,ko,kx,b) ⟨env,h⟩
     | .exit j=>kO (keep kx ko ⟨env,h⟩) fun s=>some (.exit j,s)
     | .ret=>kO (keep kx ko ⟨env,h⟩) fun s=>some (.ret,s))):=by
   intro S hS hw hw8 R hR v env hp hr
   have h9:=hr
   repeat(obtain⟨_,h9⟩:=(show∃_,_ from h9))
   first|cases(show _=_ from h9)|(obtain⟨h2,h4⟩:=(show _∧_ from h9);cases h2;try(obtain⟨_,_⟩:=(show _∧_ from h4)))
   try(conv=>arg 1;dsimp only)
   try simp only[hw]
   try simp only[hw8]
   exact fin):HL (loopO f v0) LM (ks,ko,kx,b) (pre v0) R:=lv pre v0 round
noncomputable def trace_At (rows:List (List GReport))(t0:Int)(node:Int):Option GReport:=
 if t0<0 then
  some (GReport.mk false false 0 0 ([]:List UInt8) 0 ([]:List GDeliver))
 else
  if(List.length rows:Int)≤t0 then
   some (GReport.mk false false 0 0 ([]:List UInt8) 0 ([]:List GDeliver))
  else
   if node<0 then
    some (GReport.mk false false 0 0 ([]:List UInt8) 0 ([]:List GDeliver))
   else
    (idx? rows t0).bind fun z0=>
    if(List.length z0:Int)≤node then
     some (GReport.mk false false 0 0 ([]:List UInt8) 0 ([]:List GDeliver))
    else
     (idx? rows t0).bind fun z2=>
     (idx? z2 node).bind fun z3=>
     some z3
instance trace_At_sim (rows:List (List GReport))(t0:Int)(node:Int):HE GReport.av (trace_At rows t0 node) 112 [lav (lav GReport.av) rows,iav t0,iav node]:=⟨by unfold trace_At;exact sa⟩
noncomputable def slices_Index_int_int_0_step (s2:List Int)(v2:Int)(x0:Int)(x2:Int):Option ((Int)⊕((Int)⊕(Unit))):=
 if x2<x0 then
  (idx? s2 x2).bind fun z0=>
  if v2=z0 then
   some (.inr (.inl x2))
  else
   some (.inl (wr (x2+1)))
 else
  some (.inr (.inr ()))
noncomputable def slices_Index_int_int_0 (s2:List Int)(v2:Int)(x0:Int)(x2:Int):Option ((Int)⊕(Unit)):=
 loopO (fun s:Int=>slices_Index_int_int_0_step s2 v2 x0 s) x2
def slices_Index_int_int_0_pre (s2:List Int)(v2:Int)(x0:Int)(v:Int)(e:PF.St):Prop:=e=⟨[(0,lav iav s2),(1,iav v2),(7,iav x0),(8,iav v)],[]⟩
instance slices_Index_int_int_0_sim (s2:List Int)(v2:Int)(x0:Int)(x2:Int):HL (slices_Index_int_int_0 s2 v2 x0 x2) LM ([0,1,7,8],[],[4],B222_0) (slices_Index_int_int_0_pre s2 v2 x0 x2) (rS (rE fun r=>(Ex.ret,⟨[(4,iav r)],[]⟩)) (rE fun r=>((.exit 0),⟨[(4,.undef)],[]⟩))):=by unfold slices_Index_int_int_0 slices_Index_int_int_0_step;exact lf
noncomputable def slices_Index_int_int (s0:List Int)(v0:Int):Option Int:=
 (slices_Index_int_int_0 s0 v0 (List.length s0:Int) 0).bind fun r0=>
 Sum.elim
  (fun r2=>
    some r2)
  (fun r3=>
    some (-1))
  r0
instance slices_Index_int_int_sim (s0:List Int)(v0:Int):HE iav (slices_Index_int_int s0 v0) 222 [lav iav s0,iav v0]:=⟨by unfold slices_Index_int_int;exact sa⟩
noncomputable def slices_Contains_int_int (s0:List Int)(v0:Int):Option Bool:=
 (slices_Index_int_int s0 v0).bind fun r0=>
 some (decide (0≤r0))
instance slices_Contains_int_int_sim (s0:List Int)(v0:Int):HE bav (slices_Contains_int_int s0 v0) 179 [lav iav s0,iav v0]:=⟨by unfold slices_Contains_int_int;exact sa⟩
noncomputable def round_machine_lies (m0:Ground_machine)(n0:Int):Option Bool:=
 (slices_Contains_int_int m0.f_faulty n0).bind fun r0=>
 some r0
instance round_machine_lies_sim (m0:Ground_machine)(n0:Int):HE bav (round_machine_lies m0 n0) 202 [Ground_machine.av m0,iav n0]:=⟨by unfold round_machine_lies;exact sa⟩
noncomputable def round_machine_message (m0:Ground_machine)(r0:GRound)(d0:GDeliver)(last:Int):Option Int:=
 if d0.Slot≤last then
  some 11
 else
  if(List.length m0.Conf.Table:Int)≤d0.Slot then
   some 11
  else
   (idx? m0.Conf.Table d0.Slot).bind fun z0=>
   if d0.From≠z0 then
    some 12
   else
    if d0.Cycle≠r0.Number then
     some 16
    else
     if 16<(List.length d0.Text:Int)then
      some 15
     else
      (round_machine_lies m0 d0.From).bind fun r2=>
      if(!r2)=true then
       (idx? r0.Lines d0.From).bind fun z2=>
       if d0.Text≠z2 then
        some 15
       else
        some 0
      else
       some 0
instance round_machine_message_sim (m0:Ground_machine)(r0:GRound)(d0:GDeliver)(last:Int):HE iav (round_machine_message m0 r0 d0 last) 203 [Ground_machine.av m0,GRound.av r0,GDeliver.av d0,iav last]:=⟨by unfold round_machine_message;exact sa⟩
end x0
end Go.Proofs.YtaoijbibmcgdaaaGreat
