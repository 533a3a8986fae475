/-
  The program's functions as plain functions (printed by a program of mine), each beside the machine's.
-/
import Derived.Test.YtaoijbibmcgdaaaGreatFm
import Derived.Test.YtaoijbibmcgdaaaGreatPFe
set_option linter.unusedVariables false
set_option linter.unusedSimpArgs false
set_option maxRecDepth 100000
set_option maxHeartbeats 4000000
namespace Go.Proofs.YtaoijbibmcgdaaaGreat
open Go.Proofs.PF
noncomputable abbrev LM :MRec:=lim M XE
abbrev HE {α:Type}(e:α→AV)(P:Option α)(f:Nat)(a:List AV):Prop:=HS P (LM.call f a []) fun r q=>q=(e r,[])
theorem app_mapU {α γ:Type}{f:α→AV}{g:γ→AV}(u:γ→α)(h: ∀x,(g x).cells=[f (u x)])(l:List α)(ys:List γ):l.map f++(ys.map g).flatMap AV.cells=(l++ys.map u).map f:=by
 rw[List.map_append]
 congr 1
 induction ys with
 |nil=>rfl
 |cons y r ih=>rw[List.map_cons,List.flatMap_cons,ih,h,List.map_cons,List.map_cons];rfl
theorem sv {α:Type}{f:Nat}{F:MFunc}{args:List AV}{hin:List PF.Obj}{P:Option α}{G:α→Option (AV×List PF.Obj)→Prop}(h: ∀(S:Stp) (_:S=stp) (_:wr=S.wr) (_:w8=S.w8) (R:MRec) (_:R=lim M XE),Sim P G (callE2 S R F args hin))(hf:M f=some F:=by rfl)(hl:args.length=F.nargs:=by rfl):Sim P G (LM.call f args hin):=sim_evR M XE hf hl h
theorem sa {α:Type}{f:Nat}{F:MFunc}{args:List AV}{hin:List PF.Obj}{P:Option α}{G:α→Option (AV×List PF.Obj)→Prop}(hf:M f=some F:=by rfl)(hl:args.length=F.nargs:=by rfl)(h: ∀(S:Stp) (_:S=stp) (_:wr=S.wr) (_:w8=S.w8) (R:MRec) (_:R=lim M XE),Sim P G (callE2 S R F args hin):=by
 intro S hS hw hw8 R hR
 try simp only[hw]
 try simp only[hw8]
 exact fin):Sim P G (LM.call f args hin):=sim_evR M XE hf hl h
theorem lv {σ ρ:Type}{ks ko kx:List Nat}{b:MCode}{f:σ→Option (σ⊕ρ)}{R:ρ→Ex×PF.St→Prop}(pre:σ→PF.St→Prop)(v0:σ)
 (round: ∀(S:Stp) (_:S=stp) (_:wr=S.wr) (_:w8=S.w8) (L:MRec) (_:L=lim M XE) v env hp,pre v ⟨env,hp⟩→Sim (f v) (fun o Q=>match o with
   | .inl v'=> ∃t e',Q=L.loop (ks,ko,kx,b) t∧keep ks ko t=some e'∧pre v' e'
   | .inr r=>Gv R r Q)
   (rnJ S L b env hp (fun e env h=>match e with
     | .norm=>L.loop (ks,ko,kx,b) ⟨env,h⟩
     | .exit j=>kO (keep kx ko ⟨env,h⟩) fun s=>some (.exit j,s)
     | .ret=>kO (keep kx ko ⟨env,h⟩) fun s=>some (.ret,s)))):HL (loopO f v0) LM (ks,ko,kx,b) (pre v0) R:=
 ⟨fun s e hk hp=>sim_loop M XE pre R round v0 s e hk hp⟩
theorem lf {σ ρ:Type}{ks ko kx:List Nat}{b:MCode}{f:σ→Option (σ⊕ρ)}{R:ρ→Ex×PF.St→Prop}{pre:σ→PF.St→Prop}{v0:σ}
 (round: ∀(S:Stp) (_:S=stp) (_:wr=S.wr) (_:w8=S.w8) (L:MRec) (_:L=lim M XE) v env hp,pre v ⟨env,hp⟩→Sim (f v) (fun o Q=>match o with
   | .inl v'=> ∃t e',Q=L.loop (ks,ko,kx,b) t∧keep ks ko t=some e'∧pre v' e'
   | .inr r=>Gv R r Q)
   (rnJ S L b env hp (fun e env h=>match e with
     | .norm=>L.loop (ks,ko,kx,b) ⟨env,h⟩
     | .exit j=>kO (keep kx ko ⟨env,h⟩) fun s=>some (.exit j,s)
     | .ret=>kO (keep kx ko ⟨env,h⟩) fun s=>some (.ret,s))):=by
   intro S hS hw hw8 R hR v env hp hr
   have h9:=hr
   repeat(obtain⟨_,h9⟩:=(show∃_,_ from h9))
   first|cases(show _=_ from h9)|(obtain⟨h2,h4⟩:=(show _∧_ from h9);cases h2;try(obtain⟨_,_⟩:=(show _∧_ from h4)))
   try(conv=>arg 1;dsimp only)
   try simp only[hw]
   try simp only[hw8]
   exact fin):HL (loopO f v0) LM (ks,ko,kx,b) (pre v0) R:=lv pre v0 round
structure Ar5 (α:Type) where
 a0:α
 a1:α
 a2:α
 a3:α
 a4:α
 deriving DecidableEq,Inhabited
@[reducible] def Ar5.cells {α:Type}(f:α→AV)(x:Ar5 α):List AV:=[f x.a0,f x.a1,f x.a2,f x.a3,f x.a4]
@[reducible] def Ar5.av {α:Type}(f:α→AV)(x:Ar5 α):AV:=.agg [f x.a0,f x.a1,f x.a2,f x.a3,f x.a4]
def Ar5.get? {α:Type}(x:Ar5 α):Nat→Option α
 |0=>some x.a0
 |1=>some x.a1
 |2=>some x.a2
 |3=>some x.a3
 |4=>some x.a4
 |_=>none
def Ar5.set? {α:Type}(x:Ar5 α)(k:Nat)(v:α):Option (Ar5 α):=
 match k with
 |0=>some {x with a0:=v}
 |1=>some {x with a1:=v}
 |2=>some {x with a2:=v}
 |3=>some {x with a3:=v}
 |4=>some {x with a4:=v}
 |_=>none
structure Ar6 (α:Type) where
 a0:α
 a1:α
 a2:α
 a3:α
 a4:α
 a5:α
 deriving DecidableEq,Inhabited
@[reducible] def Ar6.cells {α:Type}(f:α→AV)(x:Ar6 α):List AV:=[f x.a0,f x.a1,f x.a2,f x.a3,f x.a4,f x.a5]
@[reducible] def Ar6.av {α:Type}(f:α→AV)(x:Ar6 α):AV:=.agg [f x.a0,f x.a1,f x.a2,f x.a3,f x.a4,f x.a5]
def Ar6.get? {α:Type}(x:Ar6 α):Nat→Option α
 |0=>some x.a0
 |1=>some x.a1
 |2=>some x.a2
 |3=>some x.a3
 |4=>some x.a4
 |5=>some x.a5
 |_=>none
def Ar6.set? {α:Type}(x:Ar6 α)(k:Nat)(v:α):Option (Ar6 α):=
 match k with
 |0=>some {x with a0:=v}
 |1=>some {x with a1:=v}
 |2=>some {x with a2:=v}
 |3=>some {x with a3:=v}
 |4=>some {x with a4:=v}
 |5=>some {x with a5:=v}
 |_=>none
structure Ar13 (α:Type) where
 a0:α
 a1:α
 a2:α
 a3:α
 a4:α
 a5:α
 a6:α
 a7:α
 a8:α
 a9:α
 a10:α
 a11:α
 a12:α
 deriving DecidableEq,Inhabited
@[reducible] def Ar13.cells {α:Type}(f:α→AV)(x:Ar13 α):List AV:=[f x.a0,f x.a1,f x.a2,f x.a3,f x.a4,f x.a5,f x.a6,f x.a7,f x.a8,f x.a9,f x.a10,f x.a11,f x.a12]
@[reducible] def Ar13.av {α:Type}(f:α→AV)(x:Ar13 α):AV:=.agg [f x.a0,f x.a1,f x.a2,f x.a3,f x.a4,f x.a5,f x.a6,f x.a7,f x.a8,f x.a9,f x.a10,f x.a11,f x.a12]
def Ar13.get? {α:Type}(x:Ar13 α):Nat→Option α
 |0=>some x.a0
 |1=>some x.a1
 |2=>some x.a2
 |3=>some x.a3
 |4=>some x.a4
 |5=>some x.a5
 |6=>some x.a6
 |7=>some x.a7
 |8=>some x.a8
 |9=>some x.a9
 |10=>some x.a10
 |11=>some x.a11
 |12=>some x.a12
 |_=>none
def Ar13.set? {α:Type}(x:Ar13 α)(k:Nat)(v:α):Option (Ar13 α):=
 match k with
 |0=>some {x with a0:=v}
 |1=>some {x with a1:=v}
 |2=>some {x with a2:=v}
 |3=>some {x with a3:=v}
 |4=>some {x with a4:=v}
 |5=>some {x with a5:=v}
 |6=>some {x with a6:=v}
 |7=>some {x with a7:=v}
 |8=>some {x with a8:=v}
 |9=>some {x with a9:=v}
 |10=>some {x with a10:=v}
 |11=>some {x with a11:=v}
 |12=>some {x with a12:=v}
 |_=>none
structure GPort where
 Text:List UInt8
 Cycle:Int
 Age:Int
 deriving DecidableEq,Inhabited
@[reducible] def GPort.cells (x:GPort):List AV:=[.str x.Text,iav x.Cycle,iav x.Age]
@[reducible] def GPort.av (x:GPort):AV:=.agg [.str x.Text,iav x.Cycle,iav x.Age]
structure GSend where
 From:Int
 To:Int
 Delay:Int
 Bytes:List UInt8
 deriving DecidableEq,Inhabited
@[reducible] def GSend.cells (x:GSend):List AV:=[iav x.From,iav x.To,iav x.Delay,.str x.Bytes]
@[reducible] def GSend.av (x:GSend):AV:=.agg [iav x.From,iav x.To,iav x.Delay,.str x.Bytes]
structure GBurst where
 Node:Int
 Image:List UInt8
 deriving DecidableEq,Inhabited
@[reducible] def GBurst.cells (x:GBurst):List AV:=[iav x.Node,.str x.Image]
@[reducible] def GBurst.av (x:GBurst):AV:=.agg [iav x.Node,.str x.Image]
structure GWrite where
 Node:Int
 Text:List UInt8
 deriving DecidableEq,Inhabited
@[reducible] def GWrite.cells (x:GWrite):List AV:=[iav x.Node,.str x.Text]
@[reducible] def GWrite.av (x:GWrite):AV:=.agg [iav x.Node,.str x.Text]
structure GTick where
 Units:List Int
 Delays:List Int
 Sends:List GSend
 Bursts:List GBurst
 Strays:List GSend
 Writes:List GWrite
 deriving DecidableEq,Inhabited
@[reducible] def GTick.cells (x:GTick):List AV:=[lav iav x.Units,lav iav x.Delays,lav GSend.av x.Sends,lav GBurst.av x.Bursts,lav GSend.av x.Strays,lav GWrite.av x.Writes]
@[reducible] def GTick.av (x:GTick):AV:=.agg [lav iav x.Units,lav iav x.Delays,lav GSend.av x.Sends,lav GBurst.av x.Bursts,lav GSend.av x.Strays,lav GWrite.av x.Writes]
structure GScript where
 Conf:GConf
 Faulty:List Int
 Images:List (List UInt8)
 Ticks:List GTick
 deriving DecidableEq,Inhabited
@[reducible] def GScript.cells (x:GScript):List AV:=[iav x.Conf.N,iav x.Conf.F,iav x.Conf.D,iav x.Conf.Period,iav x.Conf.Rate,iav x.Conf.Drift,iav x.Conf.Offset,iav x.Conf.Slot,iav x.Conf.Mod,iav x.Conf.Fresh,lav iav x.Conf.Table,lav iav x.Faulty,lav sav x.Images,lav GTick.av x.Ticks]
@[reducible] def GScript.av (x:GScript):AV:=.agg [iav x.Conf.N,iav x.Conf.F,iav x.Conf.D,iav x.Conf.Period,iav x.Conf.Rate,iav x.Conf.Drift,iav x.Conf.Offset,iav x.Conf.Slot,iav x.Conf.Mod,iav x.Conf.Fresh,lav iav x.Conf.Table,lav iav x.Faulty,lav sav x.Images,lav GTick.av x.Ticks]
structure Gconf_span where
 f_low:Int
 f_high:Int
 deriving DecidableEq,Inhabited
@[reducible] def Gconf_span.cells (x:Gconf_span):List AV:=[iav x.f_low,iav x.f_high]
@[reducible] def Gconf_span.av (x:Gconf_span):AV:=.agg [iav x.f_low,iav x.f_high]
structure Gs_nI_spanG where
 f_n:Int
 f_span:Gconf_span
 deriving DecidableEq,Inhabited
@[reducible] def Gs_nI_spanG.cells (x:Gs_nI_spanG):List AV:=[iav x.f_n,iav x.f_span.f_low,iav x.f_span.f_high]
@[reducible] def Gs_nI_spanG.av (x:Gs_nI_spanG):AV:=.agg [iav x.f_n,iav x.f_span.f_low,iav x.f_span.f_high]
structure Gbound_plain where
 Conf:GConf
 deriving DecidableEq,Inhabited
@[reducible] def Gbound_plain.cells (x:Gbound_plain):List AV:=[iav x.Conf.N,iav x.Conf.F,iav x.Conf.D,iav x.Conf.Period,iav x.Conf.Rate,iav x.Conf.Drift,iav x.Conf.Offset,iav x.Conf.Slot,iav x.Conf.Mod,iav x.Conf.Fresh,lav iav x.Conf.Table]
@[reducible] def Gbound_plain.av (x:Gbound_plain):AV:=.agg [iav x.Conf.N,iav x.Conf.F,iav x.Conf.D,iav x.Conf.Period,iav x.Conf.Rate,iav x.Conf.Drift,iav x.Conf.Offset,iav x.Conf.Slot,iav x.Conf.Mod,iav x.Conf.Fresh,lav iav x.Conf.Table]
structure Gbound_sound where
 f_plain:Gbound_plain
 f_wide:Int
 deriving DecidableEq,Inhabited
@[reducible] def Gbound_sound.cells (x:Gbound_sound):List AV:=[iav x.f_plain.Conf.N,iav x.f_plain.Conf.F,iav x.f_plain.Conf.D,iav x.f_plain.Conf.Period,iav x.f_plain.Conf.Rate,iav x.f_plain.Conf.Drift,iav x.f_plain.Conf.Offset,iav x.f_plain.Conf.Slot,iav x.f_plain.Conf.Mod,iav x.f_plain.Conf.Fresh,lav iav x.f_plain.Conf.Table,iav x.f_wide]
@[reducible] def Gbound_sound.av (x:Gbound_sound):AV:=.agg [iav x.f_plain.Conf.N,iav x.f_plain.Conf.F,iav x.f_plain.Conf.D,iav x.f_plain.Conf.Period,iav x.f_plain.Conf.Rate,iav x.f_plain.Conf.Drift,iav x.f_plain.Conf.Offset,iav x.f_plain.Conf.Slot,iav x.f_plain.Conf.Mod,iav x.f_plain.Conf.Fresh,lav iav x.f_plain.Conf.Table,iav x.f_wide]
structure Gpremise_run where
 Script:GScript
 deriving DecidableEq,Inhabited
@[reducible] def Gpremise_run.cells (x:Gpremise_run):List AV:=[iav x.Script.Conf.N,iav x.Script.Conf.F,iav x.Script.Conf.D,iav x.Script.Conf.Period,iav x.Script.Conf.Rate,iav x.Script.Conf.Drift,iav x.Script.Conf.Offset,iav x.Script.Conf.Slot,iav x.Script.Conf.Mod,iav x.Script.Conf.Fresh,lav iav x.Script.Conf.Table,lav iav x.Script.Faulty,lav sav x.Script.Images,lav GTick.av x.Script.Ticks]
@[reducible] def Gpremise_run.av (x:Gpremise_run):AV:=.agg [iav x.Script.Conf.N,iav x.Script.Conf.F,iav x.Script.Conf.D,iav x.Script.Conf.Period,iav x.Script.Conf.Rate,iav x.Script.Conf.Drift,iav x.Script.Conf.Offset,iav x.Script.Conf.Slot,iav x.Script.Conf.Mod,iav x.Script.Conf.Fresh,lav iav x.Script.Conf.Table,lav iav x.Script.Faulty,lav sav x.Script.Images,lav GTick.av x.Script.Ticks]
structure Gjudge_run where
 Script:GScript
 f_honest:List Int
 f_rows:List (List GReport)
 f_all:Int
 deriving DecidableEq,Inhabited
@[reducible] def Gjudge_run.cells (x:Gjudge_run):List AV:=[iav x.Script.Conf.N,iav x.Script.Conf.F,iav x.Script.Conf.D,iav x.Script.Conf.Period,iav x.Script.Conf.Rate,iav x.Script.Conf.Drift,iav x.Script.Conf.Offset,iav x.Script.Conf.Slot,iav x.Script.Conf.Mod,iav x.Script.Conf.Fresh,lav iav x.Script.Conf.Table,lav iav x.Script.Faulty,lav sav x.Script.Images,lav GTick.av x.Script.Ticks,lav iav x.f_honest,lav (lav GReport.av) x.f_rows,iav x.f_all]
@[reducible] def Gjudge_run.av (x:Gjudge_run):AV:=.agg [iav x.Script.Conf.N,iav x.Script.Conf.F,iav x.Script.Conf.D,iav x.Script.Conf.Period,iav x.Script.Conf.Rate,iav x.Script.Conf.Drift,iav x.Script.Conf.Offset,iav x.Script.Conf.Slot,iav x.Script.Conf.Mod,iav x.Script.Conf.Fresh,lav iav x.Script.Conf.Table,lav iav x.Script.Faulty,lav sav x.Script.Images,lav GTick.av x.Script.Ticks,lav iav x.f_honest,lav (lav GReport.av) x.f_rows,iav x.f_all]
structure GEntry where
 From:Int
 At:Int
 deriving DecidableEq,Inhabited
@[reducible] def GEntry.cells (x:GEntry):List AV:=[iav x.From,iav x.At]
@[reducible] def GEntry.av (x:GEntry):AV:=.agg [iav x.From,iav x.At]
structure GMem where
 Clock:Int
 Anchor:Int
 Since:Int
 Pipe:List UInt8
 Age:Int
 Vec:List UInt8
 Agreed:List UInt8
 Number:Int
 Regular:Int
 Members:List UInt8
 Seen:List UInt8
 Heard:List UInt8
 Sent:List UInt8
 Out:List UInt8
 Line:List UInt8
 Ports:List GPort
 Hold:List (List UInt8)
 Log:List GEntry
 Diag:Ar6 Int
 deriving DecidableEq,Inhabited
@[reducible] def GMem.cells (x:GMem):List AV:=[iav x.Clock,iav x.Anchor,iav x.Since,.str x.Pipe,iav x.Age,.str x.Vec,.str x.Agreed,iav x.Number,iav x.Regular,.str x.Members,.str x.Seen,.str x.Heard,.str x.Sent,.str x.Out,.str x.Line,lav GPort.av x.Ports,lav sav x.Hold,lav GEntry.av x.Log,iav x.Diag.a0,iav x.Diag.a1,iav x.Diag.a2,iav x.Diag.a3,iav x.Diag.a4,iav x.Diag.a5]
@[reducible] def GMem.av (x:GMem):AV:=.agg [iav x.Clock,iav x.Anchor,iav x.Since,.str x.Pipe,iav x.Age,.str x.Vec,.str x.Agreed,iav x.Number,iav x.Regular,.str x.Members,.str x.Seen,.str x.Heard,.str x.Sent,.str x.Out,.str x.Line,lav GPort.av x.Ports,lav sav x.Hold,lav GEntry.av x.Log,iav x.Diag.a0,iav x.Diag.a1,iav x.Diag.a2,iav x.Diag.a3,iav x.Diag.a4,iav x.Diag.a5]
structure Gimage_reader where
 f_s:List UInt8
 f_at:Int
 deriving DecidableEq,Inhabited
@[reducible] def Gimage_reader.cells (x:Gimage_reader):List AV:=[.str x.f_s,iav x.f_at]
@[reducible] def Gimage_reader.av (x:Gimage_reader):AV:=.agg [.str x.f_s,iav x.f_at]
structure Gimage_recall where
 f_reader:Gimage_reader
 f_c:GConf
 deriving DecidableEq,Inhabited
@[reducible] def Gimage_recall.cells (x:Gimage_recall):List AV:=[.str x.f_reader.f_s,iav x.f_reader.f_at,iav x.f_c.N,iav x.f_c.F,iav x.f_c.D,iav x.f_c.Period,iav x.f_c.Rate,iav x.f_c.Drift,iav x.f_c.Offset,iav x.f_c.Slot,iav x.f_c.Mod,iav x.f_c.Fresh,lav iav x.f_c.Table]
@[reducible] def Gimage_recall.av (x:Gimage_recall):AV:=.agg [.str x.f_reader.f_s,iav x.f_reader.f_at,iav x.f_c.N,iav x.f_c.F,iav x.f_c.D,iav x.f_c.Period,iav x.f_c.Rate,iav x.f_c.Drift,iav x.f_c.Offset,iav x.f_c.Slot,iav x.f_c.Mod,iav x.f_c.Fresh,lav iav x.f_c.Table]
structure Gslot_span where
 f_slowest:Int
 f_fastest:Int
 deriving DecidableEq,Inhabited
@[reducible] def Gslot_span.cells (x:Gslot_span):List AV:=[iav x.f_slowest,iav x.f_fastest]
@[reducible] def Gslot_span.av (x:Gslot_span):AV:=.agg [iav x.f_slowest,iav x.f_fastest]
structure GVerdict where
 Ticks:Int
 Last:Int
 Settled:Int
 All:Int
 Cycles:Int
 Faults:Ar5 Int
 deriving DecidableEq,Inhabited
@[reducible] def GVerdict.cells (x:GVerdict):List AV:=[iav x.Ticks,iav x.Last,iav x.Settled,iav x.All,iav x.Cycles,iav x.Faults.a0,iav x.Faults.a1,iav x.Faults.a2,iav x.Faults.a3,iav x.Faults.a4]
@[reducible] def GVerdict.av (x:GVerdict):AV:=.agg [iav x.Ticks,iav x.Last,iav x.Settled,iav x.All,iav x.Cycles,iav x.Faults.a0,iav x.Faults.a1,iav x.Faults.a2,iav x.Faults.a3,iav x.Faults.a4]
structure GReport_g where
 Pulse:Bool
 Sync:Bool
 Number:Int
 Slot:Int
 Members:List UInt8
 Sent:Int
 Got:Gr×List GDeliver
 deriving DecidableEq,Inhabited
@[reducible] def GReport_g.pl (x:GReport_g):GReport:=GReport.mk x.Pulse x.Sync x.Number x.Slot x.Members x.Sent (Prod.snd x.Got)
@[reducible] def GReport_g.up (x:GReport):GReport_g:=GReport_g.mk x.Pulse x.Sync x.Number x.Slot x.Members x.Sent ((fun x=>(Gr.no,x)) x.Got)
@[reducible] def GReport_g.cells (x:GReport_g):List AV:=[.bool x.Pulse,.bool x.Sync,iav x.Number,iav x.Slot,.str x.Members,iav x.Sent,.lst x.Got.1 (List.map GDeliver.av x.Got.2)]
@[reducible] def GReport_g.av (x:GReport_g):AV:=.agg [.bool x.Pulse,.bool x.Sync,iav x.Number,iav x.Slot,.str x.Members,iav x.Sent,.lst x.Got.1 (List.map GDeliver.av x.Got.2)]
noncomputable def slices_Clone_api_Port_api_Port (l:List GPort):Option (List GPort):=if l.length≤lenMax then some l else none
theorem slices_Clone_api_Port_api_Port_sim (l:List GPort)(g:Gr):Sim (slices_Clone_api_Port_api_Port l) (Gv fun r q=>q=(AV.arr 0 0 (List.length r) 3 true,[(⟨true,(List.flatMap GPort.cells r)⟩:PF.Obj)])) (LM.call 243 [.lst g (List.map GPort.av l)] []):=by
 unfold slices_Clone_api_Port_api_Port
 refine Sim.guard fun h=> ?_
 have h1:(okElems 3 true (List.map GPort.av l)&&Nat.ble (List.map GPort.av l).length lenMax)=true:=by
  rw[okE_map (by intro _;exact⟨rfl,rfl,rfl⟩)];simpa using h
 have h2:XE 243 [.lst g (List.map GPort.av l)]=some (AV.arr 0 0 (List.map GPort.av l).length 3 true,[(⟨true,(List.map GPort.av l).flatMap AV.cells⟩:PF.Obj)]):=by
  first
  |(show(if(okElems 3 true (List.map GPort.av l)&&Nat.ble (List.map GPort.av l).length lenMax)=true then some (AV.arr 0 0 (List.map GPort.av l).length 3 true,[(⟨true,(List.map GPort.av l).flatMap AV.cells⟩:PF.Obj)])else none)=_;rw[h1];rfl)
  |(show(match(if(okElems 3 true (List.map GPort.av l)&&Nat.ble (List.map GPort.av l).length lenMax)=true then some (AV.arr 0 0 (List.map GPort.av l).length 3 true,[(⟨true,(List.map GPort.av l).flatMap AV.cells⟩:PF.Obj)])else none)with
   |some r=>some r
   |none=>_)=_;rw[h1];rfl)
 refine Sim.ret ⟨(AV.arr 0 0 (List.map GPort.av l).length 3 true,[(⟨true,(List.map GPort.av l).flatMap AV.cells⟩:PF.Obj)]),by rw[lim_ext_eq M XE rfl];exact h2,?_⟩
 show(AV.arr 0 0 (List.map GPort.av l).length 3 true,[(⟨true,(List.map GPort.av l).flatMap AV.cells⟩:PF.Obj)])=(AV.arr 0 0 (List.length l) 3 true,[(⟨true,(List.flatMap GPort.cells l)⟩:PF.Obj)])
 have h3:(List.map GPort.av l).flatMap AV.cells=(List.flatMap GPort.cells l):=app_fm (f:=GPort.cells) (g:=GPort.av) (by intro _;rfl) [] l
 rw[h3,List.length_map]
noncomputable def slices_Clone_string_string (l:List (List UInt8)):Option (List (List UInt8)):=if l.length≤lenMax then some l else none
theorem slices_Clone_string_string_sim (l:List (List UInt8))(g:Gr):Sim (slices_Clone_string_string l) (Gv fun r q=>q=(AV.arr 0 0 (List.length r) 1 false,[(⟨true,(List.map sav r)⟩:PF.Obj)])) (LM.call 244 [.lst g (List.map sav l)] []):=by
 unfold slices_Clone_string_string
 refine Sim.guard fun h=> ?_
 have h1:(okElems 1 false (List.map sav l)&&Nat.ble (List.map sav l).length lenMax)=true:=by
  rw[okE_map (by intro _;exact⟨rfl,rfl,rfl⟩)];simpa using h
 have h2:XE 244 [.lst g (List.map sav l)]=some (AV.arr 0 0 (List.map sav l).length 1 false,[(⟨true,(List.map sav l).flatMap AV.cells⟩:PF.Obj)]):=by
  first
  |(show(if(okElems 1 false (List.map sav l)&&Nat.ble (List.map sav l).length lenMax)=true then some (AV.arr 0 0 (List.map sav l).length 1 false,[(⟨true,(List.map sav l).flatMap AV.cells⟩:PF.Obj)])else none)=_;rw[h1];rfl)
  |(show(match(if(okElems 1 false (List.map sav l)&&Nat.ble (List.map sav l).length lenMax)=true then some (AV.arr 0 0 (List.map sav l).length 1 false,[(⟨true,(List.map sav l).flatMap AV.cells⟩:PF.Obj)])else none)with
   |some r=>some r
   |none=>_)=_;rw[h1];rfl)
 refine Sim.ret ⟨(AV.arr 0 0 (List.map sav l).length 1 false,[(⟨true,(List.map sav l).flatMap AV.cells⟩:PF.Obj)]),by rw[lim_ext_eq M XE rfl];exact h2,?_⟩
 show(AV.arr 0 0 (List.map sav l).length 1 false,[(⟨true,(List.map sav l).flatMap AV.cells⟩:PF.Obj)])=(AV.arr 0 0 (List.length l) 1 false,[(⟨true,(List.map sav l)⟩:PF.Obj)])
 have h3:(List.map sav l).flatMap AV.cells=(List.map sav l):=app_map (f:=sav) (by intro _;rfl) [] l
 rw[h3,List.length_map]
noncomputable def trace_Got (rows:List (List GReport))(node lo hi:Int):Option (List GDeliver):=x0.gotP rows node lo hi
instance trace_Got_sim (rows:List (List GReport))(node lo hi:Int):HS (trace_Got rows node lo hi) (LM.call 113 [lav (lav GReport.av) rows,iav node,iav lo,iav hi] []) (fun r q=>q=(lav GDeliver.av r,[])):=⟨by
 intro r hr
 refine⟨_,?_,rfl⟩
 rw[lim_ext_eq M XE rfl]
 show(match x0.gotX 113 113 [lav (lav GReport.av) rows,iav node,iav lo,iav hi]with
  |some r=>some r
  |none=>_)=_
 rw[x0.gotX_eq hr]⟩
noncomputable def round_machine_node (m:Ground_machine)(r:GRound)(l:List GDeliver):Option Int:=x0.round_machine_node m r l
instance round_machine_node_sim (m:Ground_machine)(r:GRound)(l:List GDeliver):HS (round_machine_node m r l) (LM.call 137 [Ground_machine.av m,GRound.av r,lav GDeliver.av l] []) (fun r q=>q=(iav r,[])):=⟨by
 intro e he
 refine⟨_,?_,rfl⟩
 rw[lim_ext_eq M XE rfl]
 show(match x0.nodeX 137 137 [Ground_machine.av m,GRound.av r,lav GDeliver.av l]with
  |some r=>some r
  |none=>_)=_
 rw[x0.nodeX_eq he]⟩
noncomputable def strings_Repeat (s:List UInt8)(c:Int):Option (List UInt8):=if 0≤c∧c≤9223372036854775807∧s.length*c.toNat≤140737488355328 then some (Lib.repeatL s c.toNat)else none
instance strings_Repeat_sim (s:List UInt8)(c:Int):HS (strings_Repeat s c) (LM.call 242 [.str s,.int .i64 c] []) (fun r q=>q=(.str r,[])):=⟨by
 unfold strings_Repeat
 refine Sim.guard fun h=>Sim.ret ⟨(.str (Lib.repeatL s c.toNat),[]),?_,rfl⟩
 rw[lim_ext_eq M XE rfl]
 show(if 0≤c∧c≤9223372036854775807∧s.length*c.toNat≤140737488355328 then some (AV.str (Lib.repeatL s c.toNat),([]:List PF.Obj))else none)=_
 rw[if_pos h]⟩
noncomputable def r33_Few_0_step (s0:GScript)(t0:Int):Option ((Int)⊕((Bool)⊕(Unit))):=
 if t0<(List.length s0.Images:Int)then
  (idx? s0.Images t0).bind fun z0=>
  if 16000<(List.length z0:Int)then
   some (.inr (.inl false))
  else
   some (.inl (wr (t0+1)))
 else
  some (.inr (.inr ()))
noncomputable def r33_Few_0 (s0:GScript)(t0:Int):Option ((Bool)⊕(Unit)):=
 loopO (fun s:Int=>r33_Few_0_step s0 s) t0
def r33_Few_0_pre (s0:GScript)(v:Int)(e:PF.St):Prop:=e=⟨[(2,.ept (GScript.cells s0) 0),(5,iav v)],[]⟩
instance r33_Few_0_sim (s0:GScript)(t0:Int):HL (r33_Few_0 s0 t0) LM ([2,5],[],[2,4],B23_0) (r33_Few_0_pre s0 t0) (rS (rE fun r=>(Ex.ret,⟨[(2,.ept (GScript.cells s0) 0),(4,.bool r)],[]⟩)) (rE fun r=>((.exit 0),⟨[(2,.ept (GScript.cells s0) 0),(4,.undef)],[]⟩))):=by unfold r33_Few_0 r33_Few_0_step;exact lf
noncomputable def r33_Few_1_step (s3:GScript)(o2:Int)(x0:List GBurst)(x2:Int)(A0:GTick)(x3:Int):Option ((Int)⊕((Bool)⊕(Unit))):=
 if x3<x2 then
  (idx? x0 x3).bind fun z3=>
  if 16000<(List.length z3.Image:Int)then
   some (.inr (.inl false))
  else
   some (.inl (wr (x3+1)))
 else
  some (.inr (.inr ()))
noncomputable def r33_Few_1 (s3:GScript)(o2:Int)(x0:List GBurst)(x2:Int)(A0:GTick)(x3:Int):Option ((Bool)⊕(Unit)):=
 loopO (fun s:Int=>r33_Few_1_step s3 o2 x0 x2 A0 s) x3
def r33_Few_1_pre (s3:GScript)(o2:Int)(x0:List GBurst)(x2:Int)(A0:GTick)(v:Int)(e:PF.St):Prop:=e=⟨[(2,.ept (GScript.cells s3) 0),(6,iav o2),(95,lav GBurst.av x0),(96,iav x2),(97,iav v)],[(107,⟨true,GTick.cells A0⟩)]⟩
instance r33_Few_1_sim (s3:GScript)(o2:Int)(x0:List GBurst)(x2:Int)(A0:GTick)(x3:Int):HL (r33_Few_1 s3 o2 x0 x2 A0 x3) LM ([2,6,95,96,97],[107],[2,4,6],B23_1) (r33_Few_1_pre s3 o2 x0 x2 A0 x3) (rS (rE fun r=>(Ex.ret,⟨[(2,.ept (GScript.cells s3) 0),(4,.bool r),(6,iav o2)],[(107,⟨true,GTick.cells A0⟩)]⟩)) (rE fun r=>((.exit 4),⟨[(2,.ept (GScript.cells s3) 0),(4,.undef),(6,iav o2)],[(107,⟨true,GTick.cells A0⟩)]⟩))):=by unfold r33_Few_1 r33_Few_1_step;exact lf
noncomputable def r33_Few_2_step (s2:GScript)(o0:Int):Option ((Int)⊕((Bool)⊕(Unit))):=
 if o0<(List.length s2.Ticks:Int)then
  (idx? s2.Ticks o0).bind fun z2=>
  if 100<(List.length z2.Units:Int)then
   some (.inr (.inl false))
  else
   if 400<(List.length z2.Delays:Int)then
    some (.inr (.inl false))
   else
    if 100<(List.length z2.Sends:Int)then
     some (.inr (.inl false))
    else
     if 100<(List.length z2.Bursts:Int)then
      some (.inr (.inl false))
     else
      if 100<(List.length z2.Strays:Int)then
       some (.inr (.inl false))
      else
       if 100<(List.length z2.Writes:Int)then
        some (.inr (.inl false))
       else
        (r33_Few_1 s2 o0 z2.Bursts (List.length z2.Bursts:Int) z2 0).bind fun r4=>
        Sum.elim
         (fun r5=>
           some (.inr (.inl r5)))
         (fun r6=>
           some (.inl (wr (o0+1))))
         r4
 else
  some (.inr (.inr ()))
noncomputable def r33_Few_2 (s2:GScript)(o0:Int):Option ((Bool)⊕(Unit)):=
 loopO (fun s:Int=>r33_Few_2_step s2 s) o0
def r33_Few_2_pre (s2:GScript)(v:Int)(e:PF.St):Prop:=e=⟨[(2,.ept (GScript.cells s2) 0),(6,iav v)],[]⟩
instance r33_Few_2_sim (s2:GScript)(o0:Int):HL (r33_Few_2 s2 o0) LM ([2,6],[],[4],B23_2) (r33_Few_2_pre s2 o0) (rS (rE fun r=>(Ex.ret,⟨[(4,.bool r)],[]⟩)) (rE fun r=>((.exit 2),⟨[(4,.undef)],[]⟩))):=by unfold r33_Few_2 r33_Few_2_step;exact lf
noncomputable def r33_Few (L0:GScript)(i0:Int):Option Bool:=
 if i0<(List.length L0.Ticks:Int)then
  some false
 else
  if 100<(List.length L0.Conf.Table:Int)then
   some false
  else
   if 100<(List.length L0.Faulty:Int)then
    some false
   else
    if 100<(List.length L0.Images:Int)then
     some false
    else
     (r33_Few_0 L0 0).bind fun r0=>
     Sum.elim
      (fun r2=>
        some r2)
      (fun r3=>
        (r33_Few_2 L0 0).bind fun r7=>
        Sum.elim
         (fun r8=>
           some r8)
         (fun r9=>
           some true)
         r7)
      r0
instance r33_Few_sim (L0:GScript)(i0:Int):HE bav (r33_Few L0 i0) 23 [GScript.av L0,iav i0]:=⟨by unfold r33_Few;exact sa⟩
noncomputable def r36_Few_0_step (rows3:List (List GReport))(i2:Int)(k0:Int):Option ((Int)⊕((Bool)⊕(Unit))):=
 (idx? rows3 i2).bind fun z2=>
 if k0<(List.length z2:Int)then
  (idx? rows3 i2).bind fun z3=>
  (idx? z3 k0).bind fun z4=>
  if 40<(List.length z4.Got:Int)then
   some (.inr (.inl false))
  else
   some (.inl (wr (k0+1)))
 else
  some (.inr (.inr ()))
noncomputable def r36_Few_0 (rows3:List (List GReport))(i2:Int)(k0:Int):Option ((Bool)⊕(Unit)):=
 loopO (fun s:Int=>r36_Few_0_step rows3 i2 s) k0
def r36_Few_0_pre (rows3:List (List GReport))(i2:Int)(v:Int)(e:PF.St):Prop:=e=⟨[(0,lav (lav GReport.av) rows3),(5,iav i2),(6,iav v)],[]⟩
instance r36_Few_0_sim (rows3:List (List GReport))(i2:Int)(k0:Int):HL (r36_Few_0 rows3 i2 k0) LM ([0,5,6],[],[0,4,5],B24_0) (r36_Few_0_pre rows3 i2 k0) (rS (rE fun r=>(Ex.ret,⟨[(0,lav (lav GReport.av) rows3),(4,.bool r),(5,iav i2)],[]⟩)) (rE fun r=>((.exit 2),⟨[(0,lav (lav GReport.av) rows3),(4,.undef),(5,iav i2)],[]⟩))):=by unfold r36_Few_0 r36_Few_0_step;exact lf
noncomputable def r36_Few_1_step (rows2:List (List GReport))(i0:Int):Option ((Int)⊕((Bool)⊕(Unit))):=
 if i0<(List.length rows2:Int)then
  (idx? rows2 i0).bind fun z0=>
  if 20<(List.length z0:Int)then
   some (.inr (.inl false))
  else
   (r36_Few_0 rows2 i0 0).bind fun r0=>
   Sum.elim
    (fun r2=>
      some (.inr (.inl r2)))
    (fun r3=>
      some (.inl (wr (i0+1))))
    r0
 else
  some (.inr (.inr ()))
noncomputable def r36_Few_1 (rows2:List (List GReport))(i0:Int):Option ((Bool)⊕(Unit)):=
 loopO (fun s:Int=>r36_Few_1_step rows2 s) i0
def r36_Few_1_pre (rows2:List (List GReport))(v:Int)(e:PF.St):Prop:=e=⟨[(0,lav (lav GReport.av) rows2),(5,iav v)],[]⟩
instance r36_Few_1_sim (rows2:List (List GReport))(i0:Int):HL (r36_Few_1 rows2 i0) LM ([0,5],[],[4],B24_1) (r36_Few_1_pre rows2 i0) (rS (rE fun r=>(Ex.ret,⟨[(4,.bool r)],[]⟩)) (rE fun r=>((.exit 0),⟨[(4,.undef)],[]⟩))):=by unfold r36_Few_1 r36_Few_1_step;exact lf
noncomputable def r36_Few (rows:List (List GReport))(ticks:Int):Option Bool:=
 if ticks<(List.length rows:Int)then
  some false
 else
  (r36_Few_1 rows 0).bind fun r4=>
  Sum.elim
   (fun r5=>
     some r5)
   (fun r6=>
     some true)
   r4
instance r36_Few_sim (rows:List (List GReport))(ticks:Int):HE bav (r36_Few rows ticks) 24 [lav (lav GReport.av) rows,iav ticks]:=⟨by unfold r36_Few;exact sa⟩
noncomputable def l39_few (s0:GScript)(rows:List (List GReport)):Option Bool:=
 (r33_Few s0 400).bind fun r0=>
 if r0=true then
  (r36_Few rows 400).bind fun r2=>
  some r2
 else
  some false
instance l39_few_sim (s0:GScript)(rows:List (List GReport)):HE bav (l39_few s0 rows) 7 [GScript.av s0,lav (lav GReport.av) rows]:=⟨by unfold l39_few;exact sa⟩
def l39_known :Option Bool:=some true
instance l39_known_sim :HE bav l39_known 8 []:=⟨Sim.ret ⟨_,(lim_call M XE).2 ⟨400,by kernel_rfl⟩,rfl⟩⟩
noncomputable def conf_span_has (s0:Gconf_span)(n0:Int):Option Bool:=
 if s0.f_low≤n0 then
  some (decide (n0≤s0.f_high))
 else
  some false
instance conf_span_has_sim (s0:Gconf_span)(n0:Int):HE bav (conf_span_has s0 n0) 123 [Gconf_span.av s0,iav n0]:=⟨by unfold conf_span_has;exact sa⟩
noncomputable def conf_nodes (c0:GConf):Option Bool:=
 (conf_span_has (Gconf_span.mk 4 13) c0.N).bind fun r0=>
 if r0=true then
  (conf_span_has (Gconf_span.mk 0 4) c0.F).bind fun r2=>
  if r2=true then
   some (decide ((wr (3*c0.F))<c0.N))
  else
   some false
 else
  some false
instance conf_nodes_sim (c0:GConf):HE bav (conf_nodes c0) 122 [GConf.av c0]:=⟨by unfold conf_nodes;exact sa⟩
noncomputable def conf_numbers_0_step (x0:List Gs_nI_spanG)(x2:Int)(x3:Int):Option ((Int)⊕((Bool)⊕(Unit))):=
 if x3<x2 then
  (idx? x0 x3).bind fun z0=>
  (conf_span_has z0.f_span z0.f_n).bind fun r0=>
  if(!r0)=true then
   some (.inr (.inl false))
  else
   some (.inl (wr (x3+1)))
 else
  some (.inr (.inr ()))
noncomputable def conf_numbers_0 (x0:List Gs_nI_spanG)(x2:Int)(x3:Int):Option ((Bool)⊕(Unit)):=
 loopO (fun s:Int=>conf_numbers_0_step x0 x2 s) x3
def conf_numbers_0_pre (x0:List Gs_nI_spanG)(x2:Int)(v:Int)(e:PF.St):Prop:= ∃g0,e=⟨[(44,.lst g0 (List.map Gs_nI_spanG.av x0)),(45,iav x2),(46,iav v)],[]⟩∧Mg 3 g0
instance conf_numbers_0_sim (x0:List Gs_nI_spanG)(x2:Int)(x3:Int):HL (conf_numbers_0 x0 x2 x3) LM ([44,45,46],[],[2],B124_0) (conf_numbers_0_pre x0 x2 x3) (rS (rE fun r=>(Ex.ret,⟨[(2,.bool r)],[]⟩)) (rE fun r=>((.exit 0),⟨[(2,.undef)],[]⟩))):=by unfold conf_numbers_0 conf_numbers_0_step;exact lf
noncomputable def conf_numbers (c0:GConf):Option Bool:=
 (conf_numbers_0 [(Gs_nI_spanG.mk c0.Period (Gconf_span.mk (wr ((wr ((wr (6*(wr (c0.F+1))))*c0.D))+1)) 400)),(Gs_nI_spanG.mk c0.Rate (Gconf_span.mk 1 64)),(Gs_nI_spanG.mk c0.Drift (Gconf_span.mk 0 (wr (c0.Rate-1)))),(Gs_nI_spanG.mk c0.Offset (Gconf_span.mk 0 30000)),(Gs_nI_spanG.mk c0.Slot (Gconf_span.mk 1 30000)),(Gs_nI_spanG.mk c0.Mod (Gconf_span.mk 2 250)),(Gs_nI_spanG.mk c0.Fresh (Gconf_span.mk 1 100))] (List.length [(Gs_nI_spanG.mk c0.Period (Gconf_span.mk (wr ((wr ((wr (6*(wr (c0.F+1))))*c0.D))+1)) 400)),(Gs_nI_spanG.mk c0.Rate (Gconf_span.mk 1 64)),(Gs_nI_spanG.mk c0.Drift (Gconf_span.mk 0 (wr (c0.Rate-1)))),(Gs_nI_spanG.mk c0.Offset (Gconf_span.mk 0 30000)),(Gs_nI_spanG.mk c0.Slot (Gconf_span.mk 1 30000)),(Gs_nI_spanG.mk c0.Mod (Gconf_span.mk 2 250)),(Gs_nI_spanG.mk c0.Fresh (Gconf_span.mk 1 100))]:Int) 0).bind fun r2=>
 Sum.elim
  (fun r3=>
    some r3)
  (fun r4=>
    some true)
  r2
instance conf_numbers_sim (c0:GConf):HE bav (conf_numbers c0) 124 [GConf.av c0]:=⟨by
 unfold conf_numbers
 refine sv fun S hS hw hw8 R hR=> ?_
 simp only[hw]
 refine au ?_
 refine Sim.kl hS (ys:=List.map Gs_nI_spanG.av [(Gs_nI_spanG.mk c0.Period (Gconf_span.mk (S.wr ((S.wr ((S.wr (6*(S.wr (c0.F+1))))*c0.D))+1)) 400)),(Gs_nI_spanG.mk c0.Rate (Gconf_span.mk 1 64)),(Gs_nI_spanG.mk c0.Drift (Gconf_span.mk 0 (S.wr (c0.Rate-1)))),(Gs_nI_spanG.mk c0.Offset (Gconf_span.mk 0 30000)),(Gs_nI_spanG.mk c0.Slot (Gconf_span.mk 1 30000)),(Gs_nI_spanG.mk c0.Mod (Gconf_span.mk 2 250)),(Gs_nI_spanG.mk c0.Fresh (Gconf_span.mk 1 100))]) rfl ?_
 exact fin⟩
noncomputable def conf_table_0_step (c2:GConf)(x0:List Int)(x2:Int)(slots:Gconf_span)(x3:Int)(owns:Ar13 Int):Option ((Int×(Ar13 Int))⊕((Bool×(Ar13 Int))⊕((Ar13 Int)))):=
 if x3<x2 then
  (idx? x0 x3).bind fun z0=>
  if z0<0 then
   some (.inr (.inl (false,owns)))
  else
   if c2.N≤z0 then
    some (.inr (.inl (false,owns)))
   else
    if 0≤z0∧z0<(13:Nat)then
     (Ar13.get? (Ar13.mk owns.a0 owns.a1 owns.a2 owns.a3 owns.a4 owns.a5 owns.a6 owns.a7 owns.a8 owns.a9 owns.a10 owns.a11 owns.a12) (Int.toNat z0)).bind fun z2=>
     if 0≤z0∧z0<(13:Nat)then
      (Ar13.set? owns (Int.toNat z0) (wr (z2+1))).bind fun y0=>
      some (.inl ((wr (x3+1)),y0))
     else none
    else none
 else
  some (.inr (.inr owns))
noncomputable def conf_table_0 (c2:GConf)(x0:List Int)(x2:Int)(slots:Gconf_span)(x3:Int)(owns:Ar13 Int):Option ((Bool×(Ar13 Int))⊕((Ar13 Int))):=
 loopO (fun s:Int×(Ar13 Int)=>conf_table_0_step c2 x0 x2 slots s.1 s.2) (x3,owns)
def conf_table_0_pre (c2:GConf)(x0:List Int)(x2:Int)(slots:Gconf_span)(v:Int×(Ar13 Int))(e:PF.St):Prop:=e=⟨[(1,.ept (GConf.cells c2) 0),(4,.ptr 104 0),(17,lav iav x0),(18,iav x2),(19,iav v.1)],[(104,⟨true,Ar13.cells iav v.2⟩),(103,⟨true,Gconf_span.cells slots⟩)]⟩
instance conf_table_0_sim (c2:GConf)(x0:List Int)(x2:Int)(slots:Gconf_span)(x3:Int)(owns:Ar13 Int):HL (conf_table_0 c2 x0 x2 slots x3 owns) LM ([1,4,17,18,19],[103,104],[1,2,4],B125_0) (conf_table_0_pre c2 x0 x2 slots (x3,owns)) (rS (rE fun r=>(Ex.ret,⟨[(1,.ept (GConf.cells c2) 0),(2,.bool r.1),(4,.ptr 104 0)],[(104,⟨true,Ar13.cells iav r.2⟩),(103,⟨true,Gconf_span.cells slots⟩)]⟩)) (rE fun r=>((.exit 0),⟨[(1,.ept (GConf.cells c2) 0),(2,.undef),(4,.ptr 104 0)],[(104,⟨true,Ar13.cells iav r⟩),(103,⟨true,Gconf_span.cells slots⟩)]⟩))):=by
 refine lv (conf_table_0_pre c2 x0 x2 slots) _ fun S hS hw hw8 R hR=> ?_
 rintro⟨x3,owns⟩ env hp he
 cases he
 show Sim (conf_table_0_step c2 x0 x2 slots x3 owns) _ _
 unfold conf_table_0_step
 simp only[hw]
 refine au (.ite Iff.rfl (fun hc2=> ?_) fun hc2=> ?_)
 ·refine au ?_
  refine Sim.ix (by simp) (fun z0 hz0=> ?_)
  refine au ?_
  refine Sim.go (idx_map _ hz0) ?_
  refine au (.ite Iff.rfl (fun hc3=> ?_) fun hc3=> ?_)
  ·exact fin
  ·refine au (.ite Iff.rfl (fun hc4=> ?_) fun hc4=> ?_)
   ·exact fin
   ·refine au ?_
    first|refine Sim.ite Iff.rfl (fun hb=> ?_) (fun _=>Sim.no)|refine Sim.guard (fun hb=> ?_)
    refine au ?_
    refine Sim.opt (f:=iav) (by have hb':(Int.toNat z0)<13:=(by omega);generalize (Int.toNat z0)=j at hb' ⊢;rcases j with _|_|_|_|_|_|_|_|_|_|_|_|_|j<;>first|rfl|exact absurd hb' (by omega)) (fun z2 _=> ?_)
    refine au ?_
    first|refine Sim.ite Iff.rfl (fun hb2=> ?_) (fun _=>Sim.no)|refine Sim.guard (fun hb2=> ?_)
    refine au ?_
    refine Sim.opt (f:=fun y0=>[iav y0.a0,iav y0.a1,iav y0.a2,iav y0.a3,iav y0.a4,iav y0.a5,iav y0.a6,iav y0.a7,iav y0.a8,iav y0.a9,iav y0.a10,iav y0.a11,iav y0.a12]) (by have hb':(Int.toNat z0)<13:=(by omega);generalize (Int.toNat z0)=j at hb' ⊢;rcases j with _|_|_|_|_|_|_|_|_|_|_|_|_|j<;>first|rfl|exact absurd hb' (by omega)) (fun y0 _=> ?_)
    exact fin
 ·exact fin
noncomputable def conf_table_1_step (len:Nat)(x4:Int)(owns2:Ar13 Int)(slots2:Gconf_span)(x5:Int):Option ((Int)⊕((Bool)⊕(Unit))):=
 if x5<x4 then
  if 0≤x5∧x5<((len:Nat):Int)then
   (Ar13.get? (Ar13.mk owns2.a0 owns2.a1 owns2.a2 owns2.a3 owns2.a4 owns2.a5 owns2.a6 owns2.a7 owns2.a8 owns2.a9 owns2.a10 owns2.a11 owns2.a12) (Int.toNat x5)).bind fun z3=>
   if z3=0 then
    some (.inr (.inl false))
   else
    some (.inl (wr (x5+1)))
  else none
 else
  some (.inr (.inr ()))
noncomputable def conf_table_1 (len:Nat)(x4:Int)(owns2:Ar13 Int)(slots2:Gconf_span)(x5:Int):Option ((Bool)⊕(Unit)):=
 loopO (fun s:Int=>conf_table_1_step len x4 owns2 slots2 s) x5
def conf_table_1_pre (len:Nat)(x4:Int)(owns2:Ar13 Int)(slots2:Gconf_span)(v:Int)(e:PF.St):Prop:=e=⟨[(39,.arr 104 0 len 1 false),(40,iav x4),(41,iav v)],[(104,⟨true,Ar13.cells iav owns2⟩),(103,⟨true,Gconf_span.cells slots2⟩)]⟩
instance conf_table_1_sim (len:Nat)(x4:Int)(owns2:Ar13 Int)(slots2:Gconf_span)(x5:Int):HL (conf_table_1 len x4 owns2 slots2 x5) LM ([39,40,41],[103,104],[2],B125_1) (conf_table_1_pre len x4 owns2 slots2 x5) (rS (rE fun r=>(Ex.ret,⟨[(2,.bool r)],[(104,⟨true,Ar13.cells iav owns2⟩),(103,⟨true,Gconf_span.cells slots2⟩)]⟩)) (rE fun r=>((.exit 2),⟨[(2,.undef)],[(104,⟨true,Ar13.cells iav owns2⟩),(103,⟨true,Gconf_span.cells slots2⟩)]⟩))):=by
 refine lv (conf_table_1_pre len x4 owns2 slots2) _ fun S hS hw hw8 R hR=> ?_
 rintro x5 env hp he
 cases he
 show Sim (conf_table_1_step len x4 owns2 slots2 x5) _ _
 unfold conf_table_1_step
 simp only[hw]
 refine au (.ite Iff.rfl (fun hc5=> ?_) fun hc5=> ?_)
 ·refine au ?_
  first|refine Sim.ite Iff.rfl (fun _=> ?_) (fun _=>Sim.no)|refine Sim.guard (fun _=> ?_)
  refine au ?_
  refine Sim.opt (f:=iav) (by generalize (Int.toNat x5)=j;rcases j with _|_|_|_|_|_|_|_|_|_|_|_|_|j<;>first|rfl|exact(loadC_out (by simp only[List.length_cons,List.length_nil];omega)).trans rfl|exact(storeC_none _ (by simp) _ _ (by simp only[List.length_cons,List.length_nil];omega)).trans rfl) (fun z3 _=> ?_)
  exact fin
 ·exact fin
noncomputable def conf_table (c0:GConf):Option Bool:=
 (conf_span_has (Gconf_span.mk 1 32) (List.length c0.Table:Int)).bind fun r0=>
 if(!r0)=true then
  some false
 else
  (conf_table_0 c0 c0.Table (List.length c0.Table:Int) (Gconf_span.mk 1 32) 0 (Ar13.mk 0 0 0 0 0 0 0 0 0 0 0 0 0)).bind fun r2=>
  Sum.elim
   (fun r3=>
     some r3.1)
   (fun r4=>
     if 0≤c0.N∧c0.N≤(13:Nat)then
      (conf_table_1 ((Int.toNat c0.N)-0) ((((Int.toNat c0.N)-0):Nat):Int) r4 (Gconf_span.mk 1 32) 0).bind fun r5=>
      Sum.elim
       (fun r6=>
         some r6)
       (fun r7=>
         some true)
       r5
     else none)
   r2
instance conf_table_sim (c0:GConf):HE bav (conf_table c0) 125 [GConf.av c0]:=⟨by unfold conf_table;exact sa⟩
noncomputable def conf_Plain (c0:GConf):Option Int:=
 (conf_nodes c0).bind fun r0=>
 if(!r0)=true then
  some 7
 else
  (conf_span_has (Gconf_span.mk 1 4) c0.D).bind fun r2=>
  if(!r2)=true then
   some 10
  else
   (conf_numbers c0).bind fun r3=>
   if(!r3)=true then
    some 8
   else
    (conf_table c0).bind fun r4=>
    if(!r4)=true then
     some 11
    else
     some 0
instance conf_Plain_sim (c0:GConf):HE iav (conf_Plain c0) 66 [GConf.av c0]:=⟨by unfold conf_Plain;exact sa⟩
noncomputable def bound_of (c0:GConf):Option (Gbound_plain×Bool):=
 (conf_Plain c0).bind fun r0=>
 some ((Gbound_plain.mk c0),(decide (r0=0)))
instance bound_of_sim (c0:GConf):HS (bound_of c0) (LM.call 120 [GConf.av c0] []) fun r q=>q=(.tup [Gbound_plain.av r.1,.bool r.2],[]):=⟨by unfold bound_of;exact sa⟩
noncomputable def bound_plain_begin (p0:Gbound_plain)(slot:Int):Option Int:=
 some (wr (p0.Conf.Offset+(wr (slot*p0.Conf.Slot))))
instance bound_plain_begin_sim (p0:Gbound_plain)(slot:Int):HE iav (bound_plain_begin p0 slot) 238 [Gbound_plain.av p0,iav slot]:=⟨by unfold bound_plain_begin;exact sa⟩
noncomputable def bound_plain_middle (p0:Gbound_plain)(slot:Int):Option Int:=
 (bound_plain_begin p0 slot).bind fun r0=>
 some (wr (r0+(wr (Int.tdiv p0.Conf.Slot 2))))
instance bound_plain_middle_sim (p0:Gbound_plain)(slot:Int):HE iav (bound_plain_middle p0 slot) 246 [Gbound_plain.av p0,iav slot]:=⟨by unfold bound_plain_middle;exact sa⟩
noncomputable def bound_plain_last (p0:Gbound_plain):Option Int:=
 (bound_plain_middle p0 (wr ((List.length p0.Conf.Table:Int)-1))).bind fun r0=>
 some r0
instance bound_plain_last_sim (p0:Gbound_plain):HE iav (bound_plain_last p0) 224 [Gbound_plain.av p0]:=⟨by unfold bound_plain_last;exact sa⟩
noncomputable def bound_plain_slowest (p0:Gbound_plain):Option Int:=
 some (wr (p0.Conf.Rate-p0.Conf.Drift))
instance bound_plain_slowest_sim (p0:Gbound_plain):HE iav (bound_plain_slowest p0) 225 [Gbound_plain.av p0]:=⟨by unfold bound_plain_slowest;exact sa⟩
noncomputable def bound_plain_guard (p0:Gbound_plain):Option Int:=
 (bound_plain_last p0).bind fun r0=>
 (bound_plain_slowest p0).bind fun r2=>
 (bound_plain_slowest p0).bind fun r3=>
 if r3=0 then none else
 some (wr ((wr ((wr (Int.tdiv (wr ((wr ((wr ((wr (2*p0.Conf.Drift))*r0))+r2))-1)) r3))+p0.Conf.Rate))+(wr ((wr (p0.Conf.D+1))*p0.Conf.Drift))))
instance bound_plain_guard_sim (p0:Gbound_plain):HE iav (bound_plain_guard p0) 181 [Gbound_plain.av p0]:=⟨by unfold bound_plain_guard;exact sa⟩
noncomputable def bound_sound_parts (s0:Gbound_sound):Option Bool:=
 some (decide ((wr (2*s0.f_wide))<s0.f_plain.Conf.Slot))
instance bound_sound_parts_sim (s0:Gbound_sound):HE bav (bound_sound_parts s0) 182 [Gbound_sound.av s0]:=⟨by unfold bound_sound_parts;exact sa⟩
noncomputable def bound_sound_ends (s0:Gbound_sound):Option Bool:=
 (bound_plain_last s0.f_plain).bind fun r0=>
 (bound_plain_slowest s0.f_plain).bind fun r2=>
 some (decide ((wr ((wr (r0+(wr (s0.f_plain.Conf.D*s0.f_plain.Conf.Rate))))+s0.f_wide))≤(wr ((wr (s0.f_plain.Conf.Period-1))*r2))))
instance bound_sound_ends_sim (s0:Gbound_sound):HE bav (bound_sound_ends s0) 183 [Gbound_sound.av s0]:=⟨by unfold bound_sound_ends;exact sa⟩
noncomputable def bound_plain_fastest (p0:Gbound_plain):Option Int:=
 some (wr (p0.Conf.Rate+p0.Conf.Drift))
instance bound_plain_fastest_sim (p0:Gbound_plain):HE iav (bound_plain_fastest p0) 226 [Gbound_plain.av p0]:=⟨by unfold bound_plain_fastest;exact sa⟩
noncomputable def bound_sound_turns (s0:Gbound_sound):Option Bool:=
 (bound_plain_fastest s0.f_plain).bind fun r0=>
 some (decide ((wr (s0.f_plain.Conf.Period*r0))<32768))
instance bound_sound_turns_sim (s0:Gbound_sound):HE bav (bound_sound_turns s0) 184 [Gbound_sound.av s0]:=⟨by unfold bound_sound_turns;exact sa⟩
noncomputable def bound_Right (c0:GConf):Option Int:=
 (bound_of c0).bind fun r0=>
 if(!r0.2)=true then
  (conf_Plain c0).bind fun r2=>
  some r2
 else
  (bound_plain_guard r0.1).bind fun r3=>
  (bound_sound_parts (Gbound_sound.mk r0.1 r3)).bind fun r4=>
  if(!r4)=true then
   some 8
  else
   (bound_sound_ends (Gbound_sound.mk r0.1 r3)).bind fun r5=>
   if(!r5)=true then
    some 8
   else
    (bound_sound_turns (Gbound_sound.mk r0.1 r3)).bind fun r6=>
    if(!r6)=true then
     some 8
    else
     some 0
instance bound_Right_sim (c0:GConf):HE iav (bound_Right c0) 114 [GConf.av c0]:=⟨by unfold bound_Right;exact sa⟩
noncomputable def num_Clamp (n0:Int)(low:Int)(high:Int):Option Int:=
 if n0<low then
  some low
 else
  if high<low then
   some low
  else
   if high<n0 then
    some high
   else
    some n0
instance num_Clamp_sim (n0:Int)(low:Int)(high:Int):HE iav (num_Clamp n0 low high) 178 [iav n0,iav low,iav high]:=⟨by unfold num_Clamp;exact sa⟩
noncomputable def script_nodes (c0:GConf):Option Int:=
 (num_Clamp c0.N 0 13).bind fun r0=>
 some r0
instance script_nodes_sim (c0:GConf):HE iav (script_nodes c0) 110 [GConf.av c0]:=⟨by unfold script_nodes;exact sa⟩
noncomputable def script_is (c0:GConf)(n0:Int):Option Bool:=
 if 0≤n0 then
  (script_nodes c0).bind fun r0=>
  some (decide (n0<r0))
 else
  some false
instance script_is_sim (c0:GConf)(n0:Int):HE bav (script_is c0 n0) 95 [GConf.av c0,iav n0]:=⟨by unfold script_is;exact sa⟩
noncomputable def slices_Index_int_int_0_step (s2:List Int)(v2:Int)(x0:Int)(x2:Int):Option ((Int)⊕((Int)⊕(Unit))):=
 if x2<x0 then
  (idx? s2 x2).bind fun z0=>
  if v2=z0 then
   some (.inr (.inl x2))
  else
   some (.inl (wr (x2+1)))
 else
  some (.inr (.inr ()))
noncomputable def slices_Index_int_int_0 (s2:List Int)(v2:Int)(x0:Int)(x2:Int):Option ((Int)⊕(Unit)):=
 loopO (fun s:Int=>slices_Index_int_int_0_step s2 v2 x0 s) x2
def slices_Index_int_int_0_pre (s2:List Int)(v2:Int)(x0:Int)(v:Int)(e:PF.St):Prop:=e=⟨[(0,lav iav s2),(1,iav v2),(7,iav x0),(8,iav v)],[]⟩
instance slices_Index_int_int_0_sim (s2:List Int)(v2:Int)(x0:Int)(x2:Int):HL (slices_Index_int_int_0 s2 v2 x0 x2) LM ([0,1,7,8],[],[4],B222_0) (slices_Index_int_int_0_pre s2 v2 x0 x2) (rS (rE fun r=>(Ex.ret,⟨[(4,iav r)],[]⟩)) (rE fun r=>((.exit 0),⟨[(4,.undef)],[]⟩))):=by unfold slices_Index_int_int_0 slices_Index_int_int_0_step;exact lf
noncomputable def slices_Index_int_int (s0:List Int)(v0:Int):Option Int:=
 (slices_Index_int_int_0 s0 v0 (List.length s0:Int) 0).bind fun r0=>
 Sum.elim
  (fun r2=>
    some r2)
  (fun r3=>
    some (-1))
  r0
instance slices_Index_int_int_sim (s0:List Int)(v0:Int):HE iav (slices_Index_int_int s0 v0) 222 [lav iav s0,iav v0]:=⟨by unfold slices_Index_int_int;exact sa⟩
noncomputable def slices_Contains_int_int (s0:List Int)(v0:Int):Option Bool:=
 (slices_Index_int_int s0 v0).bind fun r0=>
 some (decide (0≤r0))
instance slices_Contains_int_int_sim (s0:List Int)(v0:Int):HE bav (slices_Contains_int_int s0 v0) 179 [lav iav s0,iav v0]:=⟨by unfold slices_Contains_int_int;exact sa⟩
noncomputable def script_faulty_0_step (s2:GScript)(x0:List Int)(x2:Int)(x3:Int):Option ((Int)⊕((Bool)⊕(Unit))):=
 if x3<x2 then
  (idx? x0 x3).bind fun z0=>
  (script_is s2.Conf z0).bind fun r0=>
  if(!r0)=true then
   some (.inr (.inl false))
  else
   if 0≤x3∧x3≤((List.length s2.Faulty):Nat)then
    (slices_Contains_int_int (List.take (Int.toNat x3) s2.Faulty) z0).bind fun r2=>
    if r2=true then
     some (.inr (.inl false))
    else
     some (.inl (wr (x3+1)))
   else none
 else
  some (.inr (.inr ()))
noncomputable def script_faulty_0 (s2:GScript)(x0:List Int)(x2:Int)(x3:Int):Option ((Bool)⊕(Unit)):=
 loopO (fun s:Int=>script_faulty_0_step s2 x0 x2 s) x3
def script_faulty_0_pre (s2:GScript)(x0:List Int)(x2:Int)(v:Int)(e:PF.St):Prop:=e=⟨[(1,.ept (GScript.cells s2) 0),(6,lav iav x0),(7,iav x2),(8,iav v)],[]⟩
instance script_faulty_0_sim (s2:GScript)(x0:List Int)(x2:Int)(x3:Int):HL (script_faulty_0 s2 x0 x2 x3) LM ([1,6,7,8],[],[2],B115_0) (script_faulty_0_pre s2 x0 x2 x3) (rS (rE fun r=>(Ex.ret,⟨[(2,.bool r)],[]⟩)) (rE fun r=>((.exit 0),⟨[(2,.undef)],[]⟩))):=by
 refine lv (script_faulty_0_pre s2 x0 x2) _ fun S hS hw hw8 R hR=> ?_
 rintro x3 env hp he
 cases he
 show Sim (script_faulty_0_step s2 x0 x2 x3) _ _
 unfold script_faulty_0_step
 simp only[hw]
 refine au (.ite Iff.rfl (fun hc=> ?_) fun hc=> ?_)
 ·refine au ?_
  refine Sim.ix (by simp) (fun z0 hz0=> ?_)
  refine au ?_
  refine Sim.go (idx_map _ hz0) ?_
  refine au (.hc hR ?_)
  rintro r0 q rfl
  refine au (.iteB (fun hc2=> ?_) fun hc2=> ?_)
  ·exact fin
  ·refine au ?_
   first|(refine Sim.goB (headE_map (by intro _;rfl) _) ?_)|skip
   refine au ?_
   refine Sim.kn hS (m:=(List.length s2.Faulty)) (by simp) ?_
   refine au ?_
   first|refine Sim.ite Iff.rfl (fun _=> ?_) (fun _=>Sim.no)|refine Sim.guard (fun _=> ?_)
   refine au ?_
   refine Sim.kl hS (ys:=List.map iav (List.take (Int.toNat x3) s2.Faulty)) (by simp only[PF.cut,List.map_drop,List.map_take]) ?_
   exact fin
 ·exact fin
noncomputable def script_faulty (s0:GScript):Option Bool:=
 (script_faulty_0 s0 s0.Faulty (List.length s0.Faulty:Int) 0).bind fun r3=>
 Sum.elim
  (fun r4=>
    some r4)
  (fun r5=>
    some true)
  r3
instance script_faulty_sim (s0:GScript):HE bav (script_faulty s0) 115 [GScript.av s0]:=⟨by unfold script_faulty;exact sa⟩
noncomputable def script_Right_1 (i0:List UInt8):Option Bool:=
 some (decide ((List.length i0:Int)≤8000))
instance script_Right_1_sim (i0:List UInt8):HE bav (script_Right_1 i0) 117 [.str i0]:=⟨by unfold script_Right_1;exact sa⟩
noncomputable def script_tick_1 (s0:GSend):Option Bool:=
 if 0≤s0.Delay then
  some (decide (s0.Delay≤65535))
 else
  some false
instance script_tick_1_sim (s0:GSend):HE bav (script_tick_1 s0) 185 [GSend.av s0]:=⟨by unfold script_tick_1;exact sa⟩
noncomputable def script_numbers_1 (n0:Int):Option Bool:=
 if 0≤n0 then
  some (decide (n0≤65535))
 else
  some false
instance script_numbers_1_sim (n0:Int):HE bav (script_numbers_1 n0) 228 [iav n0]:=⟨by unfold script_numbers_1;exact sa⟩
noncomputable def script_every_int_0_step (x0:List Int)(x2:Int)(x3:Int):Option ((Int)⊕((Bool)⊕(Unit))):=
 if x3<x2 then
  (idx? x0 x3).bind fun z0=>
  (script_numbers_1 z0).bind fun r0=>
  if(!r0)=true then
   some (.inr (.inl false))
  else
   some (.inl (wr (x3+1)))
 else
  some (.inr (.inr ()))
noncomputable def script_every_int_0 (x0:List Int)(x2:Int)(x3:Int):Option ((Bool)⊕(Unit)):=
 loopO (fun s:Int=>script_every_int_0_step x0 x2 s) x3
def script_every_int_0_pre (x0:List Int)(x2:Int)(v:Int)(e:PF.St):Prop:=e=⟨[(1,.fn 228 []),(7,lav iav x0),(8,iav x2),(9,iav v)],[]⟩
instance script_every_int_0_sim (x0:List Int)(x2:Int)(x3:Int):HL (script_every_int_0 x0 x2 x3) LM ([1,7,8,9],[],[4],B227_0) (script_every_int_0_pre x0 x2 x3) (rS (rE fun r=>(Ex.ret,⟨[(4,.bool r)],[]⟩)) (rE fun r=>((.exit 0),⟨[(4,.undef)],[]⟩))):=by unfold script_every_int_0 script_every_int_0_step;exact lf
noncomputable def script_every_int (l0:List Int):Option Bool:=
 (script_every_int_0 l0 (List.length l0:Int) 0).bind fun r2=>
 Sum.elim
  (fun r3=>
    some r3)
  (fun r4=>
    some true)
  r2
instance script_every_int_sim (l0:List Int):HE bav (script_every_int l0) 227 [lav iav l0,.fn 228 []]:=⟨by unfold script_every_int;exact sa⟩
noncomputable def script_numbers (l0:List Int)(most:Int):Option Bool:=
 if(List.length l0:Int)≤most then
  (script_every_int l0).bind fun r0=>
  some r0
 else
  some false
instance script_numbers_sim (l0:List Int)(most:Int):HE bav (script_numbers l0 most) 186 [lav iav l0,iav most]:=⟨by unfold script_numbers;exact sa⟩
noncomputable def script_full (t0:GTick):Option Bool:=
 some (decide (40<(mmL true (List.length t0.Sends:Int) [(List.length t0.Bursts:Int),(List.length t0.Strays:Int),(List.length t0.Writes:Int)])))
instance script_full_sim (t0:GTick):HE bav (script_full t0) 188 [GTick.av t0]:=⟨by unfold script_full;exact sa⟩
noncomputable def script_named_1 (s0:GSend)(o0:GConf):Option (Bool×GConf):=
 (script_is o0 s0.From).bind fun r0=>
 if r0=true then
  (script_is o0 s0.To).bind fun r2=>
  some (r2,o0)
 else
  some (false,o0)
instance script_named_1_sim (s0:GSend)(o0:GConf):HS (script_named_1 s0 o0) (LM.call 229 [GSend.av s0,.ptr 0 0] [⟨true,GConf.cells o0⟩]) fun r q=>q=(.bool r.1,[⟨true,GConf.cells r.2⟩]):=⟨by unfold script_named_1;exact sa⟩
noncomputable def script_every_api_Send_0_step (x0:List GSend)(x2:Int)(x3:Int)(o2:GConf):Option ((Int×GConf)⊕((Bool×GConf)⊕(GConf))):=
 if x3<x2 then
  (idx? x0 x3).bind fun z0=>
  (script_named_1 z0 o2).bind fun r0=>
  if(!r0.1)=true then
   some (.inr (.inl (false,r0.2)))
  else
   some (.inl ((wr (x3+1)),r0.2))
 else
  some (.inr (.inr o2))
noncomputable def script_every_api_Send_0 (x0:List GSend)(x2:Int)(x3:Int)(o2:GConf):Option ((Bool×GConf)⊕(GConf)):=
 loopO (fun s:Int×GConf=>script_every_api_Send_0_step x0 x2 s.1 s.2) (x3,o2)
def script_every_api_Send_0_pre (x0:List GSend)(x2:Int)(v:Int×GConf)(e:PF.St):Prop:=e=⟨[(1,.fn 229 [.ptr 0 0]),(7,lav GSend.av x0),(8,iav x2),(9,iav v.1)],[(0,⟨true,GConf.cells v.2⟩)]⟩
instance script_every_api_Send_0_sim (x0:List GSend)(x2:Int)(x3:Int)(o2:GConf):HL (script_every_api_Send_0 x0 x2 x3 o2) LM ([1,7,8,9],[],[4],B187_0) (script_every_api_Send_0_pre x0 x2 (x3,o2)) (rS (rE fun r=>(Ex.ret,⟨[(4,.bool r.1)],[(0,⟨true,GConf.cells r.2⟩)]⟩)) (rE fun r=>((.exit 0),⟨[(4,.undef)],[(0,⟨true,GConf.cells r⟩)]⟩))):=by unfold script_every_api_Send_0 script_every_api_Send_0_step;exact lf
noncomputable def script_every_api_Send (l0:List GSend)(o0:GConf):Option (Bool×GConf):=
 (script_every_api_Send_0 l0 (List.length l0:Int) 0 o0).bind fun r2=>
 Sum.elim
  (fun r3=>
    some (r3.1,r3.2))
  (fun r4=>
    some (true,r4))
  r2
instance script_every_api_Send_sim (l0:List GSend)(o0:GConf):HS (script_every_api_Send l0 o0) (LM.call 187 [lav GSend.av l0,.fn 229 [.ptr 0 0]] [⟨true,GConf.cells o0⟩]) fun r q=>q=(.bool r.1,[⟨true,GConf.cells r.2⟩]):=⟨by unfold script_every_api_Send;exact sa⟩
noncomputable def script_named_2 (b0:GBurst)(o0:GConf):Option (Bool×GConf):=
 (script_is o0 b0.Node).bind fun r0=>
 some (r0,o0)
instance script_named_2_sim (b0:GBurst)(o0:GConf):HS (script_named_2 b0 o0) (LM.call 231 [GBurst.av b0,.ptr 0 0] [⟨true,GConf.cells o0⟩]) fun r q=>q=(.bool r.1,[⟨true,GConf.cells r.2⟩]):=⟨by unfold script_named_2;exact sa⟩
noncomputable def script_every_api_Burst_0_step (x0:List GBurst)(x2:Int)(x3:Int)(o2:GConf):Option ((Int×GConf)⊕((Bool×GConf)⊕(GConf))):=
 if x3<x2 then
  (idx? x0 x3).bind fun z0=>
  (script_named_2 z0 o2).bind fun r0=>
  if(!r0.1)=true then
   some (.inr (.inl (false,r0.2)))
  else
   some (.inl ((wr (x3+1)),r0.2))
 else
  some (.inr (.inr o2))
noncomputable def script_every_api_Burst_0 (x0:List GBurst)(x2:Int)(x3:Int)(o2:GConf):Option ((Bool×GConf)⊕(GConf)):=
 loopO (fun s:Int×GConf=>script_every_api_Burst_0_step x0 x2 s.1 s.2) (x3,o2)
def script_every_api_Burst_0_pre (x0:List GBurst)(x2:Int)(v:Int×GConf)(e:PF.St):Prop:=e=⟨[(1,.fn 231 [.ptr 0 0]),(7,lav GBurst.av x0),(8,iav x2),(9,iav v.1)],[(0,⟨true,GConf.cells v.2⟩)]⟩
instance script_every_api_Burst_0_sim (x0:List GBurst)(x2:Int)(x3:Int)(o2:GConf):HL (script_every_api_Burst_0 x0 x2 x3 o2) LM ([1,7,8,9],[],[4],B230_0) (script_every_api_Burst_0_pre x0 x2 (x3,o2)) (rS (rE fun r=>(Ex.ret,⟨[(4,.bool r.1)],[(0,⟨true,GConf.cells r.2⟩)]⟩)) (rE fun r=>((.exit 0),⟨[(4,.undef)],[(0,⟨true,GConf.cells r⟩)]⟩))):=by unfold script_every_api_Burst_0 script_every_api_Burst_0_step;exact lf
noncomputable def script_every_api_Burst (l0:List GBurst)(o0:GConf):Option (Bool×GConf):=
 (script_every_api_Burst_0 l0 (List.length l0:Int) 0 o0).bind fun r2=>
 Sum.elim
  (fun r3=>
    some (r3.1,r3.2))
  (fun r4=>
    some (true,r4))
  r2
instance script_every_api_Burst_sim (l0:List GBurst)(o0:GConf):HS (script_every_api_Burst l0 o0) (LM.call 230 [lav GBurst.av l0,.fn 231 [.ptr 0 0]] [⟨true,GConf.cells o0⟩]) fun r q=>q=(.bool r.1,[⟨true,GConf.cells r.2⟩]):=⟨by unfold script_every_api_Burst;exact sa⟩
noncomputable def script_named_3 (w0:GWrite)(o0:GConf):Option (Bool×GConf):=
 (script_is o0 w0.Node).bind fun r0=>
 some (r0,o0)
instance script_named_3_sim (w0:GWrite)(o0:GConf):HS (script_named_3 w0 o0) (LM.call 232 [GWrite.av w0,.ptr 0 0] [⟨true,GConf.cells o0⟩]) fun r q=>q=(.bool r.1,[⟨true,GConf.cells r.2⟩]):=⟨by unfold script_named_3;exact sa⟩
noncomputable def script_every_api_Write_0_step (x0:List GWrite)(x2:Int)(x3:Int)(o2:GConf):Option ((Int×GConf)⊕((Bool×GConf)⊕(GConf))):=
 if x3<x2 then
  (idx? x0 x3).bind fun z0=>
  (script_named_3 z0 o2).bind fun r0=>
  if(!r0.1)=true then
   some (.inr (.inl (false,r0.2)))
  else
   some (.inl ((wr (x3+1)),r0.2))
 else
  some (.inr (.inr o2))
noncomputable def script_every_api_Write_0 (x0:List GWrite)(x2:Int)(x3:Int)(o2:GConf):Option ((Bool×GConf)⊕(GConf)):=
 loopO (fun s:Int×GConf=>script_every_api_Write_0_step x0 x2 s.1 s.2) (x3,o2)
def script_every_api_Write_0_pre (x0:List GWrite)(x2:Int)(v:Int×GConf)(e:PF.St):Prop:=e=⟨[(1,.fn 232 [.ptr 0 0]),(7,lav GWrite.av x0),(8,iav x2),(9,iav v.1)],[(0,⟨true,GConf.cells v.2⟩)]⟩
instance script_every_api_Write_0_sim (x0:List GWrite)(x2:Int)(x3:Int)(o2:GConf):HL (script_every_api_Write_0 x0 x2 x3 o2) LM ([1,7,8,9],[],[4],B191_0) (script_every_api_Write_0_pre x0 x2 (x3,o2)) (rS (rE fun r=>(Ex.ret,⟨[(4,.bool r.1)],[(0,⟨true,GConf.cells r.2⟩)]⟩)) (rE fun r=>((.exit 0),⟨[(4,.undef)],[(0,⟨true,GConf.cells r⟩)]⟩))):=by unfold script_every_api_Write_0 script_every_api_Write_0_step;exact lf
noncomputable def script_every_api_Write (l0:List GWrite)(o0:GConf):Option (Bool×GConf):=
 (script_every_api_Write_0 l0 (List.length l0:Int) 0 o0).bind fun r2=>
 Sum.elim
  (fun r3=>
    some (r3.1,r3.2))
  (fun r4=>
    some (true,r4))
  r2
instance script_every_api_Write_sim (l0:List GWrite)(o0:GConf):HS (script_every_api_Write l0 o0) (LM.call 191 [lav GWrite.av l0,.fn 232 [.ptr 0 0]] [⟨true,GConf.cells o0⟩]) fun r q=>q=(.bool r.1,[⟨true,GConf.cells r.2⟩]):=⟨by unfold script_every_api_Write;exact sa⟩
noncomputable def script_named (c0:GConf)(t0:GTick):Option Bool:=
 (script_every_api_Send t0.Sends c0).bind fun r0=>
 if r0.1=true then
  (script_every_api_Send t0.Strays r0.2).bind fun r2=>
  if r2.1=true then
   (script_every_api_Burst t0.Bursts r2.2).bind fun r3=>
   if r3.1=true then
    (script_every_api_Write t0.Writes r3.2).bind fun r4=>
    some r4.1
   else
    some false
  else
   some false
 else
  some false
instance script_named_sim (c0:GConf)(t0:GTick):HE bav (script_named c0 t0) 189 [GConf.av c0,GTick.av t0]:=⟨by unfold script_named;exact sa⟩
noncomputable def script_short_1 (s0:GSend):Option Bool:=
 some (decide ((List.length s0.Bytes:Int)≤40))
instance script_short_1_sim (s0:GSend):HE bav (script_short_1 s0) 233 [GSend.av s0]:=⟨by unfold script_short_1;exact sa⟩
noncomputable def script_short_2 (b0:GBurst):Option Bool:=
 some (decide ((List.length b0.Image:Int)≤8000))
instance script_short_2_sim (b0:GBurst):HE bav (script_short_2 b0) 234 [GBurst.av b0]:=⟨by unfold script_short_2;exact sa⟩
noncomputable def script_every_api_Send_v1_0_step (x0:List GSend)(x2:Int)(x3:Int):Option ((Int)⊕((Bool)⊕(Unit))):=
 if x3<x2 then
  (idx? x0 x3).bind fun z0=>
  (script_short_1 z0).bind fun r0=>
  if(!r0)=true then
   some (.inr (.inl false))
  else
   some (.inl (wr (x3+1)))
 else
  some (.inr (.inr ()))
noncomputable def script_every_api_Send_v1_0 (x0:List GSend)(x2:Int)(x3:Int):Option ((Bool)⊕(Unit)):=
 loopO (fun s:Int=>script_every_api_Send_v1_0_step x0 x2 s) x3
def script_every_api_Send_v1_0_pre (x0:List GSend)(x2:Int)(v:Int)(e:PF.St):Prop:=e=⟨[(1,.fn 233 []),(7,lav GSend.av x0),(8,iav x2),(9,iav v)],[]⟩
instance script_every_api_Send_v1_0_sim (x0:List GSend)(x2:Int)(x3:Int):HL (script_every_api_Send_v1_0 x0 x2 x3) LM ([1,7,8,9],[],[4],B187_0) (script_every_api_Send_v1_0_pre x0 x2 x3) (rS (rE fun r=>(Ex.ret,⟨[(4,.bool r)],[]⟩)) (rE fun r=>((.exit 0),⟨[(4,.undef)],[]⟩))):=by unfold script_every_api_Send_v1_0 script_every_api_Send_v1_0_step;exact lf
noncomputable def script_every_api_Send_v1 (l0:List GSend):Option Bool:=
 (script_every_api_Send_v1_0 l0 (List.length l0:Int) 0).bind fun r2=>
 Sum.elim
  (fun r3=>
    some r3)
  (fun r4=>
    some true)
  r2
instance script_every_api_Send_v1_sim (l0:List GSend):HE bav (script_every_api_Send_v1 l0) 187 [lav GSend.av l0,.fn 233 []]:=⟨by unfold script_every_api_Send_v1;exact sa⟩
noncomputable def script_every_api_Burst_v1_0_step (x0:List GBurst)(x2:Int)(x3:Int):Option ((Int)⊕((Bool)⊕(Unit))):=
 if x3<x2 then
  (idx? x0 x3).bind fun z0=>
  (script_short_2 z0).bind fun r0=>
  if(!r0)=true then
   some (.inr (.inl false))
  else
   some (.inl (wr (x3+1)))
 else
  some (.inr (.inr ()))
noncomputable def script_every_api_Burst_v1_0 (x0:List GBurst)(x2:Int)(x3:Int):Option ((Bool)⊕(Unit)):=
 loopO (fun s:Int=>script_every_api_Burst_v1_0_step x0 x2 s) x3
def script_every_api_Burst_v1_0_pre (x0:List GBurst)(x2:Int)(v:Int)(e:PF.St):Prop:=e=⟨[(1,.fn 234 []),(7,lav GBurst.av x0),(8,iav x2),(9,iav v)],[]⟩
instance script_every_api_Burst_v1_0_sim (x0:List GBurst)(x2:Int)(x3:Int):HL (script_every_api_Burst_v1_0 x0 x2 x3) LM ([1,7,8,9],[],[4],B230_0) (script_every_api_Burst_v1_0_pre x0 x2 x3) (rS (rE fun r=>(Ex.ret,⟨[(4,.bool r)],[]⟩)) (rE fun r=>((.exit 0),⟨[(4,.undef)],[]⟩))):=by unfold script_every_api_Burst_v1_0 script_every_api_Burst_v1_0_step;exact lf
noncomputable def script_every_api_Burst_v1 (l0:List GBurst):Option Bool:=
 (script_every_api_Burst_v1_0 l0 (List.length l0:Int) 0).bind fun r2=>
 Sum.elim
  (fun r3=>
    some r3)
  (fun r4=>
    some true)
  r2
instance script_every_api_Burst_v1_sim (l0:List GBurst):HE bav (script_every_api_Burst_v1 l0) 230 [lav GBurst.av l0,.fn 234 []]:=⟨by unfold script_every_api_Burst_v1;exact sa⟩
noncomputable def script_short (t0:GTick):Option Bool:=
 (script_every_api_Send_v1 t0.Sends).bind fun r0=>
 if r0=true then
  (script_every_api_Send_v1 t0.Strays).bind fun r2=>
  if r2=true then
   (script_every_api_Burst_v1 t0.Bursts).bind fun r3=>
   some r3
  else
   some false
 else
  some false
instance script_short_sim (t0:GTick):HE bav (script_short t0) 190 [GTick.av t0]:=⟨by unfold script_short;exact sa⟩
noncomputable def script_tick_2 (w0:GWrite):Option Bool:=
 some (decide ((List.length w0.Text:Int)≤16))
instance script_tick_2_sim (w0:GWrite):HE bav (script_tick_2 w0) 192 [GWrite.av w0]:=⟨by unfold script_tick_2;exact sa⟩
noncomputable def script_every_api_Send_v2_0_step (x0:List GSend)(x2:Int)(x3:Int):Option ((Int)⊕((Bool)⊕(Unit))):=
 if x3<x2 then
  (idx? x0 x3).bind fun z0=>
  (script_tick_1 z0).bind fun r0=>
  if(!r0)=true then
   some (.inr (.inl false))
  else
   some (.inl (wr (x3+1)))
 else
  some (.inr (.inr ()))
noncomputable def script_every_api_Send_v2_0 (x0:List GSend)(x2:Int)(x3:Int):Option ((Bool)⊕(Unit)):=
 loopO (fun s:Int=>script_every_api_Send_v2_0_step x0 x2 s) x3
def script_every_api_Send_v2_0_pre (x0:List GSend)(x2:Int)(v:Int)(e:PF.St):Prop:=e=⟨[(1,.fn 185 []),(7,lav GSend.av x0),(8,iav x2),(9,iav v)],[]⟩
instance script_every_api_Send_v2_0_sim (x0:List GSend)(x2:Int)(x3:Int):HL (script_every_api_Send_v2_0 x0 x2 x3) LM ([1,7,8,9],[],[4],B187_0) (script_every_api_Send_v2_0_pre x0 x2 x3) (rS (rE fun r=>(Ex.ret,⟨[(4,.bool r)],[]⟩)) (rE fun r=>((.exit 0),⟨[(4,.undef)],[]⟩))):=by unfold script_every_api_Send_v2_0 script_every_api_Send_v2_0_step;exact lf
noncomputable def script_every_api_Send_v2 (l0:List GSend):Option Bool:=
 (script_every_api_Send_v2_0 l0 (List.length l0:Int) 0).bind fun r2=>
 Sum.elim
  (fun r3=>
    some r3)
  (fun r4=>
    some true)
  r2
instance script_every_api_Send_v2_sim (l0:List GSend):HE bav (script_every_api_Send_v2 l0) 187 [lav GSend.av l0,.fn 185 []]:=⟨by unfold script_every_api_Send_v2;exact sa⟩
noncomputable def script_every_api_Write_v1_0_step (x0:List GWrite)(x2:Int)(x3:Int):Option ((Int)⊕((Bool)⊕(Unit))):=
 if x3<x2 then
  (idx? x0 x3).bind fun z0=>
  (script_tick_2 z0).bind fun r0=>
  if(!r0)=true then
   some (.inr (.inl false))
  else
   some (.inl (wr (x3+1)))
 else
  some (.inr (.inr ()))
noncomputable def script_every_api_Write_v1_0 (x0:List GWrite)(x2:Int)(x3:Int):Option ((Bool)⊕(Unit)):=
 loopO (fun s:Int=>script_every_api_Write_v1_0_step x0 x2 s) x3
def script_every_api_Write_v1_0_pre (x0:List GWrite)(x2:Int)(v:Int)(e:PF.St):Prop:=e=⟨[(1,.fn 192 []),(7,lav GWrite.av x0),(8,iav x2),(9,iav v)],[]⟩
instance script_every_api_Write_v1_0_sim (x0:List GWrite)(x2:Int)(x3:Int):HL (script_every_api_Write_v1_0 x0 x2 x3) LM ([1,7,8,9],[],[4],B191_0) (script_every_api_Write_v1_0_pre x0 x2 x3) (rS (rE fun r=>(Ex.ret,⟨[(4,.bool r)],[]⟩)) (rE fun r=>((.exit 0),⟨[(4,.undef)],[]⟩))):=by unfold script_every_api_Write_v1_0 script_every_api_Write_v1_0_step;exact lf
noncomputable def script_every_api_Write_v1 (l0:List GWrite):Option Bool:=
 (script_every_api_Write_v1_0 l0 (List.length l0:Int) 0).bind fun r2=>
 Sum.elim
  (fun r3=>
    some r3)
  (fun r4=>
    some true)
  r2
instance script_every_api_Write_v1_sim (l0:List GWrite):HE bav (script_every_api_Write_v1 l0) 191 [lav GWrite.av l0,.fn 192 []]:=⟨by unfold script_every_api_Write_v1;exact sa⟩
noncomputable def script_tick (c0:GConf)(t0:GTick):Option Int:=
 (script_numbers t0.Units c0.N).bind fun r0=>
 if(!r0)=true then
  some 2
 else
  (script_numbers t0.Delays (wr (c0.N*c0.N))).bind fun r2=>
  if(!r2)=true then
   some 2
  else
   (script_every_api_Send_v2 t0.Sends).bind fun r3=>
   if(!r3)=true then
    some 2
   else
    (script_every_api_Send_v2 t0.Strays).bind fun r4=>
    if(!r4)=true then
     some 2
    else
     (script_full t0).bind fun r5=>
     if r5=true then
      some 9
     else
      (script_named c0 t0).bind fun r6=>
      if(!r6)=true then
       some 7
      else
       (script_short t0).bind fun r7=>
       if(!r7)=true then
        some 6
       else
        (script_every_api_Write_v1 t0.Writes).bind fun r8=>
        if(!r8)=true then
         some 15
        else
         some 0
instance script_tick_sim (c0:GConf)(t0:GTick):HE iav (script_tick c0 t0) 118 [GConf.av c0,GTick.av t0]:=⟨by unfold script_tick;exact sa⟩
noncomputable def script_every_string_0_step (x0:List (List UInt8))(x2:Int)(x3:Int):Option ((Int)⊕((Bool)⊕(Unit))):=
 if x3<x2 then
  (idx? x0 x3).bind fun z0=>
  (script_Right_1 z0).bind fun r0=>
  if(!r0)=true then
   some (.inr (.inl false))
  else
   some (.inl (wr (x3+1)))
 else
  some (.inr (.inr ()))
noncomputable def script_every_string_0 (x0:List (List UInt8))(x2:Int)(x3:Int):Option ((Bool)⊕(Unit)):=
 loopO (fun s:Int=>script_every_string_0_step x0 x2 s) x3
def script_every_string_0_pre (x0:List (List UInt8))(x2:Int)(v:Int)(e:PF.St):Prop:=e=⟨[(1,.fn 117 []),(7,lav sav x0),(8,iav x2),(9,iav v)],[]⟩
instance script_every_string_0_sim (x0:List (List UInt8))(x2:Int)(x3:Int):HL (script_every_string_0 x0 x2 x3) LM ([1,7,8,9],[],[4],B116_0) (script_every_string_0_pre x0 x2 x3) (rS (rE fun r=>(Ex.ret,⟨[(4,.bool r)],[]⟩)) (rE fun r=>((.exit 0),⟨[(4,.undef)],[]⟩))):=by unfold script_every_string_0 script_every_string_0_step;exact lf
noncomputable def script_every_string (l0:List (List UInt8)):Option Bool:=
 (script_every_string_0 l0 (List.length l0:Int) 0).bind fun r2=>
 Sum.elim
  (fun r3=>
    some r3)
  (fun r4=>
    some true)
  r2
instance script_every_string_sim (l0:List (List UInt8)):HE bav (script_every_string l0) 116 [lav sav l0,.fn 117 []]:=⟨by unfold script_every_string;exact sa⟩
noncomputable def script_Right_0_step (s2:GScript)(x0:List GTick)(x2:Int)(x3:Int):Option ((Int)⊕((Int)⊕(Unit))):=
 if x3<x2 then
  (idx? x0 x3).bind fun z0=>
  (script_tick s2.Conf z0).bind fun r4=>
  if r4≠0 then
   some (.inr (.inl r4))
  else
   some (.inl (wr (x3+1)))
 else
  some (.inr (.inr ()))
noncomputable def script_Right_0 (s2:GScript)(x0:List GTick)(x2:Int)(x3:Int):Option ((Int)⊕(Unit)):=
 loopO (fun s:Int=>script_Right_0_step s2 x0 x2 s) x3
def script_Right_0_pre (s2:GScript)(x0:List GTick)(x2:Int)(v:Int)(e:PF.St):Prop:=e=⟨[(1,.ept (GScript.cells s2) 0),(36,lav GTick.av x0),(37,iav x2),(38,iav v)],[]⟩
instance script_Right_0_sim (s2:GScript)(x0:List GTick)(x2:Int)(x3:Int):HL (script_Right_0 s2 x0 x2 x3) LM ([1,36,37,38],[],[2],B62_0) (script_Right_0_pre s2 x0 x2 x3) (rS (rE fun r=>(Ex.ret,⟨[(2,iav r)],[]⟩)) (rE fun r=>((.exit 0),⟨[(2,.undef)],[]⟩))):=by unfold script_Right_0 script_Right_0_step;exact lf
noncomputable def script_Right (s0:GScript):Option Int:=
 (bound_Right s0.Conf).bind fun r0=>
 if r0≠0 then
  some r0
 else
  (script_faulty s0).bind fun r2=>
  if(!r2)=true then
   some 7
  else
   if s0.Conf.N<(List.length s0.Images:Int)then
    some 6
   else
    if 2000<(List.length s0.Ticks:Int)then
     some 6
    else
     (script_every_string s0.Images).bind fun r3=>
     if(!r3)=true then
      some 6
     else
      (script_Right_0 s0 s0.Ticks (List.length s0.Ticks:Int) 0).bind fun r5=>
      Sum.elim
       (fun r6=>
         some r6)
       (fun r7=>
         some 0)
       r5
instance script_Right_sim (s0:GScript):HE iav (script_Right s0) 62 [GScript.av s0]:=⟨by unfold script_Right;exact sa⟩
noncomputable def script_Faulty (s0:GScript)(node:Int):Option Bool:=
 (slices_Contains_int_int s0.Faulty node).bind fun r0=>
 some r0
instance script_Faulty_sim (s0:GScript)(node:Int):HE bav (script_Faulty s0 node) 111 [GScript.av s0,iav node]:=⟨by unfold script_Faulty;exact sa⟩
noncomputable def script_Honest_0_step (s2:GScript)(x0:Int)(out:List Int)(x2:Int):Option (((List Int)×Int)⊕((List Int))):=
 if x2<x0 then
  (script_Faulty s2 x2).bind fun r2=>
  if(!r2)=true then
   if List.length out+List.length [x2]≤lenMax then
    some (.inl ((out++[x2]),(wr (x2+1))))
   else none
  else
   some (.inl (out,(wr (x2+1))))
 else
  some (.inr out)
noncomputable def script_Honest_0 (s2:GScript)(x0:Int)(out:List Int)(x2:Int):Option ((List Int)):=
 loopO (fun s:(List Int)×Int=>script_Honest_0_step s2 x0 s.1 s.2) (out,x2)
def script_Honest_0_pre (s2:GScript)(x0:Int)(v:(List Int)×Int)(e:PF.St):Prop:= ∃g0,e=⟨[(1,.ept (GScript.cells s2) 0),(3,.lst g0 (List.map iav v.1)),(7,iav x0),(8,iav v.2)],[]⟩∧Mg 1 g0
instance script_Honest_0_sim (s2:GScript)(x0:Int)(out:List Int)(x2:Int):HL (script_Honest_0 s2 x0 out x2) LM ([1,3,7,8],[],[3],B58_0) (script_Honest_0_pre s2 x0 (out,x2)) (fun r (q:Ex×PF.St)=> ∃g0',q=((.exit 0),⟨[(3,.lst g0' (List.map iav r))],[]⟩)∧Mg 1 g0'):=by
 refine lv (script_Honest_0_pre s2 x0) _ fun S hS hw hw8 R hR=> ?_
 rintro⟨out,x2⟩ env hp ⟨g0,he,hg0⟩
 cases he
 show Sim (script_Honest_0_step s2 x0 out x2) _ _
 unfold script_Honest_0_step
 simp only[hw]
 refine au (.ite Iff.rfl (fun hc=> ?_) fun hc=> ?_)
 ·refine au (.hc hR ?_)
  rintro r2 q rfl
  refine au (.iteB (fun hc2=> ?_) fun hc2=> ?_)
  ·refine au ?_
   refine Sim.kl hS (ys:=List.map iav [x2]) rfl ?_
   refine au ?_
   first|(refine Sim.goB (may_map (by intro _;rfl) hg0 _) ?_)|skip
   refine au ?_
   first|(refine Sim.goB (okE_map (by intro _;exact⟨rfl,rfl,rfl⟩) _) ?_)|skip
   refine au ?_
   first|refine Sim.ite (by simp) (fun _=> ?_) (fun _=>Sim.no)|refine Sim.guard (fun _=> ?_)
   exact fin
  ·exact fin
 ·exact fin
noncomputable def script_Honest (s0:GScript):Option ((List Int)):=
 (script_nodes s0.Conf).bind fun r0=>
 (script_Honest_0 s0 r0 ([]:List Int) 0).bind fun r3=>
 some r3
instance script_Honest_sim (s0:GScript):HE (lav iav) (script_Honest s0) 58 [GScript.av s0]:=⟨by unfold script_Honest;exact sa⟩
noncomputable def premise_run_quiet (r0:Gpremise_run)(t0:Int):Option Bool:=
 (idx? r0.Script.Ticks t0).bind fun z0=>
 if(List.length z0.Bursts:Int)=0 then
  (idx? r0.Script.Ticks t0).bind fun z2=>
  some (decide ((List.length z2.Strays:Int)=0))
 else
  some false
instance premise_run_quiet_sim (r0:Gpremise_run)(t0:Int):HE bav (premise_run_quiet r0 t0) 193 [Gpremise_run.av r0,iav t0]:=⟨by unfold premise_run_quiet;exact sa⟩
noncomputable def script_at (s0:GScript)(t0:Int):Option (GTick×Bool):=
 if t0<0 then
  some ((GTick.mk ([]:List Int) ([]:List Int) ([]:List GSend) ([]:List GBurst) ([]:List GSend) ([]:List GWrite)),false)
 else
  if(List.length s0.Ticks:Int)≤t0 then
   some ((GTick.mk ([]:List Int) ([]:List Int) ([]:List GSend) ([]:List GBurst) ([]:List GSend) ([]:List GWrite)),false)
  else
   (idx? s0.Ticks t0).bind fun z0=>
   some (z0,true)
instance script_at_sim (s0:GScript)(t0:Int):HS (script_at s0 t0) (LM.call 247 [GScript.av s0,iav t0] []) fun r q=>q=(.tup [GTick.av r.1,.bool r.2],[]):=⟨by unfold script_at;exact sa⟩
noncomputable def script_listed_int (l0:List Int)(place:Int)(usual:Int):Option Int:=
 if place<(List.length l0:Int)then
  (idx? l0 place).bind fun z0=>
  some z0
 else
  some usual
instance script_listed_int_sim (l0:List Int)(place:Int)(usual:Int):HE iav (script_listed_int l0 place usual) 248 [lav iav l0,iav place,iav usual]:=⟨by unfold script_listed_int;exact sa⟩
noncomputable def script_Units (s0:GScript)(t0:Int)(node:Int):Option Int:=
 (script_at s0 t0).bind fun r0=>
 if(!r0.2)=true then
  some 0
 else
  (script_is s0.Conf node).bind fun r2=>
  if(!r2)=true then
   some 0
  else
   (script_listed_int r0.1.Units node s0.Conf.Rate).bind fun r3=>
   some r3
instance script_Units_sim (s0:GScript)(t0:Int)(node:Int):HE iav (script_Units s0 t0 node) 235 [GScript.av s0,iav t0,iav node]:=⟨by unfold script_Units;exact sa⟩
noncomputable def premise_run_steady (r0:Gpremise_run)(t0:Int)(node:Int):Option Bool:=
 (script_Units r0.Script t0 node).bind fun r2=>
 if(wr (r0.Script.Conf.Rate-r0.Script.Conf.Drift))≤r2 then
  some (decide (r2≤(wr (r0.Script.Conf.Rate+r0.Script.Conf.Drift))))
 else
  some false
instance premise_run_steady_sim (r0:Gpremise_run)(t0:Int)(node:Int):HE bav (premise_run_steady r0 t0 node) 194 [Gpremise_run.av r0,iav t0,iav node]:=⟨by unfold premise_run_steady;exact sa⟩
noncomputable def script_Delay (s0:GScript)(t0:Int)(from0:Int)(to0:Int):Option Int:=
 (script_at s0 t0).bind fun r0=>
 if(!r0.2)=true then
  some 0
 else
  (script_is s0.Conf from0).bind fun r2=>
  if(!r2)=true then
   some 0
  else
   (script_is s0.Conf to0).bind fun r3=>
   if(!r3)=true then
    some 0
   else
    (script_nodes s0.Conf).bind fun r4=>
    (script_listed_int r0.1.Delays (wr ((wr (from0*r4))+to0)) s0.Conf.D).bind fun r5=>
    some r5
instance script_Delay_sim (s0:GScript)(t0:Int)(from0:Int)(to0:Int):HE iav (script_Delay s0 t0 from0 to0) 236 [GScript.av s0,iav t0,iav from0,iav to0]:=⟨by unfold script_Delay;exact sa⟩
noncomputable def premise_run_swift_0_step (t2:Int)(from2:Int)(r2:Gpremise_run)(x0:List Int)(x2:Int)(x3:Int):Option ((Int)⊕((Bool)⊕(Unit))):=
 if x3<x2 then
  (idx? x0 x3).bind fun z0=>
  (script_Delay r2.Script t2 from2 z0).bind fun r3=>
  if r3<1 then
   some (.inr (.inl false))
  else
   if r2.Script.Conf.D<r3 then
    some (.inr (.inl false))
   else
    some (.inl (wr (x3+1)))
 else
  some (.inr (.inr ()))
noncomputable def premise_run_swift_0 (t2:Int)(from2:Int)(r2:Gpremise_run)(x0:List Int)(x2:Int)(x3:Int):Option ((Bool)⊕(Unit)):=
 loopO (fun s:Int=>premise_run_swift_0_step t2 from2 r2 x0 x2 s) x3
def premise_run_swift_0_pre (t2:Int)(from2:Int)(r2:Gpremise_run)(x0:List Int)(x2:Int)(v:Int)(e:PF.St):Prop:=e=⟨[(1,iav t2),(2,iav from2),(4,.ept (Gpremise_run.cells r2) 0),(12,lav iav x0),(13,iav x2),(14,iav v)],[]⟩
instance premise_run_swift_0_sim (t2:Int)(from2:Int)(r2:Gpremise_run)(x0:List Int)(x2:Int)(x3:Int):HL (premise_run_swift_0 t2 from2 r2 x0 x2 x3) LM ([1,2,4,12,13,14],[],[8],B195_0) (premise_run_swift_0_pre t2 from2 r2 x0 x2 x3) (rS (rE fun r=>(Ex.ret,⟨[(8,.bool r)],[]⟩)) (rE fun r=>((.exit 0),⟨[(8,.undef)],[]⟩))):=by unfold premise_run_swift_0 premise_run_swift_0_step;exact lf
noncomputable def premise_run_swift (r0:Gpremise_run)(t0:Int)(from0:Int)(others:List Int):Option Bool:=
 (premise_run_swift_0 t0 from0 r0 others (List.length others:Int) 0).bind fun r4=>
 Sum.elim
  (fun r5=>
    some r5)
  (fun r6=>
    some true)
  r4
instance premise_run_swift_sim (r0:Gpremise_run)(t0:Int)(from0:Int)(others:List Int):HE bav (premise_run_swift r0 t0 from0 others) 195 [Gpremise_run.av r0,iav t0,iav from0,lav iav others]:=⟨by unfold premise_run_swift;exact sa⟩
noncomputable def premise_run_calm_0_step (t2:Int)(r4:Gpremise_run)(honest:List Int)(x0:List Int)(x2:Int)(x3:Int):Option ((Int)⊕((Bool)⊕(Unit))):=
 if x3<x2 then
  (idx? x0 x3).bind fun z0=>
  (premise_run_steady r4 t2 z0).bind fun r5=>
  if(!r5)=true then
   some (.inr (.inl false))
  else
   (premise_run_swift r4 t2 z0 honest).bind fun r6=>
   if(!r6)=true then
    some (.inr (.inl false))
   else
    some (.inl (wr (x3+1)))
 else
  some (.inr (.inr ()))
noncomputable def premise_run_calm_0 (t2:Int)(r4:Gpremise_run)(honest:List Int)(x0:List Int)(x2:Int)(x3:Int):Option ((Bool)⊕(Unit)):=
 loopO (fun s:Int=>premise_run_calm_0_step t2 r4 honest x0 x2 s) x3
def premise_run_calm_0_pre (t2:Int)(r4:Gpremise_run)(honest:List Int)(x0:List Int)(x2:Int)(v:Int)(e:PF.St):Prop:=e=⟨[(1,iav t2),(2,.ept (Gpremise_run.cells r4) 0),(5,lav iav honest),(15,lav iav x0),(16,iav x2),(17,iav v)],[]⟩
instance premise_run_calm_0_sim (t2:Int)(r4:Gpremise_run)(honest:List Int)(x0:List Int)(x2:Int)(x3:Int):HL (premise_run_calm_0 t2 r4 honest x0 x2 x3) LM ([1,2,5,15,16,17],[],[4],B119_0) (premise_run_calm_0_pre t2 r4 honest x0 x2 x3) (rS (rE fun r=>(Ex.ret,⟨[(4,.bool r)],[]⟩)) (rE fun r=>((.exit 0),⟨[(4,.undef)],[]⟩))):=by unfold premise_run_calm_0 premise_run_calm_0_step;exact lf
noncomputable def premise_run_calm (r0:Gpremise_run)(t0:Int):Option Bool:=
 (premise_run_quiet r0 t0).bind fun r2=>
 if(!r2)=true then
  some false
 else
  (script_Honest r0.Script).bind fun r3=>
  (premise_run_calm_0 t0 r0 r3 r3 (List.length r3:Int) 0).bind fun r7=>
  Sum.elim
   (fun r8=>
     some r8)
   (fun r9=>
     some true)
   r7
instance premise_run_calm_sim (r0:Gpremise_run)(t0:Int):HE bav (premise_run_calm r0 t0) 119 [Gpremise_run.av r0,iav t0]:=⟨by unfold premise_run_calm;exact sa⟩
noncomputable def premise_run_last_0_step (r2:Gpremise_run)(t0:Int):Option ((Int)⊕Int):=
 if 0≤t0 then
  (premise_run_calm r2 t0).bind fun r3=>
  if r3=true then
   some (.inl (wr (t0-1)))
  else
   some (.inr t0)
 else
  some (.inr t0)
noncomputable def premise_run_last_0 (r2:Gpremise_run)(t0:Int):Option Int:=
 loopO (fun s:Int=>premise_run_last_0_step r2 s) t0
def premise_run_last_0_pre (r2:Gpremise_run)(v:Int)(e:PF.St):Prop:=e=⟨[(1,.ept (Gpremise_run.cells r2) 0),(3,iav v)],[]⟩
instance premise_run_last_0_sim (r2:Gpremise_run)(t0:Int):HL (premise_run_last_0 r2 t0) LM ([1,3],[],[3],B63_0) (premise_run_last_0_pre r2 t0) (rE fun r=>((.exit 0),⟨[(3,iav r)],[]⟩)):=by unfold premise_run_last_0 premise_run_last_0_step;exact lf
noncomputable def premise_run_last (r0:Gpremise_run):Option Int:=
 (premise_run_last_0 r0 (wr ((List.length r0.Script.Ticks:Int)-1))).bind fun r4=>
 some r4
instance premise_run_last_sim (r0:Gpremise_run):HE iav (premise_run_last r0) 63 [Gpremise_run.av r0]:=⟨by unfold premise_run_last;exact sa⟩
noncomputable def conf_Rounds (c0:GConf):Option Int:=
 (conf_Plain c0).bind fun r0=>
 if r0≠0 then
  some 0
 else
  some (wr (3*(wr (c0.F+1))))
instance conf_Rounds_sim (c0:GConf):HE iav (conf_Rounds c0) 196 [GConf.av c0]:=⟨by unfold conf_Rounds;exact sa⟩
noncomputable def conf_Length (c0:GConf):Option Int:=
 (conf_Rounds c0).bind fun r0=>
 some (wr (r0*(max c0.D 0)))
instance conf_Length_sim (c0:GConf):HE iav (conf_Length c0) 121 [GConf.av c0]:=⟨by unfold conf_Length;exact sa⟩
noncomputable def bound_Settle (c0:GConf):Option Int:=
 (bound_of c0).bind fun r0=>
 if(!r0.2)=true then
  some 0
 else
  (conf_Length c0).bind fun r2=>
  some (wr ((wr (1+(wr (4*r2))))+(wr (2*c0.Period))))
instance bound_Settle_sim (c0:GConf):HE iav (bound_Settle c0) 64 [GConf.av c0]:=⟨by unfold bound_Settle;exact sa⟩
noncomputable def bound_All (c0:GConf):Option Int:=
 (bound_of c0).bind fun r0=>
 if(!r0.2)=true then
  some 0
 else
  (bound_Settle c0).bind fun r2=>
  some (wr (r2+(wr (4*c0.Period))))
instance bound_All_sim (c0:GConf):HE iav (bound_All c0) 65 [GConf.av c0]:=⟨by unfold bound_All;exact sa⟩
noncomputable def premise_All (s0:GScript):Option Int:=
 (script_Right s0).bind fun r0=>
 if r0≠0 then
  some 0
 else
  (premise_run_last (Gpremise_run.mk s0)).bind fun r2=>
  (bound_All s0.Conf).bind fun r3=>
  some (wr (r2+r3))
instance premise_All_sim (s0:GScript):HE iav (premise_All s0) 30 [GScript.av s0]:=⟨by unfold premise_All;exact sa⟩
noncomputable def premise_Holds (s0:GScript):Option Int:=
 (script_Right s0).bind fun r0=>
 if r0≠0 then
  some r0
 else
  if s0.Conf.F<(List.length s0.Faulty:Int)then
   some 7
  else
   some 0
instance premise_Holds_sim (s0:GScript):HE iav (premise_Holds s0) 57 [GScript.av s0]:=⟨by unfold premise_Holds;exact sa⟩
noncomputable def judge_open_0_step (rows2:List (List GReport))(s2:GScript)(x0:List (List GReport))(x2:Int)(x4:Gjudge_run)(x3:Int):Option ((Int)⊕((Int×Gjudge_run)⊕(Unit))):=
 if x3<x2 then
  (idx? x0 x3).bind fun z0=>
  if(List.length z0:Int)≠s2.Conf.N then
   some (.inr (.inl (2,(Gjudge_run.mk (GScript.mk (GConf.mk 0 0 0 0 0 0 0 0 0 0 ([]:List Int)) ([]:List Int) ([]:List (List UInt8)) ([]:List GTick)) ([]:List Int) ([]:List (List GReport)) 0))))
  else
   some (.inl (wr (x3+1)))
 else
  some (.inr (.inr ()))
noncomputable def judge_open_0 (rows2:List (List GReport))(s2:GScript)(x0:List (List GReport))(x2:Int)(x4:Gjudge_run)(x3:Int):Option ((Int×Gjudge_run)⊕(Unit)):=
 loopO (fun s:Int=>judge_open_0_step rows2 s2 x0 x2 x4 s) x3
def judge_open_0_pre (rows2:List (List GReport))(s2:GScript)(x0:List (List GReport))(x2:Int)(x4:Gjudge_run)(v:Int)(e:PF.St):Prop:= ∃g0,∃g2,∃g3,∃g4,∃g5,∃g6,e=⟨[(1,lav (lav GReport.av) rows2),(2,.ept (GScript.cells s2) 0),(4,.ptr 104 0),(22,lav (lav GReport.av) x0),(23,iav x2),(24,iav v)],[(104,⟨true,[iav x4.Script.Conf.N,iav x4.Script.Conf.F,iav x4.Script.Conf.D,iav x4.Script.Conf.Period,iav x4.Script.Conf.Rate,iav x4.Script.Conf.Drift,iav x4.Script.Conf.Offset,iav x4.Script.Conf.Slot,iav x4.Script.Conf.Mod,iav x4.Script.Conf.Fresh,.lst g0 (List.map iav x4.Script.Conf.Table),.lst g2 (List.map iav x4.Script.Faulty),.lst g3 (List.map sav x4.Script.Images),.lst g4 (List.map GTick.av x4.Script.Ticks),.lst g5 (List.map iav x4.f_honest),.lst g6 (List.map (lav GReport.av) x4.f_rows),iav x4.f_all]⟩)]⟩∧Mg 1 g0∧Mg 1 g2∧Mg 1 g3∧Mg 6 g4∧Mg 1 g5∧Mg 1 g6
instance judge_open_0_sim (rows2:List (List GReport))(s2:GScript)(x0:List (List GReport))(x2:Int)(x4:Gjudge_run)(x3:Int):HL (judge_open_0 rows2 s2 x0 x2 x4 x3) LM ([1,2,4,22,23,24],[104],[1,2,4,5],B26_0) (judge_open_0_pre rows2 s2 x0 x2 x4 x3) (rS (fun r (q:Ex×PF.St)=> ∃g0',∃g1',∃g2',∃g3',∃g4',∃g5',q=(Ex.ret,⟨[(1,lav (lav GReport.av) rows2),(2,.ept (GScript.cells s2) 0),(4,.ptr 104 0),(5,iav r.1)],[(104,⟨true,[iav r.2.Script.Conf.N,iav r.2.Script.Conf.F,iav r.2.Script.Conf.D,iav r.2.Script.Conf.Period,iav r.2.Script.Conf.Rate,iav r.2.Script.Conf.Drift,iav r.2.Script.Conf.Offset,iav r.2.Script.Conf.Slot,iav r.2.Script.Conf.Mod,iav r.2.Script.Conf.Fresh,.lst g0' (List.map iav r.2.Script.Conf.Table),.lst g1' (List.map iav r.2.Script.Faulty),.lst g2' (List.map sav r.2.Script.Images),.lst g3' (List.map GTick.av r.2.Script.Ticks),.lst g4' (List.map iav r.2.f_honest),.lst g5' (List.map (lav GReport.av) r.2.f_rows),iav r.2.f_all]⟩)]⟩)∧Mg 1 g0'∧Mg 1 g1'∧Mg 1 g2'∧Mg 6 g3'∧Mg 1 g4'∧Mg 1 g5') (fun r (q:Ex×PF.St)=> ∃g0',∃g1',∃g2',∃g3',∃g4',∃g5',q=((.exit 0),⟨[(1,lav (lav GReport.av) rows2),(2,.ept (GScript.cells s2) 0),(4,.ptr 104 0),(5,.undef)],[(104,⟨true,[iav x4.Script.Conf.N,iav x4.Script.Conf.F,iav x4.Script.Conf.D,iav x4.Script.Conf.Period,iav x4.Script.Conf.Rate,iav x4.Script.Conf.Drift,iav x4.Script.Conf.Offset,iav x4.Script.Conf.Slot,iav x4.Script.Conf.Mod,iav x4.Script.Conf.Fresh,.lst g0' (List.map iav x4.Script.Conf.Table),.lst g1' (List.map iav x4.Script.Faulty),.lst g2' (List.map sav x4.Script.Images),.lst g3' (List.map GTick.av x4.Script.Ticks),.lst g4' (List.map iav x4.f_honest),.lst g5' (List.map (lav GReport.av) x4.f_rows),iav x4.f_all]⟩)]⟩)∧Mg 1 g0'∧Mg 1 g1'∧Mg 1 g2'∧Mg 6 g3'∧Mg 1 g4'∧Mg 1 g5')):=by unfold judge_open_0 judge_open_0_step;exact lf
noncomputable def judge_open (s0:GScript)(rows:List (List GReport)):Option (Gjudge_run×Int):=
 (premise_Holds s0).bind fun r0=>
 if r0≠0 then
  some ((Gjudge_run.mk (GScript.mk (GConf.mk 0 0 0 0 0 0 0 0 0 0 ([]:List Int)) ([]:List Int) ([]:List (List UInt8)) ([]:List GTick)) ([]:List Int) ([]:List (List GReport)) 0),r0)
 else
  if(List.length rows:Int)≠(List.length s0.Ticks:Int)then
   some ((Gjudge_run.mk (GScript.mk (GConf.mk 0 0 0 0 0 0 0 0 0 0 ([]:List Int)) ([]:List Int) ([]:List (List UInt8)) ([]:List GTick)) ([]:List Int) ([]:List (List GReport)) 0),2)
  else
   (judge_open_0 rows s0 rows (List.length rows:Int) (Gjudge_run.mk (GScript.mk (GConf.mk 0 0 0 0 0 0 0 0 0 0 ([]:List Int)) ([]:List Int) ([]:List (List UInt8)) ([]:List GTick)) ([]:List Int) ([]:List (List GReport)) 0) 0).bind fun r2=>
   Sum.elim
    (fun r3=>
      some (r3.2,r3.1))
    (fun r4=>
      (script_Honest s0).bind fun r5=>
      (premise_All s0).bind fun r6=>
      some ((Gjudge_run.mk s0 r5 rows (max 0 r6)),0))
    r2
instance judge_open_sim (s0:GScript)(rows:List (List GReport)):HS (judge_open s0 rows) (LM.call 26 [GScript.av s0,lav (lav GReport.av) rows] []) fun r q=>q=(.tup [Gjudge_run.av r.1,iav r.2],[]):=⟨by
 unfold judge_open
 refine sv fun S hS hw hw8 R hR=> ?_
 refine au (.hc hR ?_)
 rintro r0 q rfl
 refine au (.ite Iff.rfl (fun hc=> ?_) fun hc=> ?_)
 ·exact fin
 ·refine au ?_
  refine Sim.ki hS (m:=(List.length rows:Int)) (by simp) ?_
  refine au ?_
  refine Sim.ki hS (m:=(List.length s0.Ticks:Int)) (by simp) ?_
  refine au (.ite Iff.rfl (fun hc2=> ?_) fun hc2=> ?_)
  ·exact fin
  ·refine au ?_
   refine Sim.ki hS (m:=(List.length rows:Int)) (by simp) ?_
   refine au ?_
   refine Sim.hl hR kp pz ?_
   rintro r2 q hr
   rcases r2 with r3|r4
   ·obtain⟨g7,g8,g9,g10,g11,g12,rfl,hg7,hg8,hg9,hg10,hg11,hg12⟩:=hr
    exact fin
   ·obtain⟨g13,g14,g15,g16,g17,g18,rfl,hg13,hg14,hg15,hg16,hg17,hg18⟩:=hr
    exact fin⟩
noncomputable def trace_At (rows:List (List GReport))(t0:Int)(node:Int):Option GReport:=
 if t0<0 then
  some (GReport.mk false false 0 0 ([]:List UInt8) 0 ([]:List GDeliver))
 else
  if(List.length rows:Int)≤t0 then
   some (GReport.mk false false 0 0 ([]:List UInt8) 0 ([]:List GDeliver))
  else
   if node<0 then
    some (GReport.mk false false 0 0 ([]:List UInt8) 0 ([]:List GDeliver))
   else
    (idx? rows t0).bind fun z0=>
    if(List.length z0:Int)≤node then
     some (GReport.mk false false 0 0 ([]:List UInt8) 0 ([]:List GDeliver))
    else
     (idx? rows t0).bind fun z2=>
     (idx? z2 node).bind fun z3=>
     some z3
instance trace_At_sim (rows:List (List GReport))(t0:Int)(node:Int):HE GReport.av (trace_At rows t0 node) 112 [lav (lav GReport.av) rows,iav t0,iav node]:=⟨by unfold trace_At;exact sa⟩
noncomputable def window_Starts_0_step (rows2:List (List GReport))(node2:Int)(c2:GConf)(out:List Int)(t0:Int):Option (((List Int)×Int)⊕((List Int))):=
 if t0≤(wr ((List.length rows2:Int)-c2.Period))then
  (trace_At rows2 t0 node2).bind fun r2=>
  if r2.Pulse=true then
   if List.length out+List.length [t0]≤lenMax then
    some (.inl ((out++[t0]),(wr (t0+1))))
   else none
  else
   some (.inl (out,(wr (t0+1))))
 else
  some (.inr out)
noncomputable def window_Starts_0 (rows2:List (List GReport))(node2:Int)(c2:GConf)(out:List Int)(t0:Int):Option ((List Int)):=
 loopO (fun s:(List Int)×Int=>window_Starts_0_step rows2 node2 c2 s.1 s.2) (out,t0)
def window_Starts_0_pre (rows2:List (List GReport))(node2:Int)(c2:GConf)(v:(List Int)×Int)(e:PF.St):Prop:= ∃g0,e=⟨[(1,lav (lav GReport.av) rows2),(2,iav node2),(4,.ept (GConf.cells c2) 0),(9,.lst g0 (List.map iav v.1)),(10,iav v.2)],[]⟩∧Mg 1 g0
instance window_Starts_0_sim (rows2:List (List GReport))(node2:Int)(c2:GConf)(out:List Int)(t0:Int):HL (window_Starts_0 rows2 node2 c2 out t0) LM ([1,2,4,9,10],[],[9],B59_0) (window_Starts_0_pre rows2 node2 c2 (out,t0)) (fun r (q:Ex×PF.St)=> ∃g0',q=((.exit 0),⟨[(9,.lst g0' (List.map iav r))],[]⟩)∧Mg 1 g0'):=by
 refine lv (window_Starts_0_pre rows2 node2 c2) _ fun S hS hw hw8 R hR=> ?_
 rintro⟨out,t0⟩ env hp ⟨g0,he,hg0⟩
 cases he
 show Sim (window_Starts_0_step rows2 node2 c2 out t0) _ _
 unfold window_Starts_0_step
 simp only[hw]
 refine au ?_
 refine Sim.ki hS (m:=(List.length rows2:Int)) (by simp) ?_
 refine au (.ite Iff.rfl (fun hc2=> ?_) fun hc2=> ?_)
 ·refine au (.hc hR ?_)
  rintro r2 q rfl
  refine au (.iteB (fun hc3=> ?_) fun hc3=> ?_)
  ·refine au ?_
   refine Sim.kl hS (ys:=List.map iav [t0]) rfl ?_
   refine au ?_
   first|(refine Sim.goB (may_map (by intro _;rfl) hg0 _) ?_)|skip
   refine au ?_
   first|(refine Sim.goB (okE_map (by intro _;exact⟨rfl,rfl,rfl⟩) _) ?_)|skip
   refine au ?_
   first|refine Sim.ite (by simp) (fun _=> ?_) (fun _=>Sim.no)|refine Sim.guard (fun _=> ?_)
   exact fin
  ·exact fin
 ·exact fin
noncomputable def window_Starts (c0:GConf)(rows:List (List GReport))(node:Int)(from0:Int):Option ((List Int)):=
 (conf_Plain c0).bind fun r0=>
 if r0≠0 then
  some ([]:List Int)
 else
  (window_Starts_0 rows node c0 ([]:List Int) (max from0 0)).bind fun r3=>
  some r3
instance window_Starts_sim (c0:GConf)(rows:List (List GReport))(node:Int)(from0:Int):HE (lav iav) (window_Starts c0 rows node from0) 59 [GConf.av c0,lav (lav GReport.av) rows,iav node,iav from0]:=⟨by unfold window_Starts;exact sa⟩
noncomputable def judge_run_first (r0:Gjudge_run):Option Int:=
 (idx? r0.f_honest 0).bind fun z0=>
 some z0
instance judge_run_first_sim (r0:Gjudge_run):HE iav (judge_run_first r0) 60 [Gjudge_run.av r0]:=⟨by unfold judge_run_first;exact sa⟩
noncomputable def num_fits (width:Int):Option Bool:=
 if 1≤width then
  some (decide (width≤4))
 else
  some false
instance num_fits_sim (width:Int):HE bav (num_fits width) 239 [iav width]:=⟨by unfold num_fits;exact sa⟩
noncomputable def num_Get_0_step (s2:List UInt8)(at2:Int)(x0:Int)(n0:Int)(x2:Int):Option ((Int×Int)⊕Int):=
 if x2<x0 then
  (idx? s2 (wr (at2+x2))).bind fun b0=>
  if(wr (8*x2))<0 then none else
  some (.inl ((orI .i64 n0 (shlI .i64 (wr (UInt8.toNat b0:Int)) (wr (8*x2)))),(wr (x2+1))))
 else
  some (.inr n0)
noncomputable def num_Get_0 (s2:List UInt8)(at2:Int)(x0:Int)(n0:Int)(x2:Int):Option Int:=
 loopO (fun s:Int×Int=>num_Get_0_step s2 at2 x0 s.1 s.2) (n0,x2)
def num_Get_0_pre (s2:List UInt8)(at2:Int)(x0:Int)(v:Int×Int)(e:PF.St):Prop:=e=⟨[(0,.str s2),(1,iav at2),(8,iav v.1),(29,iav x0),(30,iav v.2)],[]⟩
instance num_Get_0_sim (s2:List UInt8)(at2:Int)(x0:Int)(n0:Int)(x2:Int):HL (num_Get_0 s2 at2 x0 n0 x2) LM ([0,1,8,29,30],[],[8],B205_0) (num_Get_0_pre s2 at2 x0 (n0,x2)) (rE fun r=>((.exit 0),⟨[(8,iav r)],[]⟩)):=by
 refine lv (num_Get_0_pre s2 at2 x0) _ fun S hS hw hw8 R hR=> ?_
 rintro⟨n0,x2⟩ env hp he
 cases he
 show Sim (num_Get_0_step s2 at2 x0 n0 x2) _ _
 unfold num_Get_0_step
 simp only[hw]
 refine au (.ite Iff.rfl (fun hc5=> ?_) fun hc5=> ?_)
 ·refine au ?_
  refine Sim.ix rfl (fun b0 hb0=> ?_)
  refine au ?_
  refine Sim.go hb0 ?_
  exact fin
 ·exact fin
noncomputable def num_Get (s0:List UInt8)(at0:Int)(width:Int):Option (Int×Int):=
 (num_fits width).bind fun r0=>
 if(!r0)=true then
  some (0,2)
 else
  if at0<0 then
   some (0,2)
  else
   if(List.length s0:Int)<at0 then
    some (0,5)
   else
    if(wr ((List.length s0:Int)-at0))<width then
     some (0,5)
    else
     (num_Get_0 s0 at0 width 0 0).bind fun r2=>
     some (r2,0)
instance num_Get_sim (s0:List UInt8)(at0:Int)(width:Int):HS (num_Get s0 at0 width) (LM.call 205 [.str s0,iav at0,iav width] []) fun r q=>q=(.tup [iav r.1,iav r.2],[]):=⟨by unfold num_Get;exact sa⟩
noncomputable def conf_Bits (c0:GConf):Option Int:=
 (conf_Plain c0).bind fun r0=>
 if r0≠0 then
  some 0
 else
  some (wr (8+c0.N))
instance conf_Bits_sim (c0:GConf):HE iav (conf_Bits c0) 155 [GConf.av c0]:=⟨by unfold conf_Bits;exact sa⟩
noncomputable def num_Mod (n0:Int)(by0:Int):Option Int:=
 if by0<1 then
  some 0
 else
  if by0=0 then none else
  if(Int.tmod n0 by0)<0 then
   some (wr ((Int.tmod n0 by0)+by0))
  else
   some (Int.tmod n0 by0)
instance num_Mod_sim (n0:Int)(by0:Int):HE iav (num_Mod n0 by0) 199 [iav n0,iav by0]:=⟨by unfold num_Mod;exact sa⟩
noncomputable def ring_put (n0:Int):Option Int:=
 (num_Mod n0 65536).bind fun r0=>
 some r0
instance ring_put_sim (n0:Int):HE iav (ring_put n0) 240 [iav n0]:=⟨by unfold ring_put;exact sa⟩
noncomputable def ring_Put (n0:Int):Option Int:=
 (ring_put n0).bind fun r0=>
 some r0
instance ring_Put_sim (n0:Int):HE iav (ring_Put n0) 206 [iav n0]:=⟨by unfold ring_Put;exact sa⟩
noncomputable def diag_counters_clean_0_step (x0:Ar6 Int)(x3:Ar6 Int)(x2:Int)(d2:Ar6 Int):Option ((Int×(Ar6 Int))⊕((Ar6 Int))):=
 if x2<6 then
  if 0≤x2∧x2<(6:Nat)then
   (Ar6.get? (Ar6.mk x0.a0 x0.a1 x0.a2 x0.a3 x0.a4 x0.a5) (Int.toNat x2)).bind fun z0=>
   (num_Clamp z0 0 65535).bind fun r0=>
   if 0≤x2∧x2<(6:Nat)then
    (Ar6.set? d2 (Int.toNat x2) r0).bind fun y0=>
    some (.inl ((wr (x2+1)),y0))
   else none
  else none
 else
  some (.inr d2)
noncomputable def diag_counters_clean_0 (x0:Ar6 Int)(x3:Ar6 Int)(x2:Int)(d2:Ar6 Int):Option ((Ar6 Int)):=
 loopO (fun s:Int×(Ar6 Int)=>diag_counters_clean_0_step x0 x3 s.1 s.2) (x2,d2)
def diag_counters_clean_0_pre (x0:Ar6 Int)(x3:Ar6 Int)(v:Int×(Ar6 Int))(e:PF.St):Prop:=e=⟨[(1,.ptr 101 0),(2,.ptr 102 0),(5,Ar6.av iav x0),(6,iav v.1)],[(102,⟨true,Ar6.cells iav x3⟩),(101,⟨true,Ar6.cells iav v.2⟩)]⟩
instance diag_counters_clean_0_sim (x0:Ar6 Int)(x3:Ar6 Int)(x2:Int)(d2:Ar6 Int):HL (diag_counters_clean_0 x0 x3 x2 d2) LM ([1,2,5,6],[101,102],[1,2],B241_0) (diag_counters_clean_0_pre x0 x3 (x2,d2)) (rE fun r=>((.exit 0),⟨[(1,.ptr 101 0),(2,.ptr 102 0)],[(102,⟨true,Ar6.cells iav x3⟩),(101,⟨true,Ar6.cells iav r⟩)]⟩)):=by
 refine lv (diag_counters_clean_0_pre x0 x3) _ fun S hS hw hw8 R hR=> ?_
 rintro⟨x2,d2⟩ env hp he
 cases he
 show Sim (diag_counters_clean_0_step x0 x3 x2 d2) _ _
 unfold diag_counters_clean_0_step
 simp only[hw]
 refine au (.ite Iff.rfl (fun hc=> ?_) fun hc=> ?_)
 ·refine au ?_
  first|refine Sim.ite Iff.rfl (fun hb=> ?_) (fun _=>Sim.no)|refine Sim.guard (fun hb=> ?_)
  refine au ?_
  refine Sim.opt (f:=iav) (by have hb':(Int.toNat x2)<6:=(by omega);generalize (Int.toNat x2)=j at hb' ⊢;rcases j with _|_|_|_|_|_|j<;>first|rfl|exact absurd hb' (by omega)) (fun z0 _=> ?_)
  refine au (.hc hR ?_)
  rintro r0 q rfl
  refine au ?_
  first|refine Sim.ite Iff.rfl (fun hb2=> ?_) (fun _=>Sim.no)|refine Sim.guard (fun hb2=> ?_)
  refine au ?_
  refine Sim.opt (f:=fun y0=>[iav y0.a0,iav y0.a1,iav y0.a2,iav y0.a3,iav y0.a4,iav y0.a5]) (by have hb':(Int.toNat x2)<6:=(by omega);generalize (Int.toNat x2)=j at hb' ⊢;rcases j with _|_|_|_|_|_|j<;>first|rfl|exact absurd hb' (by omega)) (fun y0 _=> ?_)
  exact fin
 ·exact fin
noncomputable def diag_counters_clean (d0:Ar6 Int):Option ((Ar6 Int)):=
 (diag_counters_clean_0 d0 (Ar6.mk 0 0 0 0 0 0) 0 d0).bind fun r2=>
 some r2
instance diag_counters_clean_sim (d0:Ar6 Int):HS (diag_counters_clean d0) (LM.call 241 [Ar6.av iav d0] []) fun r q=>q=(Ar6.av iav r,[]):=⟨by unfold diag_counters_clean;exact sa⟩
noncomputable def diag_Clean (d0:Ar6 Int):Option ((Ar6 Int)):=
 (diag_counters_clean d0).bind fun r0=>
 some r0
instance diag_Clean_sim (d0:Ar6 Int):HS (diag_Clean d0) (LM.call 207 [Ar6.av iav d0] []) fun r q=>q=(Ar6.av iav r,[]):=⟨by unfold diag_Clean;exact sa⟩
noncomputable def gate_Mark_0_step (marks2:List UInt8)(at2:List Int)(len:Nat)(x0:Int)(x2:Int)(x3:List Int):Option ((Int×(List Int))⊕((List Int))):=
 if x2<x0 then
  if 0≤x2∧x2<((len:Nat):Int)then
   (mod? x3 (Int.toNat x2) (fun _=>48)).bind fun l0=>
   if x2<(List.length marks2:Int)then
    (idx? marks2 x2).bind fun b0=>
    if(UInt8.toNat b0:Int)=49 then
     if 0≤x2∧x2<((len:Nat):Int)then
      (mod? l0 (Int.toNat x2) (fun _=>49)).bind fun l2=>
      some (.inl ((wr (x2+1)),l2))
     else none
    else
     (slices_Contains_int_int at2 x2).bind fun r2=>
     if r2=true then
      if 0≤x2∧x2<((len:Nat):Int)then
       (mod? l0 (Int.toNat x2) (fun _=>49)).bind fun l3=>
       some (.inl ((wr (x2+1)),l3))
      else none
     else
      some (.inl ((wr (x2+1)),l0))
   else
    (slices_Contains_int_int at2 x2).bind fun r3=>
    if r3=true then
     if 0≤x2∧x2<((len:Nat):Int)then
      (mod? l0 (Int.toNat x2) (fun _=>49)).bind fun l4=>
      some (.inl ((wr (x2+1)),l4))
     else none
    else
     some (.inl ((wr (x2+1)),l0))
  else none
 else
  some (.inr x3)
noncomputable def gate_Mark_0 (marks2:List UInt8)(at2:List Int)(len:Nat)(x0:Int)(x2:Int)(x3:List Int):Option ((List Int)):=
 loopO (fun s:Int×(List Int)=>gate_Mark_0_step marks2 at2 len x0 s.1 s.2) (x2,x3)
def gate_Mark_0_pre (marks2:List UInt8)(at2:List Int)(len:Nat)(x0:Int)(v:Int×(List Int))(e:PF.St):Prop:=e=⟨[(0,.str marks2),(2,lav iav at2),(7,.arr 111 0 len 1 false),(13,iav x0),(14,iav v.1)],[(111,⟨true,(List.map u8av v.2)⟩)]⟩
instance gate_Mark_0_sim (marks2:List UInt8)(at2:List Int)(len:Nat)(x0:Int)(x2:Int)(x3:List Int):HL (gate_Mark_0 marks2 at2 len x0 x2 x3) LM ([0,2,7,13,14],[111],[7],B212_0) (gate_Mark_0_pre marks2 at2 len x0 (x2,x3)) (rE fun r=>((.exit 0),⟨[(7,.arr 111 0 len 1 false)],[(111,⟨true,(List.map u8av r)⟩)]⟩)):=by
 refine lv (gate_Mark_0_pre marks2 at2 len x0) _ fun S hS hw hw8 R hR=> ?_
 rintro⟨x2,x3⟩ env hp he
 cases he
 show Sim (gate_Mark_0_step marks2 at2 len x0 x2 x3) _ _
 unfold gate_Mark_0_step
 simp only[hw]
 refine au (.ite Iff.rfl (fun hc=> ?_) fun hc=> ?_)
 ·refine au ?_
  first|refine Sim.ite Iff.rfl (fun _=> ?_) (fun _=>Sim.no)|refine Sim.guard (fun _=> ?_)
  refine au ?_
  refine Sim.opt (store_map (u:=(fun _=>48)) (m:=(Int.toNat x2)) (by omega) (fun _=>rfl)) (fun l0 _=> ?_)
  refine au (.ite Iff.rfl (fun hc2=> ?_) fun hc2=> ?_)
  ·refine au ?_
   refine Sim.ix rfl (fun b0 hb0=> ?_)
   refine au ?_
   refine Sim.go hb0 ?_
   refine au (.ite Iff.rfl (fun hc3=> ?_) fun hc3=> ?_)
   ·refine au ?_
    first|refine Sim.ite Iff.rfl (fun _=> ?_) (fun _=>Sim.no)|refine Sim.guard (fun _=> ?_)
    refine au ?_
    refine Sim.opt (store_map (u:=(fun _=>49)) (m:=(Int.toNat x2)) (by omega) (fun _=>rfl)) (fun l2 _=> ?_)
    exact fin
   ·refine au (.hc hR ?_)
    rintro r2 q rfl
    refine au (.iteB (fun hc4=> ?_) fun hc4=> ?_)
    ·refine au ?_
     first|refine Sim.ite Iff.rfl (fun _=> ?_) (fun _=>Sim.no)|refine Sim.guard (fun _=> ?_)
     refine au ?_
     refine Sim.opt (store_map (u:=(fun _=>49)) (m:=(Int.toNat x2)) (by omega) (fun _=>rfl)) (fun l3 _=> ?_)
     exact fin
    ·exact fin
  ·refine au (.hc hR ?_)
   rintro r3 q rfl
   refine au (.iteB (fun hc5=> ?_) fun hc5=> ?_)
   ·refine au ?_
    first|refine Sim.ite Iff.rfl (fun _=> ?_) (fun _=>Sim.no)|refine Sim.guard (fun _=> ?_)
    refine au ?_
    refine Sim.opt (store_map (u:=(fun _=>49)) (m:=(Int.toNat x2)) (by omega) (fun _=>rfl)) (fun l4 _=> ?_)
    exact fin
   ·exact fin
 ·exact fin
noncomputable def gate_Mark (marks:List UInt8)(n0:Int)(at0:List Int):Option ((List UInt8)):=
 (num_Clamp n0 0 64).bind fun r0=>
 if 0≤r0∧r0≤lenMax then
  (gate_Mark_0 marks at0 (Int.toNat r0) (((Int.toNat r0):Nat):Int) 0 (List.replicate (Int.toNat r0) 0)).bind fun r4=>
  (sub? r4 0 (Int.toNat r0)).bind fun y0=>
  some (bytesOf y0)
 else none
instance gate_Mark_sim (marks:List UInt8)(n0:Int)(at0:List Int):HE sav (gate_Mark marks n0 at0) 212 [.str marks,iav n0,lav iav at0]:=⟨by
 unfold gate_Mark
 refine sv fun S hS hw hw8 R hR=> ?_
 refine au (.hc hR ?_)
 rintro r0 q rfl
 refine au ?_
 first|refine Sim.ite Iff.rfl (fun _=> ?_) (fun _=>Sim.no)|refine Sim.guard (fun _=> ?_)
 refine au ?_
 refine Sim.kl hS (rep_map (f:=u8av) 0 _ rfl _) ?_
 refine au ?_
 refine Sim.hl hR kp pz ?_
 rintro r4 q rfl
 refine au ?_
 refine Sim.sub (f:=u8av) rfl (fun y0 hy0=> ?_)
 refine au ?_
 refine Sim.go (by rw[hy0];exact bytes_mapM _) ?_
 exact fin⟩
noncomputable def roster_Mark (c0:GConf)(marks:List UInt8)(nodes:List Int):Option ((List UInt8)):=
 (gate_Mark marks c0.N nodes).bind fun r0=>
 some r0
instance roster_Mark_sim (c0:GConf)(marks:List UInt8)(nodes:List Int):HE sav (roster_Mark c0 marks nodes) 201 [GConf.av c0,.str marks,lav iav nodes]:=⟨by unfold roster_Mark;exact sa⟩
noncomputable def pipe_Blank (c0:GConf):Option ((List UInt8)):=
 (conf_Length c0).bind fun r0=>
 (strings_Repeat ([48]:List UInt8) r0).bind fun r2=>
 some r2
instance pipe_Blank_sim (c0:GConf):HE sav (pipe_Blank c0) 208 [GConf.av c0]:=⟨by unfold pipe_Blank;exact sa⟩
noncomputable def mem_digits_0_step (last2:Int)(len:Nat)(len2:Nat)(x0:Int)(x2:Int)(x3:List Int):Option ((Int×(List Int))⊕((List Int))):=
 if x2<x0 then
  if 0≤x2∧x2<((len2:Nat):Int)then
   (x3[(Int.toNat x2)]?).bind fun z0=>
   if z0<48 then
    if 0≤x2∧x2<((len:Nat):Int)then
     (mod? x3 (Int.toNat x2) (fun _=>48)).bind fun l0=>
     some (.inl ((wr (x2+1)),l0))
    else none
   else
    if last2<z0 then
     if 0≤x2∧x2<((len:Nat):Int)then
      (mod? x3 (Int.toNat x2) (fun _=>48)).bind fun l2=>
      some (.inl ((wr (x2+1)),l2))
     else none
    else
     some (.inl ((wr (x2+1)),x3))
  else none
 else
  some (.inr x3)
noncomputable def mem_digits_0 (last2:Int)(len:Nat)(len2:Nat)(x0:Int)(x2:Int)(x3:List Int):Option ((List Int)):=
 loopO (fun s:Int×(List Int)=>mem_digits_0_step last2 len len2 x0 s.1 s.2) (x2,x3)
def mem_digits_0_pre (last2:Int)(len:Nat)(len2:Nat)(x0:Int)(v:Int×(List Int))(e:PF.St):Prop:=e=⟨[(1,u8av last2),(5,.arr 109 0 len 1 false),(10,.arr 109 0 len2 1 false),(11,iav x0),(12,iav v.1)],[(109,⟨true,(List.map u8av v.2)⟩)]⟩
instance mem_digits_0_sim (last2:Int)(len:Nat)(len2:Nat)(x0:Int)(x2:Int)(x3:List Int):HL (mem_digits_0 last2 len len2 x0 x2 x3) LM ([1,5,10,11,12],[109],[5],B209_0) (mem_digits_0_pre last2 len len2 x0 (x2,x3)) (rE fun r=>((.exit 0),⟨[(5,.arr 109 0 len 1 false)],[(109,⟨true,(List.map u8av r)⟩)]⟩)):=by
 refine lv (mem_digits_0_pre last2 len len2 x0) _ fun S hS hw hw8 R hR=> ?_
 rintro⟨x2,x3⟩ env hp he
 cases he
 show Sim (mem_digits_0_step last2 len len2 x0 x2 x3) _ _
 unfold mem_digits_0_step
 simp only[hw]
 refine au (.ite Iff.rfl (fun hc=> ?_) fun hc=> ?_)
 ·refine au ?_
  first|refine Sim.ite Iff.rfl (fun _=> ?_) (fun _=>Sim.no)|refine Sim.guard (fun _=> ?_)
  refine au ?_
  refine Sim.opt (load_map (f:=u8av) (m:=(Int.toNat x2)) (fun _=>rfl) (by omega)) (fun z0 _=> ?_)
  refine au (.ite Iff.rfl (fun hc2=> ?_) fun hc2=> ?_)
  ·refine au ?_
   first|refine Sim.ite Iff.rfl (fun _=> ?_) (fun _=>Sim.no)|refine Sim.guard (fun _=> ?_)
   refine au ?_
   refine Sim.opt (store_map (u:=(fun _=>48)) (m:=(Int.toNat x2)) (by omega) (fun _=>rfl)) (fun l0 _=> ?_)
   exact fin
  ·refine au (.ite Iff.rfl (fun hc3=> ?_) fun hc3=> ?_)
   ·refine au ?_
    first|refine Sim.ite Iff.rfl (fun _=> ?_) (fun _=>Sim.no)|refine Sim.guard (fun _=> ?_)
    refine au ?_
    refine Sim.opt (store_map (u:=(fun _=>48)) (m:=(Int.toNat x2)) (by omega) (fun _=>rfl)) (fun l2 _=> ?_)
    exact fin
   ·exact fin
 ·exact fin
noncomputable def mem_digits (s0:List UInt8)(last:Int):Option ((List UInt8)):=
 if List.length s0≤lenMax then
  (mem_digits_0 last (List.length s0) (List.length s0) (((List.length s0):Nat):Int) 0 (intsOf s0)).bind fun r0=>
  (sub? r0 0 (List.length s0)).bind fun y0=>
  some (bytesOf y0)
 else none
instance mem_digits_sim (s0:List UInt8)(last:Int):HE sav (mem_digits s0 last) 209 [.str s0,u8av last]:=⟨by
 unfold mem_digits
 refine sv fun S hS hw hw8 R hR=> ?_
 refine au ?_
 first|refine Sim.ite Iff.rfl (fun _=> ?_) (fun _=>Sim.no)|refine Sim.guard (fun _=> ?_)
 refine au ?_
 refine Sim.kl hS (byte_map s0) ?_
 refine au ?_
 refine Sim.hl hR kp pz ?_
 rintro r0 q rfl
 refine au ?_
 refine Sim.sub (f:=u8av) rfl (fun y0 hy0=> ?_)
 refine au ?_
 refine Sim.go (by rw[hy0];exact bytes_mapM _) ?_
 exact fin⟩
noncomputable def mem_cut (s0:List UInt8)(most:Int):Option ((List UInt8)):=
 if 0≤(min (List.length s0:Int) most)∧(min (List.length s0:Int) most)≤((List.length s0):Nat)then
  some (List.take (Int.toNat (min (List.length s0:Int) most)) s0)
 else none
instance mem_cut_sim (s0:List UInt8)(most:Int):HE sav (mem_cut s0 most) 210 [.str s0,iav most]:=⟨by unfold mem_cut;exact sa⟩
noncomputable def mem_row (s0:List UInt8)(n0:Int)(last:Int):Option ((List UInt8)):=
 if(List.length s0:Int)≠n0 then
  some ([]:List UInt8)
 else
  (mem_digits s0 last).bind fun r0=>
  some r0
instance mem_row_sim (s0:List UInt8)(n0:Int)(last:Int):HE sav (mem_row s0 n0 last) 211 [.str s0,iav n0,u8av last]:=⟨by unfold mem_row;exact sa⟩
noncomputable def port_Blank_0_step (c2:GConf)(len:Nat)(x0:Int)(x2:Int)(x3:List GPort):Option ((Int×(List GPort))⊕((List GPort))):=
 if x2<x0 then
  if 0≤x2∧x2<((len:Nat):Int)then
   (mod? x3 (Int.toNat x2) (fun w0=>(GPort.mk w0.Text w0.Cycle c2.Fresh))).bind fun l0=>
   some (.inl ((wr (x2+1)),l0))
  else none
 else
  some (.inr x3)
noncomputable def port_Blank_0 (c2:GConf)(len:Nat)(x0:Int)(x2:Int)(x3:List GPort):Option ((List GPort)):=
 loopO (fun s:Int×(List GPort)=>port_Blank_0_step c2 len x0 s.1 s.2) (x2,x3)
def port_Blank_0_pre (c2:GConf)(len:Nat)(x0:Int)(v:Int×(List GPort))(e:PF.St):Prop:=e=⟨[(1,.ept (GConf.cells c2) 0),(3,.arr 110 0 len 3 true),(12,iav x0),(13,iav v.1)],[(110,⟨true,(List.flatMap GPort.cells v.2)⟩)]⟩
instance port_Blank_0_sim (c2:GConf)(len:Nat)(x0:Int)(x2:Int)(x3:List GPort):HL (port_Blank_0 c2 len x0 x2 x3) LM ([1,3,12,13],[110],[3],B215_0) (port_Blank_0_pre c2 len x0 (x2,x3)) (rE fun r=>((.exit 0),⟨[(3,.arr 110 0 len 3 true)],[(110,⟨true,(List.flatMap GPort.cells r)⟩)]⟩)):=by
 refine lv (port_Blank_0_pre c2 len x0) _ fun S hS hw hw8 R hR=> ?_
 rintro⟨x2,x3⟩ env hp he
 cases he
 show Sim (port_Blank_0_step c2 len x0 x2 x3) _ _
 unfold port_Blank_0_step
 simp only[hw]
 refine au (.ite Iff.rfl (fun hc2=> ?_) fun hc2=> ?_)
 ·refine au ?_
  first|refine Sim.ite Iff.rfl (fun _=> ?_) (fun _=>Sim.no)|refine Sim.guard (fun _=> ?_)
  refine au ?_
  refine Sim.opt (store_fm (u:=(fun w0=>(GPort.mk w0.Text w0.Cycle c2.Fresh))) (k:=2) (e:=3) (m:=(Int.toNat x2)) (fun _=>rfl) (by omega) (by simp) (fun _=>rfl)) (fun l0 _=> ?_)
  exact fin
 ·exact fin
noncomputable def port_Blank (c0:GConf):Option ((List GPort)):=
 (conf_Plain c0).bind fun r0=>
 if r0≠0 then
  some ([]:List GPort)
 else
  if 0≤c0.N∧c0.N≤lenMax then
   (port_Blank_0 c0 (Int.toNat c0.N) (((Int.toNat c0.N):Nat):Int) 0 (List.replicate (Int.toNat c0.N) (GPort.mk ([]:List UInt8) 0 0))).bind fun r2=>
   (sub? r2 0 (Int.toNat c0.N)).bind fun l2=>
   some l2
  else none
instance port_Blank_sim (c0:GConf):HE (lav GPort.av) (port_Blank c0) 215 [GConf.av c0]:=⟨by
 unfold port_Blank
 refine sv fun S hS hw hw8 R hR=> ?_
 refine au (.hc hR ?_)
 rintro r0 q rfl
 refine au (.ite Iff.rfl (fun hc=> ?_) fun hc=> ?_)
 ·exact fin
 ·refine au ?_
  first|refine Sim.ite Iff.rfl (fun _=> ?_) (fun _=>Sim.no)|refine Sim.guard (fun _=> ?_)
  refine au ?_
  refine Sim.kl hS (rep_fm (f:=GPort.cells) (GPort.mk ([]:List UInt8) 0 0) _ rfl _) ?_
  refine au ?_
  refine Sim.hl hR kp pz ?_
  rintro r2 q rfl
  refine au ?_
  refine Sim.opt (elems_fm (g:=GPort.av) (e:=3) (b:=0) (fun _=>rfl) (fun _=>rfl) (fun _=>rfl) (by decide) (by omega)) (fun l2 _=> ?_)
  exact fin⟩
noncomputable def mem_lists_2 (s0:List UInt8):Option ((List UInt8)):=
 (mem_cut s0 40).bind fun r0=>
 some r0
instance mem_lists_2_sim (s0:List UInt8):HE sav (mem_lists_2 s0) 217 [.str s0]:=⟨by unfold mem_lists_2;exact sa⟩
noncomputable def hold_places (c0:GConf):Option Int:=
 (conf_Plain c0).bind fun r0=>
 if r0≠0 then
  some 0
 else
  some (wr (c0.N*c0.D))
instance hold_places_sim (c0:GConf):HE iav (hold_places c0) 245 [GConf.av c0]:=⟨by unfold hold_places;exact sa⟩
noncomputable def hold_Empty (c0:GConf):Option ((List (List UInt8))):=
 (hold_places c0).bind fun r0=>
 if 0≤r0∧r0≤lenMax then
  (sub? (List.replicate (Int.toNat r0) ([]:List UInt8)) 0 (Int.toNat r0)).bind fun l0=>
  some l0
 else none
instance hold_Empty_sim (c0:GConf):HE (lav sav) (hold_Empty c0) 218 [GConf.av c0]:=⟨by
 unfold hold_Empty
 refine sv fun S hS hw hw8 R hR=> ?_
 refine au (.hc hR ?_)
 rintro r0 q rfl
 refine au ?_
 first|refine Sim.ite Iff.rfl (fun _=> ?_) (fun _=>Sim.no)|refine Sim.guard (fun _=> ?_)
 refine au ?_
 refine Sim.kl hS (rep_map (f:=sav) ([]:List UInt8) _ rfl _) ?_
 refine au ?_
 refine Sim.opt (elems_map (f:=sav) (b:=0) (fun _=>⟨rfl,rfl⟩) (by omega)) (fun l0 _=> ?_)
 exact fin⟩
noncomputable def mem_notes_0_step (c2:GConf)(x0:List GEntry)(x2:Int)(out:List GEntry)(x3:Int):Option (((List GEntry)×Int)⊕((List GEntry))):=
 if x3<x2 then
  (idx? x0 x3).bind fun z0=>
  if z0.From<0 then
   some (.inl (out,(wr (x3+1))))
  else
   if c2.N≤z0.From then
    some (.inl (out,(wr (x3+1))))
   else
    (ring_Put z0.At).bind fun r0=>
    if List.length out+List.length [(GEntry.mk z0.From r0)]≤lenMax then
     some (.inl ((out++[(GEntry.mk z0.From r0)]),(wr (x3+1))))
    else none
 else
  some (.inr out)
noncomputable def mem_notes_0 (c2:GConf)(x0:List GEntry)(x2:Int)(out:List GEntry)(x3:Int):Option ((List GEntry)):=
 loopO (fun s:(List GEntry)×Int=>mem_notes_0_step c2 x0 x2 s.1 s.2) (out,x3)
def mem_notes_0_pre (c2:GConf)(x0:List GEntry)(x2:Int)(v:(List GEntry)×Int)(e:PF.St):Prop:= ∃g0,e=⟨[(2,.ept (GConf.cells c2) 0),(5,.lst g0 (List.map GEntry.av v.1)),(13,lav GEntry.av x0),(14,iav x2),(15,iav v.2)],[]⟩∧Mg 2 g0
instance mem_notes_0_sim (c2:GConf)(x0:List GEntry)(x2:Int)(out:List GEntry)(x3:Int):HL (mem_notes_0 c2 x0 x2 out x3) LM ([2,5,13,14,15],[],[5],B219_0) (mem_notes_0_pre c2 x0 x2 (out,x3)) (fun r (q:Ex×PF.St)=> ∃g0',q=((.exit 0),⟨[(5,.lst g0' (List.map GEntry.av r))],[]⟩)∧Mg 2 g0'):=by
 refine lv (mem_notes_0_pre c2 x0 x2) _ fun S hS hw hw8 R hR=> ?_
 rintro⟨out,x3⟩ env hp ⟨g0,he,hg0⟩
 cases he
 show Sim (mem_notes_0_step c2 x0 x2 out x3) _ _
 unfold mem_notes_0_step
 simp only[hw]
 refine au (.ite Iff.rfl (fun hc=> ?_) fun hc=> ?_)
 ·refine au ?_
  refine Sim.ix (by simp) (fun z0 hz0=> ?_)
  refine au ?_
  refine Sim.go (idx_map _ hz0) ?_
  refine au (.ite Iff.rfl (fun hc2=> ?_) fun hc2=> ?_)
  ·exact fin
  ·refine au (.ite Iff.rfl (fun hc3=> ?_) fun hc3=> ?_)
   ·exact fin
   ·refine au (.hc hR ?_)
    rintro r0 q rfl
    refine au ?_
    refine Sim.kl hS (ys:=List.map GEntry.av [(GEntry.mk z0.From r0)]) rfl ?_
    refine au ?_
    first|(refine Sim.goB (may_map (by intro _;rfl) hg0 _) ?_)|skip
    refine au ?_
    first|(refine Sim.goB (okE_map (by intro _;exact⟨rfl,rfl,rfl⟩) _) ?_)|skip
    refine au ?_
    first|refine Sim.ite (by simp) (fun _=> ?_) (fun _=>Sim.no)|refine Sim.guard (fun _=> ?_)
    exact fin
 ·exact fin
noncomputable def mem_notes (c0:GConf)(l0:List GEntry):Option ((List GEntry)):=
 if 0≤(max 0 (wr ((List.length l0:Int)-64)))∧(max 0 (wr ((List.length l0:Int)-64)))≤((List.length l0):Nat)then
  (mem_notes_0 c0 (List.drop (Int.toNat (max 0 (wr ((List.length l0:Int)-64)))) l0) (List.length (List.drop (Int.toNat (max 0 (wr ((List.length l0:Int)-64)))) l0):Int) ([]:List GEntry) 0).bind fun r2=>
  some r2
 else none
instance mem_notes_sim (c0:GConf)(l0:List GEntry):HE (lav GEntry.av) (mem_notes c0 l0) 219 [GConf.av c0,lav GEntry.av l0]:=⟨by
 unfold mem_notes
 refine sv fun S hS hw hw8 R hR=> ?_
 simp only[hw]
 refine au ?_
 refine Sim.ki hS (m:=(List.length l0:Int)) (by simp) ?_
 refine au ?_
 first|(refine Sim.goB (headE_map (by intro _;rfl) _) ?_)|skip
 refine au ?_
 refine Sim.kn hS (m:=(List.length l0)) (by simp) ?_
 refine au ?_
 first|refine Sim.ite Iff.rfl (fun _=> ?_) (fun _=>Sim.no)|refine Sim.guard (fun _=> ?_)
 refine au ?_
 refine Sim.kl hS (ys:=List.map GEntry.av (List.drop (Int.toNat (max 0 (S.wr ((List.length l0:Int)-64)))) l0)) (by simp only[PF.cut,List.map_drop,List.map_take]) ?_
 exact fin⟩
noncomputable def mem_numbers (L0:GConf)(o0:GMem):Option GMem:=
 (ring_Put o0.Clock).bind fun r0=>
 (ring_Put o0.Anchor).bind fun r2=>
 (num_Clamp o0.Since 0 L0.Period).bind fun r3=>
 (conf_Length L0).bind fun r4=>
 (num_Clamp o0.Age 0 r4).bind fun r5=>
 (num_Mod o0.Number L0.Mod).bind fun r6=>
 (num_Clamp o0.Regular 0 2).bind fun r7=>
 (diag_Clean o0.Diag).bind fun r8=>
 some (GMem.mk r0 r2 r3 o0.Pipe r5 o0.Vec o0.Agreed r6 r7 o0.Members o0.Seen o0.Heard o0.Sent o0.Out o0.Line o0.Ports o0.Hold o0.Log r8)
instance mem_numbers_sim (L0:GConf)(o0:GMem):HS (mem_numbers L0 o0) (LM.call 157 [GConf.av L0,.ptr 0 0] [⟨true,GMem.cells o0⟩]) fun r q=>q=(.tup [],[⟨true,GMem.cells r⟩]):=⟨by unfold mem_numbers;exact sa⟩
noncomputable def mem_texts (L0:GConf)(o0:GMem):Option GMem:=
 (pipe_Blank L0).bind fun r0=>
 if List.length o0.Pipe+List.length r0≤9223372036854775807 then
  (conf_Length L0).bind fun r2=>
  (mem_cut (o0.Pipe++r0) r2).bind fun r3=>
  (mem_digits r3 53).bind fun r4=>
  (conf_Bits L0).bind fun r5=>
  (mem_row o0.Vec r5 53).bind fun r6=>
  (conf_Bits L0).bind fun r7=>
  (mem_row o0.Agreed r7 49).bind fun r8=>
  (roster_Mark L0 o0.Members ([]:List Int)).bind fun r9=>
  (roster_Mark L0 o0.Seen ([]:List Int)).bind fun r10=>
  (gate_Mark o0.Heard (List.length L0.Table:Int) ([]:List Int)).bind fun r11=>
  (gate_Mark o0.Sent (List.length L0.Table:Int) ([]:List Int)).bind fun r12=>
  (mem_cut o0.Out 16).bind fun r13=>
  (mem_cut o0.Line 16).bind fun r14=>
  some (GMem.mk o0.Clock o0.Anchor o0.Since r4 o0.Age r6 r8 o0.Number o0.Regular r9 r10 r11 r12 r13 r14 o0.Ports o0.Hold o0.Log o0.Diag)
 else none
instance mem_texts_sim (L0:GConf)(o0:GMem):HS (mem_texts L0 o0) (LM.call 158 [GConf.av L0,.ptr 0 0] [⟨true,GMem.cells o0⟩]) fun r q=>q=(.tup [],[⟨true,GMem.cells r⟩]):=⟨by unfold mem_texts;exact sa⟩
noncomputable def mem_lists_1 (p0:GPort)(o0:GConf):Option (GPort×GConf):=
 (mem_cut p0.Text 16).bind fun r0=>
 (num_Mod p0.Cycle o0.Mod).bind fun r2=>
 (num_Clamp p0.Age 0 o0.Fresh).bind fun r3=>
 some ((GPort.mk r0 r2 r3),o0)
instance mem_lists_1_sim (p0:GPort)(o0:GConf):HS (mem_lists_1 p0 o0) (LM.call 214 [GPort.av p0,.ptr 0 0] [⟨true,GConf.cells o0⟩]) fun r q=>q=(GPort.av r.1,[⟨true,GConf.cells r.2⟩]):=⟨by unfold mem_lists_1;exact sa⟩
noncomputable def mem_each_api_Port_0_step (len:Nat)(x0:List GPort)(x2:Int)(x3:Int)(o2:GConf)(x4:List GPort):Option ((Int×GConf×(List GPort))⊕(GConf×(List GPort))):=
 if x3<x2 then
  (idx? x0 x3).bind fun z0=>
  (mem_lists_1 z0 o2).bind fun r2=>
  if 0≤x3∧x3<((len:Nat):Int)then
   (mod? x4 (Int.toNat x3) (fun _=>r2.1)).bind fun l2=>
   some (.inl ((wr (x3+1)),r2.2,l2))
  else none
 else
  some (.inr (o2,x4))
noncomputable def mem_each_api_Port_0 (len:Nat)(x0:List GPort)(x2:Int)(x3:Int)(o2:GConf)(x4:List GPort):Option (GConf×(List GPort)):=
 loopO (fun s:Int×GConf×(List GPort)=>mem_each_api_Port_0_step len x0 x2 s.1 s.2.1 s.2.2) (x3,o2,x4)
def mem_each_api_Port_0_pre (len:Nat)(x0:List GPort)(x2:Int)(v:Int×GConf×(List GPort))(e:PF.St):Prop:=e=⟨[(2,.fn 214 [.ptr 0 0]),(9,.arr 1720 0 len 3 true),(19,lav GPort.av x0),(20,iav x2),(21,iav v.1)],[(0,⟨true,GConf.cells v.2.1⟩),(1720,⟨true,(List.flatMap GPort.cells v.2.2)⟩)]⟩
instance mem_each_api_Port_0_sim (len:Nat)(x0:List GPort)(x2:Int)(x3:Int)(o2:GConf)(x4:List GPort):HL (mem_each_api_Port_0 len x0 x2 x3 o2 x4) LM ([2,9,19,20,21],[1720,1721,1722,1723],[9],B213_0) (mem_each_api_Port_0_pre len x0 x2 (x3,o2,x4)) (rE fun r=>((.exit 0),⟨[(9,.arr 1720 0 len 3 true)],[(0,⟨true,GConf.cells r.1⟩),(1720,⟨true,(List.flatMap GPort.cells r.2)⟩)]⟩)):=by
 refine lv (mem_each_api_Port_0_pre len x0 x2) _ fun S hS hw hw8 R hR=> ?_
 rintro⟨x3,o2,x4⟩ env hp he
 cases he
 show Sim (mem_each_api_Port_0_step len x0 x2 x3 o2 x4) _ _
 unfold mem_each_api_Port_0_step
 simp only[hw]
 refine au (.ite Iff.rfl (fun hc2=> ?_) fun hc2=> ?_)
 ·refine au ?_
  refine Sim.ix (by simp) (fun z0 hz0=> ?_)
  refine au ?_
  refine Sim.go (idx_map _ hz0) ?_
  refine au (.hc hR ?_)
  rintro r2 q rfl
  refine au ?_
  first|refine Sim.ite Iff.rfl (fun _=> ?_) (fun _=>Sim.no)|refine Sim.guard (fun _=> ?_)
  refine au ?_
  refine Sim.opt (store_fm (u:=(fun _=>r2.1)) (k:=0) (e:=3) (m:=(Int.toNat x3)) (fun _=>rfl) (by omega) (by simp) (fun _=>rfl)) (fun l2 _=> ?_)
  exact fin
 ·exact fin
noncomputable def mem_each_api_Port (l0:List GPort)(n0:Int)(other:List GPort)(o0:GConf):Option ((List GPort)×GConf):=
 if(List.length l0:Int)≠n0 then
  some (other,o0)
 else
  (slices_Clone_api_Port_api_Port l0).bind fun r0=>
  (mem_each_api_Port_0 (List.length r0) l0 (List.length l0:Int) 0 o0 r0).bind fun r3=>
  (sub? r3.2 0 (List.length r0)).bind fun l3=>
  some (l3,r3.1)
instance mem_each_api_Port_sim (l0:List GPort)(n0:Int)(other:List GPort)(o0:GConf):HS (mem_each_api_Port l0 n0 other o0) (LM.call 213 [lav GPort.av l0,iav n0,.fn 214 [.ptr 0 0],lav GPort.av other] [⟨true,GConf.cells o0⟩]) fun r q=>q=(lav GPort.av r.1,[⟨true,GConf.cells r.2⟩]):=⟨by
 unfold mem_each_api_Port
 refine sv fun S hS hw hw8 R hR=> ?_
 refine au ?_
 refine Sim.ki hS (m:=(List.length l0:Int)) (by simp) ?_
 refine au (.ite Iff.rfl (fun hc=> ?_) fun hc=> ?_)
 ·exact fin
 ·refine au (cE hR (slices_Clone_api_Port_api_Port_sim l0 .no) fun r0=> ?_)
  refine au ?_
  refine Sim.kfl (Flat.ren (Flat.fm (fun _=>Flat.of rfl) _) _) ?_
  refine au ?_
  refine Sim.ki hS (m:=(List.length l0:Int)) (by simp) ?_
  refine au ?_
  refine Sim.hl hR kp pz ?_
  rintro r3 q rfl
  refine au ?_
  refine Sim.opt (elems_fm (g:=GPort.av) (e:=3) (b:=0) (fun _=>rfl) (fun _=>rfl) (fun _=>rfl) (by decide) (by omega)) (fun l3 _=> ?_)
  exact fin⟩
noncomputable def mem_each_string_0_step (len:Nat)(x0:List (List UInt8))(x2:Int)(x3:Int)(x4:List (List UInt8)):Option ((Int×(List (List UInt8)))⊕((List (List UInt8)))):=
 if x3<x2 then
  (idx? x0 x3).bind fun z0=>
  (mem_lists_2 z0).bind fun r2=>
  if 0≤x3∧x3<((len:Nat):Int)then
   (mod? x4 (Int.toNat x3) (fun _=>r2)).bind fun l2=>
   some (.inl ((wr (x3+1)),l2))
  else none
 else
  some (.inr x4)
noncomputable def mem_each_string_0 (len:Nat)(x0:List (List UInt8))(x2:Int)(x3:Int)(x4:List (List UInt8)):Option ((List (List UInt8))):=
 loopO (fun s:Int×(List (List UInt8))=>mem_each_string_0_step len x0 x2 s.1 s.2) (x3,x4)
def mem_each_string_0_pre (len:Nat)(x0:List (List UInt8))(x2:Int)(v:Int×(List (List UInt8)))(e:PF.St):Prop:=e=⟨[(2,.fn 217 []),(9,.arr 1720 0 len 1 false),(19,lav sav x0),(20,iav x2),(21,iav v.1)],[(1720,⟨true,(List.map sav v.2)⟩)]⟩
instance mem_each_string_0_sim (len:Nat)(x0:List (List UInt8))(x2:Int)(x3:Int)(x4:List (List UInt8)):HL (mem_each_string_0 len x0 x2 x3 x4) LM ([2,9,19,20,21],[1720,1721,1722,1723],[9],B216_0) (mem_each_string_0_pre len x0 x2 (x3,x4)) (rE fun r=>((.exit 0),⟨[(9,.arr 1720 0 len 1 false)],[(1720,⟨true,(List.map sav r)⟩)]⟩)):=by
 refine lv (mem_each_string_0_pre len x0 x2) _ fun S hS hw hw8 R hR=> ?_
 rintro⟨x3,x4⟩ env hp he
 cases he
 show Sim (mem_each_string_0_step len x0 x2 x3 x4) _ _
 unfold mem_each_string_0_step
 simp only[hw]
 refine au (.ite Iff.rfl (fun hc2=> ?_) fun hc2=> ?_)
 ·refine au ?_
  refine Sim.ix (by simp) (fun z0 hz0=> ?_)
  refine au ?_
  refine Sim.go (idx_map _ hz0) ?_
  refine au (.hc hR ?_)
  rintro r2 q rfl
  refine au ?_
  first|refine Sim.ite Iff.rfl (fun _=> ?_) (fun _=>Sim.no)|refine Sim.guard (fun _=> ?_)
  refine au ?_
  refine Sim.opt (store_map (u:=(fun _=>r2)) (m:=(Int.toNat x3)) (by omega) (fun _=>rfl)) (fun l2 _=> ?_)
  exact fin
 ·exact fin
noncomputable def mem_each_string (l0:List (List UInt8))(n0:Int)(other:List (List UInt8)):Option ((List (List UInt8))):=
 if(List.length l0:Int)≠n0 then
  some other
 else
  (slices_Clone_string_string l0).bind fun r0=>
  (mem_each_string_0 (List.length r0) l0 (List.length l0:Int) 0 r0).bind fun r3=>
  (sub? r3 0 (List.length r0)).bind fun l3=>
  some l3
instance mem_each_string_sim (l0:List (List UInt8))(n0:Int)(other:List (List UInt8)):HE (lav sav) (mem_each_string l0 n0 other) 216 [lav sav l0,iav n0,.fn 217 [],lav sav other]:=⟨by
 unfold mem_each_string
 refine sv fun S hS hw hw8 R hR=> ?_
 refine au ?_
 refine Sim.ki hS (m:=(List.length l0:Int)) (by simp) ?_
 refine au (.ite Iff.rfl (fun hc=> ?_) fun hc=> ?_)
 ·exact fin
 ·refine au (cE hR (slices_Clone_string_string_sim l0 .no) fun r0=> ?_)
  refine au ?_
  refine Sim.kfl (Flat.ren (Flat.map (fun _=>rfl) _) _) ?_
  refine au ?_
  refine Sim.ki hS (m:=(List.length l0:Int)) (by simp) ?_
  refine au ?_
  refine Sim.hl hR kp pz ?_
  rintro r3 q rfl
  refine au ?_
  refine Sim.opt (elems_map (f:=sav) (b:=0) (fun _=>⟨rfl,rfl⟩) (by omega)) (fun l3 _=> ?_)
  exact fin⟩
noncomputable def mem_lists (c0:GConf)(o0:GMem):Option GMem:=
 (port_Blank c0).bind fun r0=>
 (mem_each_api_Port o0.Ports c0.N r0 c0).bind fun r2=>
 (hold_Empty r2.2).bind fun r3=>
 (mem_each_string o0.Hold (wr (r2.2.N*r2.2.D)) r3).bind fun r4=>
 (mem_notes r2.2 o0.Log).bind fun r5=>
 some (GMem.mk o0.Clock o0.Anchor o0.Since o0.Pipe o0.Age o0.Vec o0.Agreed o0.Number o0.Regular o0.Members o0.Seen o0.Heard o0.Sent o0.Out o0.Line r2.1 r4 r5 o0.Diag)
instance mem_lists_sim (c0:GConf)(o0:GMem):HS (mem_lists c0 o0) (LM.call 159 [GConf.av c0,.ptr 0 0] [⟨true,GMem.cells o0⟩]) fun r q=>q=(.tup [],[⟨true,GMem.cells r⟩]):=⟨by unfold mem_lists;exact sa⟩
noncomputable def mem_Mend (c0:GConf)(m0:GMem):Option GMem:=
 (conf_Plain c0).bind fun r0=>
 if r0≠0 then
  some (GMem.mk 0 0 0 ([]:List UInt8) 0 ([]:List UInt8) ([]:List UInt8) 0 0 ([]:List UInt8) ([]:List UInt8) ([]:List UInt8) ([]:List UInt8) ([]:List UInt8) ([]:List UInt8) ([]:List GPort) ([]:List (List UInt8)) ([]:List GEntry) (Ar6.mk 0 0 0 0 0 0))
 else
  (mem_numbers c0 m0).bind fun r2=>
  (mem_texts c0 r2).bind fun r3=>
  (mem_lists c0 r3).bind fun r4=>
  some r4
instance mem_Mend_sim (c0:GConf)(m0:GMem):HE GMem.av (mem_Mend c0 m0) 94 [GConf.av c0,GMem.av m0]:=⟨by unfold mem_Mend;exact sa⟩
noncomputable def image_reader_byte (o0:Gimage_recall):Option (Int×Gimage_recall):=
 (num_Get o0.f_reader.f_s o0.f_reader.f_at 1).bind fun r0=>
 if r0.2≠0 then
  some (0,(Gimage_recall.mk (Gimage_reader.mk o0.f_reader.f_s (wr (o0.f_reader.f_at+1))) o0.f_c))
 else
  some (r0.1,(Gimage_recall.mk (Gimage_reader.mk o0.f_reader.f_s (wr (o0.f_reader.f_at+1))) o0.f_c))
instance image_reader_byte_sim (o0:Gimage_recall):HS (image_reader_byte o0) (LM.call 152 [.ptr 0 0] [⟨true,Gimage_recall.cells o0⟩]) fun r q=>q=(iav r.1,[⟨true,Gimage_recall.cells r.2⟩]):=⟨by unfold image_reader_byte;exact sa⟩
noncomputable def image_reader_word (o0:Gimage_recall):Option (Int×Gimage_recall):=
 (image_reader_byte o0).bind fun r0=>
 (image_reader_byte r0.2).bind fun r2=>
 some ((wr (r0.1+(wr (256*r2.1)))),r2.2)
instance image_reader_word_sim (o0:Gimage_recall):HS (image_reader_word o0) (LM.call 151 [.ptr 0 0] [⟨true,Gimage_recall.cells o0⟩]) fun r q=>q=(iav r.1,[⟨true,Gimage_recall.cells r.2⟩]):=⟨by unfold image_reader_word;exact sa⟩
noncomputable def image_recall_numbers (o0:Gimage_recall)(o2:GMem):Option (Gimage_recall×GMem):=
 (image_reader_word o0).bind fun r0=>
 (image_reader_word r0.2).bind fun r2=>
 (image_reader_word r2.2).bind fun r3=>
 (image_reader_byte r3.2).bind fun r4=>
 (image_reader_byte r4.2).bind fun r5=>
 (image_reader_byte r5.2).bind fun r6=>
 some (r6.2,(GMem.mk r0.1 r2.1 r3.1 o2.Pipe r4.1 o2.Vec o2.Agreed r5.1 r6.1 o2.Members o2.Seen o2.Heard o2.Sent o2.Out o2.Line o2.Ports o2.Hold o2.Log o2.Diag))
instance image_recall_numbers_sim (o0:Gimage_recall)(o2:GMem):HG (image_recall_numbers o0 o2) LM 91 (fun a hs=> ∃g0,∃g2,∃g3,a=[.ptr 0 0,.ptr 1 0]∧hs=[⟨true,Gimage_recall.cells o0⟩,⟨true,[iav o2.Clock,iav o2.Anchor,iav o2.Since,.str o2.Pipe,iav o2.Age,.str o2.Vec,.str o2.Agreed,iav o2.Number,iav o2.Regular,.str o2.Members,.str o2.Seen,.str o2.Heard,.str o2.Sent,.str o2.Out,.str o2.Line,.lst g0 (List.map GPort.av o2.Ports),.lst g2 (List.map sav o2.Hold),.lst g3 (List.map GEntry.av o2.Log),iav o2.Diag.a0,iav o2.Diag.a1,iav o2.Diag.a2,iav o2.Diag.a3,iav o2.Diag.a4,iav o2.Diag.a5]⟩]∧Mg 3 g0∧Mg 1 g2∧Mg 2 g3) fun r q=> ∃g0,∃g1,∃g2,q=(.tup [],[⟨true,Gimage_recall.cells r.1⟩,⟨true,[iav r.2.Clock,iav r.2.Anchor,iav r.2.Since,.str r.2.Pipe,iav r.2.Age,.str r.2.Vec,.str r.2.Agreed,iav r.2.Number,iav r.2.Regular,.str r.2.Members,.str r.2.Seen,.str r.2.Heard,.str r.2.Sent,.str r.2.Out,.str r.2.Line,.lst g0 (List.map GPort.av r.2.Ports),.lst g1 (List.map sav r.2.Hold),.lst g2 (List.map GEntry.av r.2.Log),iav r.2.Diag.a0,iav r.2.Diag.a1,iav r.2.Diag.a2,iav r.2.Diag.a3,iav r.2.Diag.a4,iav r.2.Diag.a5]⟩])∧Mg 3 g0∧Mg 1 g1∧Mg 2 g2:=⟨by
 rintro _ _ ⟨g0,g2,g3,rfl,rfl,hg0,hg2,hg3⟩
 unfold image_recall_numbers
 refine sv fun S hS hw hw8 R hR=> ?_
 exact fin⟩
noncomputable def image_reader_raw_0_step (len:Nat)(x0:Int)(x2:Int)(x3:List Int)(o2:Gimage_recall):Option ((Int×(List Int)×Gimage_recall)⊕((List Int)×Gimage_recall)):=
 if x2<x0 then
  (image_reader_byte o2).bind fun r0=>
  if 0≤x2∧x2<((len:Nat):Int)then
   (mod? x3 (Int.toNat x2) (fun _=>(w8 r0.1))).bind fun l0=>
   some (.inl ((wr (x2+1)),l0,r0.2))
  else none
 else
  some (.inr (x3,o2))
noncomputable def image_reader_raw_0 (len:Nat)(x0:Int)(x2:Int)(x3:List Int)(o2:Gimage_recall):Option ((List Int)×Gimage_recall):=
 loopO (fun s:Int×(List Int)×Gimage_recall=>image_reader_raw_0_step len x0 s.1 s.2.1 s.2.2) (x2,x3,o2)
def image_reader_raw_0_pre (len:Nat)(x0:Int)(v:Int×(List Int)×Gimage_recall)(e:PF.St):Prop:=e=⟨[(0,.ptr 0 0),(5,.arr 108 0 len 1 false),(10,iav x0),(11,iav v.1)],[(108,⟨true,(List.map u8av v.2.1)⟩),(0,⟨true,Gimage_recall.cells v.2.2⟩)]⟩
instance image_reader_raw_0_sim (len:Nat)(x0:Int)(x2:Int)(x3:List Int)(o2:Gimage_recall):HL (image_reader_raw_0 len x0 x2 x3 o2) LM ([0,5,10,11],[108],[5],B153_0) (image_reader_raw_0_pre len x0 (x2,x3,o2)) (rE fun r=>((.exit 0),⟨[(5,.arr 108 0 len 1 false)],[(108,⟨true,(List.map u8av r.1)⟩),(0,⟨true,Gimage_recall.cells r.2⟩)]⟩)):=by
 refine lv (image_reader_raw_0_pre len x0) _ fun S hS hw hw8 R hR=> ?_
 rintro⟨x2,x3,o2⟩ env hp he
 cases he
 show Sim (image_reader_raw_0_step len x0 x2 x3 o2) _ _
 unfold image_reader_raw_0_step
 simp only[hw,hw8]
 refine au (.ite Iff.rfl (fun hc=> ?_) fun hc=> ?_)
 ·refine au (.hc hR ?_)
  rintro r0 q rfl
  refine au ?_
  first|refine Sim.ite Iff.rfl (fun _=> ?_) (fun _=>Sim.no)|refine Sim.guard (fun _=> ?_)
  refine au ?_
  refine Sim.opt (store_map (u:=(fun _=>(S.w8 r0.1))) (m:=(Int.toNat x2)) (by omega) (fun _=>rfl)) (fun l0 _=> ?_)
  exact fin
 ·exact fin
noncomputable def image_reader_raw (n0:Int)(o0:Gimage_recall):Option ((List UInt8)×Gimage_recall):=
 if 0≤n0∧n0≤lenMax then
  (image_reader_raw_0 (Int.toNat n0) (((Int.toNat n0):Nat):Int) 0 (List.replicate (Int.toNat n0) 0) o0).bind fun r2=>
  (sub? r2.1 0 (Int.toNat n0)).bind fun y0=>
  some ((bytesOf y0),r2.2)
 else none
instance image_reader_raw_sim (n0:Int)(o0:Gimage_recall):HS (image_reader_raw n0 o0) (LM.call 153 [.ptr 0 0,iav n0] [⟨true,Gimage_recall.cells o0⟩]) fun r q=>q=(.str r.1,[⟨true,Gimage_recall.cells r.2⟩]):=⟨by
 unfold image_reader_raw
 refine sv fun S hS hw hw8 R hR=> ?_
 refine au ?_
 first|refine Sim.ite Iff.rfl (fun _=> ?_) (fun _=>Sim.no)|refine Sim.guard (fun _=> ?_)
 refine au ?_
 refine Sim.kl hS (rep_map (f:=u8av) 0 _ rfl _) ?_
 refine au ?_
 refine Sim.hl hR kp pz ?_
 rintro r2 q rfl
 refine au ?_
 refine Sim.sub (f:=u8av) rfl (fun y0 hy0=> ?_)
 refine au ?_
 refine Sim.go (by rw[hy0];exact bytes_mapM _) ?_
 exact fin⟩
noncomputable def image_reader_maybe (n0:Int)(o0:Gimage_recall):Option ((List UInt8)×Gimage_recall):=
 (image_reader_byte o0).bind fun r0=>
 if(Int.tmod r0.1 2)=0 then
  some (([]:List UInt8),r0.2)
 else
  (image_reader_raw n0 r0.2).bind fun r2=>
  some (r2.1,r2.2)
instance image_reader_maybe_sim (n0:Int)(o0:Gimage_recall):HS (image_reader_maybe n0 o0) (LM.call 154 [.ptr 0 0,iav n0] [⟨true,Gimage_recall.cells o0⟩]) fun r q=>q=(.str r.1,[⟨true,Gimage_recall.cells r.2⟩]):=⟨by unfold image_reader_maybe;exact sa⟩
noncomputable def image_reader_text (most:Int)(o0:Gimage_recall):Option ((List UInt8)×Gimage_recall):=
 (image_reader_byte o0).bind fun r0=>
 if(wr (most+1))=0 then none else
 (image_reader_raw (Int.tmod r0.1 (wr (most+1))) r0.2).bind fun r2=>
 some (r2.1,r2.2)
instance image_reader_text_sim (most:Int)(o0:Gimage_recall):HS (image_reader_text most o0) (LM.call 156 [.ptr 0 0,iav most] [⟨true,Gimage_recall.cells o0⟩]) fun r q=>q=(.str r.1,[⟨true,Gimage_recall.cells r.2⟩]):=⟨by unfold image_reader_text;exact sa⟩
noncomputable def image_recall_texts (o0:Gimage_recall)(o2:GMem):Option (Gimage_recall×GMem):=
 (conf_Length o0.f_c).bind fun r0=>
 (image_reader_raw r0 o0).bind fun r2=>
 (conf_Bits r2.2.f_c).bind fun r3=>
 (image_reader_maybe r3 r2.2).bind fun r4=>
 (conf_Bits r4.2.f_c).bind fun r5=>
 (image_reader_maybe r5 r4.2).bind fun r6=>
 (image_reader_raw r6.2.f_c.N r6.2).bind fun r7=>
 (image_reader_raw r7.2.f_c.N r7.2).bind fun r8=>
 (image_reader_raw (List.length r8.2.f_c.Table:Int) r8.2).bind fun r9=>
 (image_reader_raw (List.length r9.2.f_c.Table:Int) r9.2).bind fun r10=>
 (image_reader_text 16 r10.2).bind fun r11=>
 (image_reader_text 16 r11.2).bind fun r12=>
 some (r12.2,(GMem.mk o2.Clock o2.Anchor o2.Since r2.1 o2.Age r4.1 r6.1 o2.Number o2.Regular r7.1 r8.1 r9.1 r10.1 r11.1 r12.1 o2.Ports o2.Hold o2.Log o2.Diag))
instance image_recall_texts_sim (o0:Gimage_recall)(o2:GMem):HG (image_recall_texts o0 o2) LM 92 (fun a hs=> ∃g0,∃g2,∃g3,a=[.ptr 0 0,.ptr 1 0]∧hs=[⟨true,Gimage_recall.cells o0⟩,⟨true,[iav o2.Clock,iav o2.Anchor,iav o2.Since,.str o2.Pipe,iav o2.Age,.str o2.Vec,.str o2.Agreed,iav o2.Number,iav o2.Regular,.str o2.Members,.str o2.Seen,.str o2.Heard,.str o2.Sent,.str o2.Out,.str o2.Line,.lst g0 (List.map GPort.av o2.Ports),.lst g2 (List.map sav o2.Hold),.lst g3 (List.map GEntry.av o2.Log),iav o2.Diag.a0,iav o2.Diag.a1,iav o2.Diag.a2,iav o2.Diag.a3,iav o2.Diag.a4,iav o2.Diag.a5]⟩]∧Mg 3 g0∧Mg 1 g2∧Mg 2 g3) fun r q=> ∃g0,∃g1,∃g2,q=(.tup [],[⟨true,Gimage_recall.cells r.1⟩,⟨true,[iav r.2.Clock,iav r.2.Anchor,iav r.2.Since,.str r.2.Pipe,iav r.2.Age,.str r.2.Vec,.str r.2.Agreed,iav r.2.Number,iav r.2.Regular,.str r.2.Members,.str r.2.Seen,.str r.2.Heard,.str r.2.Sent,.str r.2.Out,.str r.2.Line,.lst g0 (List.map GPort.av r.2.Ports),.lst g1 (List.map sav r.2.Hold),.lst g2 (List.map GEntry.av r.2.Log),iav r.2.Diag.a0,iav r.2.Diag.a1,iav r.2.Diag.a2,iav r.2.Diag.a3,iav r.2.Diag.a4,iav r.2.Diag.a5]⟩])∧Mg 3 g0∧Mg 1 g1∧Mg 2 g2:=⟨by
 rintro _ _ ⟨g0,g2,g3,rfl,rfl,hg0,hg2,hg3⟩
 unfold image_recall_texts
 refine sv fun S hS hw hw8 R hR=> ?_
 exact fin⟩
noncomputable def image_recall_lists_0_step (x0:Int)(x2:Int)(o3:Gimage_recall)(o4:GMem):Option ((Int×Gimage_recall×GMem)⊕(Gimage_recall×GMem)):=
 if x2<x0 then
  (image_reader_text 16 o3).bind fun r0=>
  (image_reader_byte r0.2).bind fun r2=>
  (image_reader_byte r2.2).bind fun r3=>
  if List.length o4.Ports+List.length [(GPort.mk r0.1 r2.1 r3.1)]≤lenMax then
   some (.inl ((wr (x2+1)),r3.2,(GMem.mk o4.Clock o4.Anchor o4.Since o4.Pipe o4.Age o4.Vec o4.Agreed o4.Number o4.Regular o4.Members o4.Seen o4.Heard o4.Sent o4.Out o4.Line (o4.Ports++[(GPort.mk r0.1 r2.1 r3.1)]) o4.Hold o4.Log o4.Diag)))
  else none
 else
  some (.inr (o3,o4))
noncomputable def image_recall_lists_0 (x0:Int)(x2:Int)(o3:Gimage_recall)(o4:GMem):Option (Gimage_recall×GMem):=
 loopO (fun s:Int×Gimage_recall×GMem=>image_recall_lists_0_step x0 s.1 s.2.1 s.2.2) (x2,o3,o4)
def image_recall_lists_0_pre (x0:Int)(v:Int×Gimage_recall×GMem)(e:PF.St):Prop:= ∃g4,∃g5,∃g6,e=⟨[(0,.ptr 0 0),(1,.ptr 1 0),(12,iav x0),(13,iav v.1)],[(0,⟨true,Gimage_recall.cells v.2.1⟩),(1,⟨true,[iav v.2.2.Clock,iav v.2.2.Anchor,iav v.2.2.Since,.str v.2.2.Pipe,iav v.2.2.Age,.str v.2.2.Vec,.str v.2.2.Agreed,iav v.2.2.Number,iav v.2.2.Regular,.str v.2.2.Members,.str v.2.2.Seen,.str v.2.2.Heard,.str v.2.2.Sent,.str v.2.2.Out,.str v.2.2.Line,.lst g4 (List.map GPort.av v.2.2.Ports),.lst g5 (List.map sav v.2.2.Hold),.lst g6 (List.map GEntry.av v.2.2.Log),iav v.2.2.Diag.a0,iav v.2.2.Diag.a1,iav v.2.2.Diag.a2,iav v.2.2.Diag.a3,iav v.2.2.Diag.a4,iav v.2.2.Diag.a5]⟩)]⟩∧Mg 3 g4∧Mg 1 g5∧Mg 2 g6
instance image_recall_lists_0_sim (x0:Int)(x2:Int)(o3:Gimage_recall)(o4:GMem):HL (image_recall_lists_0 x0 x2 o3 o4) LM ([0,1,12,13],[],[0,1],B93_0) (image_recall_lists_0_pre x0 (x2,o3,o4)) (fun r (q:Ex×PF.St)=> ∃g0',∃g1',∃g2',q=((.exit 0),⟨[(0,.ptr 0 0),(1,.ptr 1 0)],[(0,⟨true,Gimage_recall.cells r.1⟩),(1,⟨true,[iav r.2.Clock,iav r.2.Anchor,iav r.2.Since,.str r.2.Pipe,iav r.2.Age,.str r.2.Vec,.str r.2.Agreed,iav r.2.Number,iav r.2.Regular,.str r.2.Members,.str r.2.Seen,.str r.2.Heard,.str r.2.Sent,.str r.2.Out,.str r.2.Line,.lst g0' (List.map GPort.av r.2.Ports),.lst g1' (List.map sav r.2.Hold),.lst g2' (List.map GEntry.av r.2.Log),iav r.2.Diag.a0,iav r.2.Diag.a1,iav r.2.Diag.a2,iav r.2.Diag.a3,iav r.2.Diag.a4,iav r.2.Diag.a5]⟩)]⟩)∧Mg 3 g0'∧Mg 1 g1'∧Mg 2 g2'):=by
 refine lv (image_recall_lists_0_pre x0) _ fun S hS hw hw8 R hR=> ?_
 rintro⟨x2,o3,o4⟩ env hp ⟨g4,g5,g6,he,hg4,hg5,hg6⟩
 cases he
 show Sim (image_recall_lists_0_step x0 x2 o3 o4) _ _
 unfold image_recall_lists_0_step
 simp only[hw]
 refine au (.ite Iff.rfl (fun hc=> ?_) fun hc=> ?_)
 ·refine au (.hc hR ?_)
  rintro r0 q rfl
  refine au (.hc hR ?_)
  rintro r2 q rfl
  refine au (.hc hR ?_)
  rintro r3 q rfl
  refine au ?_
  refine Sim.kl hS rfl ?_
  refine au ?_
  refine Sim.kl hS (ys:=List.map GPort.av [(GPort.mk r0.1 r2.1 r3.1)]) rfl ?_
  refine au ?_
  first|(refine Sim.goB (may_map (by intro _;rfl) hg4 _) ?_)|skip
  refine au ?_
  first|(refine Sim.goB (okE_map (by intro _;exact⟨rfl,rfl,rfl⟩) _) ?_)|skip
  refine au ?_
  first|refine Sim.ite (by simp) (fun _=> ?_) (fun _=>Sim.no)|refine Sim.guard (fun _=> ?_)
  exact fin
 ·exact fin
noncomputable def image_recall_lists_1_step (x3:Int)(x4:Int)(o5:Gimage_recall)(o6:GMem):Option ((Int×Gimage_recall×GMem)⊕(Gimage_recall×GMem)):=
 if x4<x3 then
  (image_reader_text 40 o5).bind fun r5=>
  if List.length o6.Hold+List.length [r5.1]≤lenMax then
   some (.inl ((wr (x4+1)),r5.2,(GMem.mk o6.Clock o6.Anchor o6.Since o6.Pipe o6.Age o6.Vec o6.Agreed o6.Number o6.Regular o6.Members o6.Seen o6.Heard o6.Sent o6.Out o6.Line o6.Ports (o6.Hold++[r5.1]) o6.Log o6.Diag)))
  else none
 else
  some (.inr (o5,o6))
noncomputable def image_recall_lists_1 (x3:Int)(x4:Int)(o5:Gimage_recall)(o6:GMem):Option (Gimage_recall×GMem):=
 loopO (fun s:Int×Gimage_recall×GMem=>image_recall_lists_1_step x3 s.1 s.2.1 s.2.2) (x4,o5,o6)
def image_recall_lists_1_pre (x3:Int)(v:Int×Gimage_recall×GMem)(e:PF.St):Prop:= ∃g10,∃g11,∃g12,e=⟨[(0,.ptr 0 0),(1,.ptr 1 0),(51,iav x3),(52,iav v.1)],[(0,⟨true,Gimage_recall.cells v.2.1⟩),(1,⟨true,[iav v.2.2.Clock,iav v.2.2.Anchor,iav v.2.2.Since,.str v.2.2.Pipe,iav v.2.2.Age,.str v.2.2.Vec,.str v.2.2.Agreed,iav v.2.2.Number,iav v.2.2.Regular,.str v.2.2.Members,.str v.2.2.Seen,.str v.2.2.Heard,.str v.2.2.Sent,.str v.2.2.Out,.str v.2.2.Line,.lst g10 (List.map GPort.av v.2.2.Ports),.lst g11 (List.map sav v.2.2.Hold),.lst g12 (List.map GEntry.av v.2.2.Log),iav v.2.2.Diag.a0,iav v.2.2.Diag.a1,iav v.2.2.Diag.a2,iav v.2.2.Diag.a3,iav v.2.2.Diag.a4,iav v.2.2.Diag.a5]⟩)]⟩∧Mg 3 g10∧Mg 1 g11∧Mg 2 g12
instance image_recall_lists_1_sim (x3:Int)(x4:Int)(o5:Gimage_recall)(o6:GMem):HL (image_recall_lists_1 x3 x4 o5 o6) LM ([0,1,51,52],[],[0,1],B93_1) (image_recall_lists_1_pre x3 (x4,o5,o6)) (fun r (q:Ex×PF.St)=> ∃g0',∃g1',∃g2',q=((.exit 2),⟨[(0,.ptr 0 0),(1,.ptr 1 0)],[(0,⟨true,Gimage_recall.cells r.1⟩),(1,⟨true,[iav r.2.Clock,iav r.2.Anchor,iav r.2.Since,.str r.2.Pipe,iav r.2.Age,.str r.2.Vec,.str r.2.Agreed,iav r.2.Number,iav r.2.Regular,.str r.2.Members,.str r.2.Seen,.str r.2.Heard,.str r.2.Sent,.str r.2.Out,.str r.2.Line,.lst g0' (List.map GPort.av r.2.Ports),.lst g1' (List.map sav r.2.Hold),.lst g2' (List.map GEntry.av r.2.Log),iav r.2.Diag.a0,iav r.2.Diag.a1,iav r.2.Diag.a2,iav r.2.Diag.a3,iav r.2.Diag.a4,iav r.2.Diag.a5]⟩)]⟩)∧Mg 3 g0'∧Mg 1 g1'∧Mg 2 g2'):=by
 refine lv (image_recall_lists_1_pre x3) _ fun S hS hw hw8 R hR=> ?_
 rintro⟨x4,o5,o6⟩ env hp ⟨g10,g11,g12,he,hg10,hg11,hg12⟩
 cases he
 show Sim (image_recall_lists_1_step x3 x4 o5 o6) _ _
 unfold image_recall_lists_1_step
 simp only[hw]
 refine au (.ite Iff.rfl (fun hc2=> ?_) fun hc2=> ?_)
 ·refine au (.hc hR ?_)
  rintro r5 q rfl
  refine au ?_
  refine Sim.kl hS rfl ?_
  refine au ?_
  refine Sim.kl hS (ys:=List.map sav [r5.1]) rfl ?_
  refine au ?_
  first|(refine Sim.goB (may_map (by intro _;rfl) hg11 _) ?_)|skip
  refine au ?_
  first|(refine Sim.goB (okE_map (by intro _;exact⟨rfl,rfl,rfl⟩) _) ?_)|skip
  refine au ?_
  first|refine Sim.ite (by simp) (fun _=> ?_) (fun _=>Sim.no)|refine Sim.guard (fun _=> ?_)
  exact fin
 ·exact fin
noncomputable def image_recall_lists_2_step (x5:Int)(x6:Int)(o7:Gimage_recall)(o8:GMem):Option ((Int×Gimage_recall×GMem)⊕(Gimage_recall×GMem)):=
 if x6<x5 then
  (image_reader_byte o7).bind fun r8=>
  if o7.f_c.N=r8.2.f_c.N then
   if r8.2.f_c.N=0 then none else
   (image_reader_word r8.2).bind fun r9=>
   if List.length o8.Log+List.length [(GEntry.mk (Int.tmod r8.1 r8.2.f_c.N) r9.1)]≤lenMax then
    some (.inl ((wr (x6+1)),r9.2,(GMem.mk o8.Clock o8.Anchor o8.Since o8.Pipe o8.Age o8.Vec o8.Agreed o8.Number o8.Regular o8.Members o8.Seen o8.Heard o8.Sent o8.Out o8.Line o8.Ports o8.Hold (o8.Log++[(GEntry.mk (Int.tmod r8.1 r8.2.f_c.N) r9.1)]) o8.Diag)))
   else none
  else none
 else
  some (.inr (o7,o8))
noncomputable def image_recall_lists_2 (x5:Int)(x6:Int)(o7:Gimage_recall)(o8:GMem):Option (Gimage_recall×GMem):=
 loopO (fun s:Int×Gimage_recall×GMem=>image_recall_lists_2_step x5 s.1 s.2.1 s.2.2) (x6,o7,o8)
def image_recall_lists_2_pre (x5:Int)(v:Int×Gimage_recall×GMem)(e:PF.St):Prop:= ∃g16,∃g17,∃g18,e=⟨[(0,.ptr 0 0),(1,.ptr 1 0),(73,iav x5),(74,iav v.1)],[(0,⟨true,Gimage_recall.cells v.2.1⟩),(1,⟨true,[iav v.2.2.Clock,iav v.2.2.Anchor,iav v.2.2.Since,.str v.2.2.Pipe,iav v.2.2.Age,.str v.2.2.Vec,.str v.2.2.Agreed,iav v.2.2.Number,iav v.2.2.Regular,.str v.2.2.Members,.str v.2.2.Seen,.str v.2.2.Heard,.str v.2.2.Sent,.str v.2.2.Out,.str v.2.2.Line,.lst g16 (List.map GPort.av v.2.2.Ports),.lst g17 (List.map sav v.2.2.Hold),.lst g18 (List.map GEntry.av v.2.2.Log),iav v.2.2.Diag.a0,iav v.2.2.Diag.a1,iav v.2.2.Diag.a2,iav v.2.2.Diag.a3,iav v.2.2.Diag.a4,iav v.2.2.Diag.a5]⟩)]⟩∧Mg 3 g16∧Mg 1 g17∧Mg 2 g18
instance image_recall_lists_2_sim (x5:Int)(x6:Int)(o7:Gimage_recall)(o8:GMem):HL (image_recall_lists_2 x5 x6 o7 o8) LM ([0,1,73,74],[],[0,1],B93_2) (image_recall_lists_2_pre x5 (x6,o7,o8)) (fun r (q:Ex×PF.St)=> ∃g0',∃g1',∃g2',q=((.exit 4),⟨[(0,.ptr 0 0),(1,.ptr 1 0)],[(0,⟨true,Gimage_recall.cells r.1⟩),(1,⟨true,[iav r.2.Clock,iav r.2.Anchor,iav r.2.Since,.str r.2.Pipe,iav r.2.Age,.str r.2.Vec,.str r.2.Agreed,iav r.2.Number,iav r.2.Regular,.str r.2.Members,.str r.2.Seen,.str r.2.Heard,.str r.2.Sent,.str r.2.Out,.str r.2.Line,.lst g0' (List.map GPort.av r.2.Ports),.lst g1' (List.map sav r.2.Hold),.lst g2' (List.map GEntry.av r.2.Log),iav r.2.Diag.a0,iav r.2.Diag.a1,iav r.2.Diag.a2,iav r.2.Diag.a3,iav r.2.Diag.a4,iav r.2.Diag.a5]⟩)]⟩)∧Mg 3 g0'∧Mg 1 g1'∧Mg 2 g2'):=by
 refine lv (image_recall_lists_2_pre x5) _ fun S hS hw hw8 R hR=> ?_
 rintro⟨x6,o7,o8⟩ env hp ⟨g16,g17,g18,he,hg16,hg17,hg18⟩
 cases he
 show Sim (image_recall_lists_2_step x5 x6 o7 o8) _ _
 unfold image_recall_lists_2_step
 simp only[hw]
 refine au (.ite Iff.rfl (fun hc3=> ?_) fun hc3=> ?_)
 ·refine au (.hc hR ?_)
  rintro r8 q rfl
  refine au ?_
  first|refine Sim.ite Iff.rfl (fun _=> ?_) (fun _=>Sim.no)|refine Sim.guard (fun _=> ?_)
  refine au ?_
  refine Sim.ite Iff.rfl (fun _=>Sim.no) (fun hc4=> ?_)
  refine au (.hc hR ?_)
  rintro r9 q rfl
  refine au ?_
  refine Sim.kl hS rfl ?_
  refine au ?_
  refine Sim.kl hS (ys:=List.map GEntry.av [(GEntry.mk (Int.tmod r8.1 r8.2.f_c.N) r9.1)]) rfl ?_
  refine au ?_
  first|(refine Sim.goB (may_map (by intro _;rfl) hg18 _) ?_)|skip
  refine au ?_
  first|(refine Sim.goB (okE_map (by intro _;exact⟨rfl,rfl,rfl⟩) _) ?_)|skip
  refine au ?_
  first|refine Sim.ite (by simp) (fun _=> ?_) (fun _=>Sim.no)|refine Sim.guard (fun _=> ?_)
  exact fin
 ·exact fin
noncomputable def image_recall_lists_3_step (x7:Int)(o9:Gimage_recall)(o10:GMem):Option ((Int×Gimage_recall×GMem)⊕(Gimage_recall×GMem)):=
 if x7<6 then
  (image_reader_word o9).bind fun r11=>
  if 0≤x7∧x7<(6:Nat)then
   (Ar6.set? o10.Diag (Int.toNat x7) r11.1).bind fun y0=>
   some (.inl ((wr (x7+1)),r11.2,(GMem.mk o10.Clock o10.Anchor o10.Since o10.Pipe o10.Age o10.Vec o10.Agreed o10.Number o10.Regular o10.Members o10.Seen o10.Heard o10.Sent o10.Out o10.Line o10.Ports o10.Hold o10.Log y0)))
  else none
 else
  some (.inr (o9,o10))
noncomputable def image_recall_lists_3 (x7:Int)(o9:Gimage_recall)(o10:GMem):Option (Gimage_recall×GMem):=
 loopO (fun s:Int×Gimage_recall×GMem=>image_recall_lists_3_step s.1 s.2.1 s.2.2) (x7,o9,o10)
def image_recall_lists_3_pre (v:Int×Gimage_recall×GMem)(e:PF.St):Prop:= ∃g22,∃g23,∃g24,e=⟨[(0,.ptr 0 0),(1,.ptr 1 0),(103,iav v.1)],[(0,⟨true,Gimage_recall.cells v.2.1⟩),(1,⟨true,[iav v.2.2.Clock,iav v.2.2.Anchor,iav v.2.2.Since,.str v.2.2.Pipe,iav v.2.2.Age,.str v.2.2.Vec,.str v.2.2.Agreed,iav v.2.2.Number,iav v.2.2.Regular,.str v.2.2.Members,.str v.2.2.Seen,.str v.2.2.Heard,.str v.2.2.Sent,.str v.2.2.Out,.str v.2.2.Line,.lst g22 (List.map GPort.av v.2.2.Ports),.lst g23 (List.map sav v.2.2.Hold),.lst g24 (List.map GEntry.av v.2.2.Log),iav v.2.2.Diag.a0,iav v.2.2.Diag.a1,iav v.2.2.Diag.a2,iav v.2.2.Diag.a3,iav v.2.2.Diag.a4,iav v.2.2.Diag.a5]⟩)]⟩∧Mg 3 g22∧Mg 1 g23∧Mg 2 g24
instance image_recall_lists_3_sim (x7:Int)(o9:Gimage_recall)(o10:GMem):HL (image_recall_lists_3 x7 o9 o10) LM ([0,1,103],[],[],B93_3) (image_recall_lists_3_pre (x7,o9,o10)) (fun r (q:Ex×PF.St)=> ∃g0',∃g1',∃g2',q=((.exit 6),⟨[],[(0,⟨true,Gimage_recall.cells r.1⟩),(1,⟨true,[iav r.2.Clock,iav r.2.Anchor,iav r.2.Since,.str r.2.Pipe,iav r.2.Age,.str r.2.Vec,.str r.2.Agreed,iav r.2.Number,iav r.2.Regular,.str r.2.Members,.str r.2.Seen,.str r.2.Heard,.str r.2.Sent,.str r.2.Out,.str r.2.Line,.lst g0' (List.map GPort.av r.2.Ports),.lst g1' (List.map sav r.2.Hold),.lst g2' (List.map GEntry.av r.2.Log),iav r.2.Diag.a0,iav r.2.Diag.a1,iav r.2.Diag.a2,iav r.2.Diag.a3,iav r.2.Diag.a4,iav r.2.Diag.a5]⟩)]⟩)∧Mg 3 g0'∧Mg 1 g1'∧Mg 2 g2'):=by
 refine lv image_recall_lists_3_pre _ fun S hS hw hw8 R hR=> ?_
 rintro⟨x7,o9,o10⟩ env hp ⟨g22,g23,g24,he,hg22,hg23,hg24⟩
 cases he
 show Sim (image_recall_lists_3_step x7 o9 o10) _ _
 unfold image_recall_lists_3_step
 simp only[hw]
 refine au (.ite Iff.rfl (fun hc5=> ?_) fun hc5=> ?_)
 ·refine au (.hc hR ?_)
  rintro r11 q rfl
  refine au ?_
  first|refine Sim.ite Iff.rfl (fun hb=> ?_) (fun _=>Sim.no)|refine Sim.guard (fun hb=> ?_)
  refine au ?_
  refine Sim.opt (f:=fun y0=>[iav o10.Clock,iav o10.Anchor,iav o10.Since,.str o10.Pipe,iav o10.Age,.str o10.Vec,.str o10.Agreed,iav o10.Number,iav o10.Regular,.str o10.Members,.str o10.Seen,.str o10.Heard,.str o10.Sent,.str o10.Out,.str o10.Line,.lst g22 (List.map GPort.av o10.Ports),.lst g23 (List.map sav o10.Hold),.lst g24 (List.map GEntry.av o10.Log),iav y0.a0,iav y0.a1,iav y0.a2,iav y0.a3,iav y0.a4,iav y0.a5]) (by have hb':(Int.toNat x7)<6:=(by omega);generalize (Int.toNat x7)=j at hb' ⊢;rcases j with _|_|_|_|_|_|j<;>first|rfl|exact absurd hb' (by omega)) (fun y0 _=> ?_)
  exact fin
 ·exact fin
noncomputable def image_recall_lists (o0:Gimage_recall)(o2:GMem):Option (Gimage_recall×GMem):=
 (image_recall_lists_0 o0.f_c.N 0 o0 o2).bind fun r4=>
 (image_recall_lists_1 (wr (r4.1.f_c.N*r4.1.f_c.D)) 0 r4.1 r4.2).bind fun r6=>
 (image_reader_byte r6.1).bind fun r7=>
 (image_recall_lists_2 (Int.tmod r7.1 65) 0 r7.2 r6.2).bind fun r10=>
 (image_recall_lists_3 0 r10.1 r10.2).bind fun r12=>
 some (r12.1,r12.2)
instance image_recall_lists_sim (o0:Gimage_recall)(o2:GMem):HG (image_recall_lists o0 o2) LM 93 (fun a hs=> ∃g0,∃g2,∃g3,a=[.ptr 0 0,.ptr 1 0]∧hs=[⟨true,Gimage_recall.cells o0⟩,⟨true,[iav o2.Clock,iav o2.Anchor,iav o2.Since,.str o2.Pipe,iav o2.Age,.str o2.Vec,.str o2.Agreed,iav o2.Number,iav o2.Regular,.str o2.Members,.str o2.Seen,.str o2.Heard,.str o2.Sent,.str o2.Out,.str o2.Line,.lst g0 (List.map GPort.av o2.Ports),.lst g2 (List.map sav o2.Hold),.lst g3 (List.map GEntry.av o2.Log),iav o2.Diag.a0,iav o2.Diag.a1,iav o2.Diag.a2,iav o2.Diag.a3,iav o2.Diag.a4,iav o2.Diag.a5]⟩]∧Mg 3 g0∧Mg 1 g2∧Mg 2 g3) fun r q=> ∃g0,∃g1,∃g2,q=(.tup [],[⟨true,Gimage_recall.cells r.1⟩,⟨true,[iav r.2.Clock,iav r.2.Anchor,iav r.2.Since,.str r.2.Pipe,iav r.2.Age,.str r.2.Vec,.str r.2.Agreed,iav r.2.Number,iav r.2.Regular,.str r.2.Members,.str r.2.Seen,.str r.2.Heard,.str r.2.Sent,.str r.2.Out,.str r.2.Line,.lst g0 (List.map GPort.av r.2.Ports),.lst g1 (List.map sav r.2.Hold),.lst g2 (List.map GEntry.av r.2.Log),iav r.2.Diag.a0,iav r.2.Diag.a1,iav r.2.Diag.a2,iav r.2.Diag.a3,iav r.2.Diag.a4,iav r.2.Diag.a5]⟩])∧Mg 3 g0∧Mg 1 g1∧Mg 2 g2:=⟨by
 rintro _ _ ⟨g0,g2,g3,rfl,rfl,hg0,hg2,hg3⟩
 unfold image_recall_lists
 refine sv fun S hS hw hw8 R hR=> ?_
 simp only[hw]
 refine au ?_
 refine Sim.hl hR kp pz ?_
 rintro r4 q ⟨g7,g8,g9,rfl,hg7,hg8,hg9⟩
 refine au ?_
 refine Sim.hl hR kp pz ?_
 rintro r6 q ⟨g13,g14,g15,rfl,hg13,hg14,hg15⟩
 refine au (.hc hR ?_)
 rintro r7 q rfl
 refine au ?_
 refine Sim.hl hR kp pz ?_
 rintro r10 q ⟨g19,g20,g21,rfl,hg19,hg20,hg21⟩
 refine au ?_
 refine Sim.hl hR kp pz ?_
 rintro r12 q ⟨g25,g26,g27,rfl,hg25,hg26,hg27⟩
 exact fin⟩
noncomputable def image_Read (c0:GConf)(s0:List UInt8):Option GMem:=
 (conf_Plain c0).bind fun r0=>
 if r0≠0 then
  some (GMem.mk 0 0 0 ([]:List UInt8) 0 ([]:List UInt8) ([]:List UInt8) 0 0 ([]:List UInt8) ([]:List UInt8) ([]:List UInt8) ([]:List UInt8) ([]:List UInt8) ([]:List UInt8) ([]:List GPort) ([]:List (List UInt8)) ([]:List GEntry) (Ar6.mk 0 0 0 0 0 0))
 else
  (image_recall_numbers (Gimage_recall.mk (Gimage_reader.mk s0 0) c0) (GMem.mk 0 0 0 ([]:List UInt8) 0 ([]:List UInt8) ([]:List UInt8) 0 0 ([]:List UInt8) ([]:List UInt8) ([]:List UInt8) ([]:List UInt8) ([]:List UInt8) ([]:List UInt8) ([]:List GPort) ([]:List (List UInt8)) ([]:List GEntry) (Ar6.mk 0 0 0 0 0 0))).bind fun r2=>
  (image_recall_texts r2.1 r2.2).bind fun r3=>
  (image_recall_lists r3.1 r3.2).bind fun r4=>
  (mem_Mend c0 r4.2).bind fun r5=>
  some r5
instance image_Read_sim (c0:GConf)(s0:List UInt8):HE GMem.av (image_Read c0 s0) 45 [GConf.av c0,.str s0]:=⟨by
 unfold image_Read
 refine sv fun S hS hw hw8 R hR=> ?_
 refine au (.hc hR ?_)
 rintro r0 q rfl
 refine au (.ite Iff.rfl (fun hc=> ?_) fun hc=> ?_)
 ·exact fin
 ·refine au ?_
  refine Sim.hg hR pz ?_
  rintro r2 q ⟨g0,g2,g3,rfl,hg0,hg2,hg3⟩
  refine au ?_
  refine Sim.hg hR pz ?_
  rintro r3 q ⟨g4,g5,g6,rfl,hg4,hg5,hg6⟩
  refine au ?_
  refine Sim.hg hR pz ?_
  rintro r4 q ⟨g7,g8,g9,rfl,hg7,hg8,hg9⟩
  exact fin⟩
noncomputable def script_listed_string (l0:List (List UInt8))(place:Int)(usual:List UInt8):Option ((List UInt8)):=
 if place<(List.length l0:Int)then
  (idx? l0 place).bind fun z0=>
  some z0
 else
  some usual
instance script_listed_string_sim (l0:List (List UInt8))(place:Int)(usual:List UInt8):HE sav (script_listed_string l0 place usual) 96 [lav sav l0,iav place,.str usual]:=⟨by unfold script_listed_string;exact sa⟩
noncomputable def script_Image (s0:GScript)(node:Int):Option ((List UInt8)):=
 (script_is s0.Conf node).bind fun r0=>
 if(!r0)=true then
  some ([]:List UInt8)
 else
  (script_listed_string s0.Images node ([]:List UInt8)).bind fun r2=>
  some r2
instance script_Image_sim (s0:GScript)(node:Int):HE sav (script_Image s0 node) 46 [GScript.av s0,iav node]:=⟨by unfold script_Image;exact sa⟩
noncomputable def judge_Said_0_step (i3:Int)(s3:Int)(t2:GScript)(x4:List GTick)(x5:Int)(x6:Int)(x7:List GBurst)(x8:Int)(r3:GTick)(A2:List UInt8)(x9:Int):Option (((List UInt8)×Int)⊕((List UInt8))):=
 if x9<x8 then
  (idx? x7 x9).bind fun z2=>
  if z2.Node=i3 then
   (image_Read t2.Conf z2.Image).bind fun r4=>
   some (.inl (r4.Out,(wr (x9+1))))
  else
   some (.inl (A2,(wr (x9+1))))
 else
  some (.inr A2)
noncomputable def judge_Said_0 (i3:Int)(s3:Int)(t2:GScript)(x4:List GTick)(x5:Int)(x6:Int)(x7:List GBurst)(x8:Int)(r3:GTick)(A2:List UInt8)(x9:Int):Option ((List UInt8)):=
 loopO (fun s:(List UInt8)×Int=>judge_Said_0_step i3 s3 t2 x4 x5 x6 x7 x8 r3 s.1 s.2) (A2,x9)
def judge_Said_0_pre (i3:Int)(s3:Int)(t2:GScript)(x4:List GTick)(x5:Int)(x6:Int)(x7:List GBurst)(x8:Int)(r3:GTick)(v:(List UInt8)×Int)(e:PF.St):Prop:=e=⟨[(1,iav i3),(2,iav s3),(3,.ept (GScript.cells t2) 0),(7,.str v.1),(9,.ptr 109 0),(32,lav GTick.av x4),(33,iav x5),(34,iav x6),(43,lav GBurst.av x7),(44,iav x8),(45,iav v.2)],[(109,⟨true,GTick.cells r3⟩)]⟩
instance judge_Said_0_sim (i3:Int)(s3:Int)(t2:GScript)(x4:List GTick)(x5:Int)(x6:Int)(x7:List GBurst)(x8:Int)(r3:GTick)(A2:List UInt8)(x9:Int):HL (judge_Said_0 i3 s3 t2 x4 x5 x6 x7 x8 r3 A2 x9) LM ([1,2,3,7,9,32,33,34,43,44,45],[109],[1,2,3,7,9,32,33,34],B13_0) (judge_Said_0_pre i3 s3 t2 x4 x5 x6 x7 x8 r3 (A2,x9)) (rE fun r=>((.exit 2),⟨[(1,iav i3),(2,iav s3),(3,.ept (GScript.cells t2) 0),(7,.str r),(9,.ptr 109 0),(32,lav GTick.av x4),(33,iav x5),(34,iav x6)],[(109,⟨true,GTick.cells r3⟩)]⟩)):=by unfold judge_Said_0 judge_Said_0_step;exact lf
noncomputable def judge_Said_1_step (i4:Int)(s4:Int)(t3:GScript)(x10:List GTick)(x11:Int)(x12:Int)(x13:List GWrite)(x14:Int)(r6:GTick)(A3:List UInt8)(x15:Int):Option (((List UInt8)×Int)⊕((List UInt8))):=
 if x15<x14 then
  (idx? x13 x15).bind fun z3=>
  if z3.Node=i4 then
   some (.inl (z3.Text,(wr (x15+1))))
  else
   some (.inl (A3,(wr (x15+1))))
 else
  some (.inr A3)
noncomputable def judge_Said_1 (i4:Int)(s4:Int)(t3:GScript)(x10:List GTick)(x11:Int)(x12:Int)(x13:List GWrite)(x14:Int)(r6:GTick)(A3:List UInt8)(x15:Int):Option ((List UInt8)):=
 loopO (fun s:(List UInt8)×Int=>judge_Said_1_step i4 s4 t3 x10 x11 x12 x13 x14 r6 s.1 s.2) (A3,x15)
def judge_Said_1_pre (i4:Int)(s4:Int)(t3:GScript)(x10:List GTick)(x11:Int)(x12:Int)(x13:List GWrite)(x14:Int)(r6:GTick)(v:(List UInt8)×Int)(e:PF.St):Prop:=e=⟨[(1,iav i4),(2,iav s4),(3,.ept (GScript.cells t3) 0),(7,.str v.1),(32,lav GTick.av x10),(33,iav x11),(34,iav x12),(61,lav GWrite.av x13),(62,iav x14),(63,iav v.2)],[(109,⟨true,GTick.cells r6⟩)]⟩
instance judge_Said_1_sim (i4:Int)(s4:Int)(t3:GScript)(x10:List GTick)(x11:Int)(x12:Int)(x13:List GWrite)(x14:Int)(r6:GTick)(A3:List UInt8)(x15:Int):HL (judge_Said_1 i4 s4 t3 x10 x11 x12 x13 x14 r6 A3 x15) LM ([1,2,3,7,32,33,34,61,62,63],[109],[1,2,3,7,32,33,34],B13_1) (judge_Said_1_pre i4 s4 t3 x10 x11 x12 x13 x14 r6 (A3,x15)) (rE fun r=>((.exit 4),⟨[(1,iav i4),(2,iav s4),(3,.ept (GScript.cells t3) 0),(7,.str r),(32,lav GTick.av x10),(33,iav x11),(34,iav x12)],[(109,⟨true,GTick.cells r6⟩)]⟩)):=by unfold judge_Said_1 judge_Said_1_step;exact lf
noncomputable def judge_Said_2_step (i2:Int)(s2:Int)(t0:GScript)(x0:List GTick)(x2:Int)(A0:List UInt8)(x3:Int):Option (((List UInt8)×Int)⊕((List UInt8))):=
 if x3<x2 then
  (idx? x0 x3).bind fun z0=>
  if s2<x3 then
   some (.inr A0)
  else
   (judge_Said_0 i2 s2 t0 x0 x2 x3 z0.Bursts (List.length z0.Bursts:Int) z0 A0 0).bind fun r5=>
   (judge_Said_1 i2 s2 t0 x0 x2 x3 z0.Writes (List.length z0.Writes:Int) z0 r5 0).bind fun r7=>
   some (.inl (r7,(wr (x3+1))))
 else
  some (.inr A0)
noncomputable def judge_Said_2 (i2:Int)(s2:Int)(t0:GScript)(x0:List GTick)(x2:Int)(A0:List UInt8)(x3:Int):Option ((List UInt8)):=
 loopO (fun s:(List UInt8)×Int=>judge_Said_2_step i2 s2 t0 x0 x2 s.1 s.2) (A0,x3)
def judge_Said_2_pre (i2:Int)(s2:Int)(t0:GScript)(x0:List GTick)(x2:Int)(v:(List UInt8)×Int)(e:PF.St):Prop:=e=⟨[(1,iav i2),(2,iav s2),(3,.ept (GScript.cells t0) 0),(7,.str v.1),(32,lav GTick.av x0),(33,iav x2),(34,iav v.2)],[]⟩
instance judge_Said_2_sim (i2:Int)(s2:Int)(t0:GScript)(x0:List GTick)(x2:Int)(A0:List UInt8)(x3:Int):HL (judge_Said_2 i2 s2 t0 x0 x2 A0 x3) LM ([1,2,3,7,32,33,34],[],[7],B13_2) (judge_Said_2_pre i2 s2 t0 x0 x2 (A0,x3)) (rE fun r=>((.exit 0),⟨[(7,.str r)],[]⟩)):=by unfold judge_Said_2 judge_Said_2_step;exact lf
noncomputable def judge_Said (L0:GScript)(i0:Int)(s0:Int):Option ((List UInt8)):=
 if i0<0 then
  some ([]:List UInt8)
 else
  if(min L0.Conf.N 13)≤i0 then
   some ([]:List UInt8)
  else
   (script_Image L0 i0).bind fun r0=>
   (image_Read L0.Conf r0).bind fun r2=>
   (judge_Said_2 i0 s0 L0 L0.Ticks (List.length L0.Ticks:Int) r2.Out 0).bind fun r8=>
   some r8
instance judge_Said_sim (L0:GScript)(i0:Int)(s0:Int):HE sav (judge_Said L0 i0 s0) 13 [GScript.av L0,iav i0,iav s0]:=⟨by unfold judge_Said;exact sa⟩
noncomputable def judge_run_round_0_step (i2:Int)(s0:Gjudge_run)(x0:List Int)(x2:Int)(o0:Int)(o2:List UInt8)(len:Nat)(len2:Nat)(t0:GReport)(x6:GRound)(x3:Int)(x4:List (Gr×List GDeliver))(x5:List (List UInt8)):Option ((Int×(List (Gr×List GDeliver))×(List (List UInt8)))⊕((List (Gr×List GDeliver))×(List (List UInt8)))):=
 if x3<x2 then
  (idx? x0 x3).bind fun z3=>
  (judge_Said s0.Script z3 i2).bind fun r2=>
  if 0≤z3∧z3<((len:Nat):Int)then
   (mod? x5 (Int.toNat z3) (fun _=>r2)).bind fun l0=>
   (trace_Got s0.f_rows z3 i2 (wr (i2+s0.Script.Conf.Period))).bind fun r3=>
   if 0≤z3∧z3<((len2:Nat):Int)then
    (mod? x4 (Int.toNat z3) (fun _=>(Gr.no,r3))).bind fun l2=>
    some (.inl ((wr (x3+1)),l2,l0))
   else none
  else none
 else
  some (.inr (x4,x5))
noncomputable def judge_run_round_0 (i2:Int)(s0:Gjudge_run)(x0:List Int)(x2:Int)(o0:Int)(o2:List UInt8)(len:Nat)(len2:Nat)(t0:GReport)(x6:GRound)(x3:Int)(x4:List (Gr×List GDeliver))(x5:List (List UInt8)):Option ((List (Gr×List GDeliver))×(List (List UInt8))):=
 loopO (fun s:Int×(List (Gr×List GDeliver))×(List (List UInt8))=>judge_run_round_0_step i2 s0 x0 x2 o0 o2 len len2 t0 x6 s.1 s.2.1 s.2.2) (x3,x4,x5)
def judge_run_round_0_pre (i2:Int)(s0:Gjudge_run)(x0:List Int)(x2:Int)(o0:Int)(o2:List UInt8)(len:Nat)(len2:Nat)(t0:GReport)(x6:GRound)(v:Int×(List (Gr×List GDeliver))×(List (List UInt8)))(e:PF.St):Prop:= ∃g0,∃g2,e=⟨[(1,iav i2),(2,.ept (Gjudge_run.cells s0) 0),(4,.ptr 104 0),(6,.ptr 106 0),(34,lav iav x0),(35,iav x2),(36,iav v.1)],[(106,⟨true,[iav o0,.str o2,.arr 126 0 len 1 false,.arr 131 0 len2 1 false]⟩),(131,⟨true,(List.map (glv GDeliver.av) v.2.1)⟩),(126,⟨true,(List.map sav v.2.2)⟩),(105,⟨true,GReport.cells t0⟩),(104,⟨true,[iav x6.Number,.str x6.Members,.lst g0 (List.map sav x6.Lines),.lst g2 (List.map (lav GDeliver.av) x6.Got)]⟩)]⟩∧Mg 1 g0∧Mg 1 g2
instance judge_run_round_0_sim (i2:Int)(s0:Gjudge_run)(x0:List Int)(x2:Int)(o0:Int)(o2:List UInt8)(len:Nat)(len2:Nat)(t0:GReport)(x6:GRound)(x3:Int)(x4:List (Gr×List GDeliver))(x5:List (List UInt8)):HL (judge_run_round_0 i2 s0 x0 x2 o0 o2 len len2 t0 x6 x3 x4 x5) LM ([1,2,4,6,34,35,36],[104,105,106,126,131],[4,6],B61_0) (judge_run_round_0_pre i2 s0 x0 x2 o0 o2 len len2 t0 x6 (x3,x4,x5)) (fun r (q:Ex×PF.St)=> ∃g0',∃g1',q=((.exit 0),⟨[(4,.ptr 104 0),(6,.ptr 106 0)],[(106,⟨true,[iav o0,.str o2,.arr 126 0 len 1 false,.arr 131 0 len2 1 false]⟩),(131,⟨true,(List.map (glv GDeliver.av) r.1)⟩),(126,⟨true,(List.map sav r.2)⟩),(105,⟨true,GReport.cells t0⟩),(104,⟨true,[iav x6.Number,.str x6.Members,.lst g0' (List.map sav x6.Lines),.lst g1' (List.map (lav GDeliver.av) x6.Got)]⟩)]⟩)∧Mg 1 g0'∧Mg 1 g1'):=by
 refine lv (judge_run_round_0_pre i2 s0 x0 x2 o0 o2 len len2 t0 x6) _ fun S hS hw hw8 R hR=> ?_
 rintro⟨x3,x4,x5⟩ env hp ⟨g0,g2,he,hg0,hg2⟩
 cases he
 show Sim (judge_run_round_0_step i2 s0 x0 x2 o0 o2 len len2 t0 x6 x3 x4 x5) _ _
 unfold judge_run_round_0_step
 simp only[hw]
 refine au (.ite Iff.rfl (fun hc=> ?_) fun hc=> ?_)
 ·refine au ?_
  refine Sim.ix (by simp) (fun z3 hz3=> ?_)
  refine au ?_
  refine Sim.go (idx_map _ hz3) ?_
  refine au (.hc hR ?_)
  rintro r2 q rfl
  refine au ?_
  first|refine Sim.ite Iff.rfl (fun _=> ?_) (fun _=>Sim.no)|refine Sim.guard (fun _=> ?_)
  refine au ?_
  refine Sim.opt (store_map (u:=(fun _=>r2)) (m:=(Int.toNat z3)) (by omega) (fun _=>rfl)) (fun l0 _=> ?_)
  refine au (.hc hR ?_)
  rintro r3 q rfl
  refine au ?_
  first|refine Sim.ite Iff.rfl (fun _=> ?_) (fun _=>Sim.no)|refine Sim.guard (fun _=> ?_)
  refine au ?_
  refine Sim.opt (store_map (u:=(fun _=>(Gr.no,r3))) (m:=(Int.toNat z3)) (by omega) (fun _=>rfl)) (fun l2 _=> ?_)
  exact fin
 ·exact fin
noncomputable def judge_run_round (L0:Gjudge_run)(i0:Int):Option GRound:=
 (idx? L0.f_rows i0).bind fun z0=>
 (judge_run_first L0).bind fun r0=>
 (idx? z0 r0).bind fun z2=>
 if 0≤L0.Script.Conf.N∧L0.Script.Conf.N≤lenMax then
  if 0≤L0.Script.Conf.N∧L0.Script.Conf.N≤lenMax then
   (judge_run_round_0 i0 L0 L0.f_honest (List.length L0.f_honest:Int) z2.Number z2.Members (Int.toNat L0.Script.Conf.N) (Int.toNat L0.Script.Conf.N) z2 (GRound.mk 0 ([]:List UInt8) ([]:List (List UInt8)) ([]:List (List GDeliver))) 0 (List.replicate (Int.toNat L0.Script.Conf.N) (Gr.full,([]:List GDeliver))) (List.replicate (Int.toNat L0.Script.Conf.N) ([]:List UInt8))).bind fun r4=>
   (sub? r4.2 0 (Int.toNat L0.Script.Conf.N)).bind fun l3=>
   (sub? r4.1 0 (Int.toNat L0.Script.Conf.N)).bind fun l4=>
   some (GRound.mk z2.Number z2.Members l3 (List.map Prod.snd l4))
  else none
 else none
instance judge_run_round_sim (L0:Gjudge_run)(i0:Int):HE GRound.av (judge_run_round L0 i0) 61 [Gjudge_run.av L0,iav i0]:=⟨by
 unfold judge_run_round
 refine sv fun S hS hw hw8 R hR=> ?_
 refine au ?_
 refine Sim.ix (by simp) (fun z0 hz0=> ?_)
 refine au ?_
 refine Sim.go (idx_map _ hz0) ?_
 refine au (.hc hR ?_)
 rintro r0 q rfl
 refine au ?_
 refine Sim.ix (by simp) (fun z2 hz2=> ?_)
 refine au ?_
 refine Sim.go (idx_map _ hz2) ?_
 refine au ?_
 first|refine Sim.ite Iff.rfl (fun _=> ?_) (fun _=>Sim.no)|refine Sim.guard (fun _=> ?_)
 refine au ?_
 refine Sim.kl hS (rep_map (f:=sav) ([]:List UInt8) _ rfl _) ?_
 refine au ?_
 first|refine Sim.ite Iff.rfl (fun _=> ?_) (fun _=>Sim.no)|refine Sim.guard (fun _=> ?_)
 refine au ?_
 refine Sim.kl hS (rep_map (f:=(glv GDeliver.av)) (Gr.full,([]:List GDeliver)) _ rfl _) ?_
 refine au ?_
 refine Sim.ki hS (m:=(List.length L0.f_honest:Int)) (by simp) ?_
 refine au ?_
 refine Sim.hl hR kp pz ?_
 rintro r4 q ⟨g3,g4,rfl,hg3,hg4⟩
 refine au ?_
 refine Sim.opt (elems_map (f:=sav) (b:=0) (fun _=>⟨rfl,rfl⟩) (by omega)) (fun l3 _=> ?_)
 refine au ?_
 refine Sim.opt (elems_mapP Prod.snd (g:=(lav GDeliver.av)) (b:=0) (fun _=>⟨rfl,rfl⟩) (by omega)) (fun l4 _=> ?_)
 exact fin⟩
noncomputable def judge_run_rounds_0_step (r4:Gjudge_run)(x0:List Int)(x2:Int)(out:List GRound)(x3:Int):Option (((List GRound)×Int)⊕((List GRound))):=
 if x3<x2 then
  (idx? x0 x3).bind fun z0=>
  (judge_run_round r4 z0).bind fun r5=>
  if List.length out+List.length [r5]≤lenMax then
   some (.inl ((out++[r5]),(wr (x3+1))))
  else none
 else
  some (.inr out)
noncomputable def judge_run_rounds_0 (r4:Gjudge_run)(x0:List Int)(x2:Int)(out:List GRound)(x3:Int):Option ((List GRound)):=
 loopO (fun s:(List GRound)×Int=>judge_run_rounds_0_step r4 x0 x2 s.1 s.2) (out,x3)
def judge_run_rounds_0_pre (r4:Gjudge_run)(x0:List Int)(x2:Int)(v:(List GRound)×Int)(e:PF.St):Prop:= ∃g0,e=⟨[(1,.ept (Gjudge_run.cells r4) 0),(3,.lst g0 (List.map GRound.av v.1)),(15,lav iav x0),(16,iav x2),(17,iav v.2)],[]⟩∧Mg 4 g0
instance judge_run_rounds_0_sim (r4:Gjudge_run)(x0:List Int)(x2:Int)(out:List GRound)(x3:Int):HL (judge_run_rounds_0 r4 x0 x2 out x3) LM ([1,3,15,16,17],[],[3],B27_0) (judge_run_rounds_0_pre r4 x0 x2 (out,x3)) (fun r (q:Ex×PF.St)=> ∃g0',q=((.exit 0),⟨[(3,.lst g0' (List.map GRound.av r))],[]⟩)∧Mg 4 g0'):=by
 refine lv (judge_run_rounds_0_pre r4 x0 x2) _ fun S hS hw hw8 R hR=> ?_
 rintro⟨out,x3⟩ env hp ⟨g0,he,hg0⟩
 cases he
 show Sim (judge_run_rounds_0_step r4 x0 x2 out x3) _ _
 unfold judge_run_rounds_0_step
 simp only[hw]
 refine au (.ite Iff.rfl (fun hc=> ?_) fun hc=> ?_)
 ·refine au ?_
  refine Sim.ix (by simp) (fun z0 hz0=> ?_)
  refine au ?_
  refine Sim.go (idx_map _ hz0) ?_
  refine au (.hc hR ?_)
  rintro r5 q rfl
  refine au ?_
  refine Sim.kl hS (ys:=List.map GRound.av [r5]) rfl ?_
  refine au ?_
  first|(refine Sim.goB (may_map (by intro _;rfl) hg0 _) ?_)|skip
  refine au ?_
  first|(refine Sim.goB (okE_map (by intro _;exact⟨rfl,rfl,rfl⟩) _) ?_)|skip
  refine au ?_
  first|refine Sim.ite (by simp) (fun _=> ?_) (fun _=>Sim.no)|refine Sim.guard (fun _=> ?_)
  exact fin
 ·exact fin
noncomputable def judge_run_rounds (r0:Gjudge_run):Option ((List GRound)):=
 (judge_run_first r0).bind fun r2=>
 (window_Starts r0.Script.Conf r0.f_rows r2 r0.f_all).bind fun r3=>
 (judge_run_rounds_0 r0 r3 (List.length r3:Int) ([]:List GRound) 0).bind fun r6=>
 some r6
instance judge_run_rounds_sim (r0:Gjudge_run):HE (lav GRound.av) (judge_run_rounds r0) 27 [Gjudge_run.av r0]:=⟨by unfold judge_run_rounds;exact sa⟩
noncomputable def premise_Last (s0:GScript):Option Int:=
 (script_Right s0).bind fun r0=>
 if r0≠0 then
  some (-1)
 else
  (premise_run_last (Gpremise_run.mk s0)).bind fun r2=>
  some r2
instance premise_Last_sim (s0:GScript):HE iav (premise_Last s0) 28 [GScript.av s0]:=⟨by unfold premise_Last;exact sa⟩
noncomputable def premise_Settled (s0:GScript):Option Int:=
 (script_Right s0).bind fun r0=>
 if r0≠0 then
  some 0
 else
  (premise_run_last (Gpremise_run.mk s0)).bind fun r2=>
  (bound_Settle s0.Conf).bind fun r3=>
  some (wr (r2+r3))
instance premise_Settled_sim (s0:GScript):HE iav (premise_Settled s0) 29 [GScript.av s0]:=⟨by unfold premise_Settled;exact sa⟩
noncomputable def window_Common_0_step (rows2:List (List GReport))(nodes2:List Int)(t2:Int)(x0:List Int)(x2:Int)(x3:Int):Option ((Int)⊕((Bool)⊕(Unit))):=
 if x3<x2 then
  (idx? x0 x3).bind fun z0=>
  (trace_At rows2 t2 z0).bind fun r0=>
  (idx? nodes2 0).bind fun z2=>
  (trace_At rows2 t2 z2).bind fun r2=>
  if(r0.Pulse !=r2.Pulse)=true then
   some (.inr (.inl false))
  else
   some (.inl (wr (x3+1)))
 else
  some (.inr (.inr ()))
noncomputable def window_Common_0 (rows2:List (List GReport))(nodes2:List Int)(t2:Int)(x0:List Int)(x2:Int)(x3:Int):Option ((Bool)⊕(Unit)):=
 loopO (fun s:Int=>window_Common_0_step rows2 nodes2 t2 x0 x2 s) x3
def window_Common_0_pre (rows2:List (List GReport))(nodes2:List Int)(t2:Int)(x0:List Int)(x2:Int)(v:Int)(e:PF.St):Prop:=e=⟨[(0,lav (lav GReport.av) rows2),(1,lav iav nodes2),(2,iav t2),(9,lav iav x0),(10,iav x2),(11,iav v)],[]⟩
instance window_Common_0_sim (rows2:List (List GReport))(nodes2:List Int)(t2:Int)(x0:List Int)(x2:Int)(x3:Int):HL (window_Common_0 rows2 nodes2 t2 x0 x2 x3) LM ([0,1,2,9,10,11],[],[6],B126_0) (window_Common_0_pre rows2 nodes2 t2 x0 x2 x3) (rS (rE fun r=>(Ex.ret,⟨[(6,.bool r)],[]⟩)) (rE fun r=>((.exit 0),⟨[(6,.undef)],[]⟩))):=by unfold window_Common_0 window_Common_0_step;exact lf
noncomputable def window_Common (rows:List (List GReport))(nodes:List Int)(t0:Int):Option Bool:=
 (window_Common_0 rows nodes t0 nodes (List.length nodes:Int) 0).bind fun r3=>
 Sum.elim
  (fun r4=>
    some r4)
  (fun r5=>
    some true)
  r3
instance window_Common_sim (rows:List (List GReport))(nodes:List Int)(t0:Int):HE bav (window_Common rows nodes t0) 126 [lav (lav GReport.av) rows,lav iav nodes,iav t0]:=⟨by unfold window_Common;exact sa⟩
noncomputable def window_common_0_step (rows2:List (List GReport))(nodes2:List Int)(t0:Int):Option ((Int)⊕((Bool)⊕(Unit))):=
 if t0<(List.length rows2:Int)then
  (window_Common rows2 nodes2 t0).bind fun r0=>
  if(!r0)=true then
   some (.inr (.inl false))
  else
   some (.inl (wr (t0+1)))
 else
  some (.inr (.inr ()))
noncomputable def window_common_0 (rows2:List (List GReport))(nodes2:List Int)(t0:Int):Option ((Bool)⊕(Unit)):=
 loopO (fun s:Int=>window_common_0_step rows2 nodes2 s) t0
def window_common_0_pre (rows2:List (List GReport))(nodes2:List Int)(v:Int)(e:PF.St):Prop:=e=⟨[(0,lav (lav GReport.av) rows2),(1,lav iav nodes2),(7,iav v)],[]⟩
instance window_common_0_sim (rows2:List (List GReport))(nodes2:List Int)(t0:Int):HL (window_common_0 rows2 nodes2 t0) LM ([0,1,7],[],[6],B67_0) (window_common_0_pre rows2 nodes2 t0) (rS (rE fun r=>(Ex.ret,⟨[(6,.bool r)],[]⟩)) (rE fun r=>((.exit 0),⟨[(6,.undef)],[]⟩))):=by unfold window_common_0 window_common_0_step;exact lf
noncomputable def window_common (rows:List (List GReport))(nodes:List Int)(from0:Int):Option Bool:=
 (window_common_0 rows nodes from0).bind fun r2=>
 Sum.elim
  (fun r3=>
    some r3)
  (fun r4=>
    some true)
  r2
instance window_common_sim (rows:List (List GReport))(nodes:List Int)(from0:Int):HE bav (window_common rows nodes from0) 67 [lav (lav GReport.av) rows,lav iav nodes,iav from0]:=⟨by unfold window_common;exact sa⟩
noncomputable def window_gaps_0_step (rows2:List (List GReport))(node2:Int)(least:Int)(quiet:Int)(last:Int)(run:Int)(t0:Int):Option ((Int×Int×Int×Int×Int)⊕(Int×Int)):=
 if t0<(List.length rows2:Int)then
  (trace_At rows2 t0 node2).bind fun r0=>
  if(!r0.Pulse)=true then
   some (.inl (least,(max quiet (wr (run+1))),last,(wr (run+1)),(wr (t0+1))))
  else
   if last≠(-1)then
    some (.inl ((min least (wr (t0-last))),quiet,t0,0,(wr (t0+1))))
   else
    some (.inl (least,quiet,t0,0,(wr (t0+1))))
 else
  some (.inr (least,quiet))
noncomputable def window_gaps_0 (rows2:List (List GReport))(node2:Int)(least:Int)(quiet:Int)(last:Int)(run:Int)(t0:Int):Option (Int×Int):=
 loopO (fun s:Int×Int×Int×Int×Int=>window_gaps_0_step rows2 node2 s.1 s.2.1 s.2.2.1 s.2.2.2.1 s.2.2.2.2) (least,quiet,last,run,t0)
def window_gaps_0_pre (rows2:List (List GReport))(node2:Int)(v:Int×Int×Int×Int×Int)(e:PF.St):Prop:=e=⟨[(0,lav (lav GReport.av) rows2),(1,iav node2),(6,iav v.1),(7,iav v.2.1),(8,iav v.2.2.1),(9,iav v.2.2.2.1),(10,iav v.2.2.2.2)],[]⟩
instance window_gaps_0_sim (rows2:List (List GReport))(node2:Int)(least:Int)(quiet:Int)(last:Int)(run:Int)(t0:Int):HL (window_gaps_0 rows2 node2 least quiet last run t0) LM ([0,1,6,7,8,9,10],[],[6,7],B68_0) (window_gaps_0_pre rows2 node2 (least,quiet,last,run,t0)) (rE fun r=>((.exit 0),⟨[(6,iav r.1),(7,iav r.2)],[]⟩)):=by unfold window_gaps_0 window_gaps_0_step;exact lf
noncomputable def window_gaps (rows:List (List GReport))(node:Int)(from0:Int):Option (Int×Int):=
 (window_gaps_0 rows node (wr ((List.length rows:Int)+400)) 0 (-1) 0 from0).bind fun r2=>
 some (r2.1,r2.2)
instance window_gaps_sim (rows:List (List GReport))(node:Int)(from0:Int):HS (window_gaps rows node from0) (LM.call 68 [lav (lav GReport.av) rows,iav node,iav from0] []) fun r q=>q=(.tup [iav r.1,iav r.2],[]):=⟨by unfold window_gaps;exact sa⟩
noncomputable def window_Regular (c0:GConf)(rows:List (List GReport))(nodes:List Int)(from0:Int):Option Int:=
 (conf_Plain c0).bind fun r0=>
 if r0≠0 then
  some r0
 else
  if(List.length nodes:Int)=0 then
   some 0
  else
   (window_common rows nodes (max from0 0)).bind fun r2=>
   if(!r2)=true then
    some 7
   else
    (idx? nodes 0).bind fun z0=>
    (window_gaps rows z0 (max from0 0)).bind fun r3=>
    if r3.1<c0.Period then
     some 13
    else
     if c0.Period≤r3.2 then
      some 10
     else
      some 0
instance window_Regular_sim (c0:GConf)(rows:List (List GReport))(nodes:List Int)(from0:Int):HE iav (window_Regular c0 rows nodes from0) 31 [GConf.av c0,lav (lav GReport.av) rows,lav iav nodes,iav from0]:=⟨by unfold window_Regular;exact sa⟩
noncomputable def judge_run_number_1 (x0:Int)(x2:GReport):Option Bool:=
 some (!x2.Sync)
instance judge_run_number_1_sim (x0:Int)(x2:GReport):HE bav (judge_run_number_1 x0 x2) 70 [iav x0,GReport.av x2]:=⟨by unfold judge_run_number_1;exact sa⟩
noncomputable def vec_set (b0:Int):Option Int:=
 if b0=49 then
  some 1
 else
  some 0
instance vec_set_sim (b0:Int):HE iav (vec_set b0) 197 [u8av b0]:=⟨by unfold vec_set;exact sa⟩
noncomputable def vec_Number_0_step (bits2:List UInt8)(x0:Int)(n0:Int)(x2:Int):Option ((Int×Int)⊕Int):=
 if x2<x0 then
  (idx? bits2 x2).bind fun b0=>
  (vec_set (UInt8.toNat b0:Int)).bind fun r0=>
  if x2<0 then none else
  some (.inl ((orI .i64 n0 (shlI .i64 r0 x2)),(wr (x2+1))))
 else
  some (.inr n0)
noncomputable def vec_Number_0 (bits2:List UInt8)(x0:Int)(n0:Int)(x2:Int):Option Int:=
 loopO (fun s:Int×Int=>vec_Number_0_step bits2 x0 s.1 s.2) (n0,x2)
def vec_Number_0_pre (bits2:List UInt8)(x0:Int)(v:Int×Int)(e:PF.St):Prop:=e=⟨[(0,.str bits2),(3,iav v.1),(7,iav x0),(8,iav v.2)],[]⟩
instance vec_Number_0_sim (bits2:List UInt8)(x0:Int)(n0:Int)(x2:Int):HL (vec_Number_0 bits2 x0 n0 x2) LM ([0,3,7,8],[],[3],B127_0) (vec_Number_0_pre bits2 x0 (n0,x2)) (rE fun r=>((.exit 0),⟨[(3,iav r)],[]⟩)):=by
 refine lv (vec_Number_0_pre bits2 x0) _ fun S hS hw hw8 R hR=> ?_
 rintro⟨n0,x2⟩ env hp he
 cases he
 show Sim (vec_Number_0_step bits2 x0 n0 x2) _ _
 unfold vec_Number_0_step
 simp only[hw]
 refine au (.ite Iff.rfl (fun hc=> ?_) fun hc=> ?_)
 ·refine au ?_
  refine Sim.ix rfl (fun b0 hb0=> ?_)
  refine au ?_
  refine Sim.go hb0 ?_
  exact fin
 ·exact fin
noncomputable def vec_Number (bits:List UInt8):Option Int:=
 (vec_Number_0 bits (min (List.length bits:Int) 8) 0 0).bind fun r2=>
 some r2
instance vec_Number_sim (bits:List UInt8):HE iav (vec_Number bits) 127 [.str bits]:=⟨by unfold vec_Number;exact sa⟩
noncomputable def number_behind (c0:GConf):Option GConf:=
 some c0
instance number_behind_sim (c0:GConf):HS (number_behind c0) (LM.call 128 [GConf.av c0] []) fun r q=>q=(.fn 198 [.ptr 0 0],[⟨true,GConf.cells r⟩]):=⟨by unfold number_behind;exact sa⟩
noncomputable def number_behind_1 (n0:Int)(o0:GConf):Option (Int×GConf):=
 (num_Mod n0 o0.Mod).bind fun r0=>
 (num_Mod (wr (r0+1)) o0.Mod).bind fun r2=>
 some (r2,o0)
instance number_behind_1_sim (n0:Int)(o0:GConf):HS (number_behind_1 n0 o0) (LM.call 198 [iav n0,.ptr 0 0] [⟨true,GConf.cells o0⟩]) fun r q=>q=(iav r.1,[⟨true,GConf.cells r.2⟩]):=⟨by unfold number_behind_1;exact sa⟩
noncomputable def number_Next (c0:GConf)(own:Int)(agreed:List UInt8):Option Int:=
 (conf_Plain c0).bind fun r0=>
 if r0≠0 then
  some 0
 else
  if agreed≠([]:List UInt8)then
   (vec_Number agreed).bind fun r2=>
   (number_behind c0).bind fun r3=>
   (number_behind_1 r2 r3).bind fun r4=>
   some r4.1
  else
   (number_behind c0).bind fun r5=>
   (number_behind_1 own r5).bind fun r6=>
   some r6.1
instance number_Next_sim (c0:GConf)(own:Int)(agreed:List UInt8):HE iav (number_Next c0 own agreed) 72 [GConf.av c0,iav own,.str agreed]:=⟨by unfold number_Next;exact sa⟩
noncomputable def judge_run_any_0_step (t2:Int)(r2:Gjudge_run)(x0:List Int)(x2:Int)(x3:Int):Option ((Int)⊕((Bool)⊕(Unit))):=
 if x3<x2 then
  (idx? x0 x3).bind fun z0=>
  (idx? r2.f_rows t2).bind fun z2=>
  (idx? z2 z0).bind fun z3=>
  (judge_run_number_1 z0 z3).bind fun r3=>
  if r3=true then
   some (.inr (.inl true))
  else
   some (.inl (wr (x3+1)))
 else
  some (.inr (.inr ()))
noncomputable def judge_run_any_0 (t2:Int)(r2:Gjudge_run)(x0:List Int)(x2:Int)(x3:Int):Option ((Bool)⊕(Unit)):=
 loopO (fun s:Int=>judge_run_any_0_step t2 r2 x0 x2 s) x3
def judge_run_any_0_pre (t2:Int)(r2:Gjudge_run)(x0:List Int)(x2:Int)(v:Int)(e:PF.St):Prop:=e=⟨[(1,iav t2),(2,.fn 70 []),(3,.ept (Gjudge_run.cells r2) 0),(10,lav iav x0),(11,iav x2),(12,iav v)],[]⟩
instance judge_run_any_0_sim (t2:Int)(r2:Gjudge_run)(x0:List Int)(x2:Int)(x3:Int):HL (judge_run_any_0 t2 r2 x0 x2 x3) LM ([1,2,3,10,11,12],[],[6],B69_0) (judge_run_any_0_pre t2 r2 x0 x2 x3) (rS (rE fun r=>(Ex.ret,⟨[(6,.bool r)],[]⟩)) (rE fun r=>((.exit 0),⟨[(6,.undef)],[]⟩))):=by unfold judge_run_any_0 judge_run_any_0_step;exact lf
noncomputable def judge_run_any (r0:Gjudge_run)(t0:Int):Option Bool:=
 (judge_run_any_0 t0 r0 r0.f_honest (List.length r0.f_honest:Int) 0).bind fun r4=>
 Sum.elim
  (fun r5=>
    some r5)
  (fun r6=>
    some false)
  r4
instance judge_run_any_sim (r0:Gjudge_run)(t0:Int):HE bav (judge_run_any r0 t0) 69 [Gjudge_run.av r0,iav t0,.fn 70 []]:=⟨by unfold judge_run_any;exact sa⟩
noncomputable def judge_run_number_2 (x0:Int)(x2:GReport)(o0:GReport):Option (Bool×GReport):=
 some ((decide (x2.Number≠o0.Number)),o0)
instance judge_run_number_2_sim (x0:Int)(x2:GReport)(o0:GReport):HS (judge_run_number_2 x0 x2 o0) (LM.call 71 [iav x0,GReport.av x2,.ptr 0 0] [⟨true,GReport.cells o0⟩]) fun r q=>q=(.bool r.1,[⟨true,GReport.cells r.2⟩]):=⟨by unfold judge_run_number_2;exact sa⟩
noncomputable def judge_run_any_v1_0_step (t2:Int)(r2:Gjudge_run)(x0:List Int)(x2:Int)(x3:Int)(o2:GReport):Option ((Int×GReport)⊕((Bool×GReport)⊕(GReport))):=
 if x3<x2 then
  (idx? x0 x3).bind fun z0=>
  (idx? r2.f_rows t2).bind fun z2=>
  (idx? z2 z0).bind fun z3=>
  (judge_run_number_2 z0 z3 o2).bind fun r3=>
  if r3.1=true then
   some (.inr (.inl (true,r3.2)))
  else
   some (.inl ((wr (x3+1)),r3.2))
 else
  some (.inr (.inr o2))
noncomputable def judge_run_any_v1_0 (t2:Int)(r2:Gjudge_run)(x0:List Int)(x2:Int)(x3:Int)(o2:GReport):Option ((Bool×GReport)⊕(GReport)):=
 loopO (fun s:Int×GReport=>judge_run_any_v1_0_step t2 r2 x0 x2 s.1 s.2) (x3,o2)
def judge_run_any_v1_0_pre (t2:Int)(r2:Gjudge_run)(x0:List Int)(x2:Int)(v:Int×GReport)(e:PF.St):Prop:=e=⟨[(1,iav t2),(2,.fn 71 [.ptr 0 0]),(3,.ept (Gjudge_run.cells r2) 0),(10,lav iav x0),(11,iav x2),(12,iav v.1)],[(0,⟨true,GReport.cells v.2⟩)]⟩
instance judge_run_any_v1_0_sim (t2:Int)(r2:Gjudge_run)(x0:List Int)(x2:Int)(x3:Int)(o2:GReport):HL (judge_run_any_v1_0 t2 r2 x0 x2 x3 o2) LM ([1,2,3,10,11,12],[],[6],B69_0) (judge_run_any_v1_0_pre t2 r2 x0 x2 (x3,o2)) (rS (rE fun r=>(Ex.ret,⟨[(6,.bool r.1)],[(0,⟨true,GReport.cells r.2⟩)]⟩)) (rE fun r=>((.exit 0),⟨[(6,.undef)],[(0,⟨true,GReport.cells r⟩)]⟩))):=by unfold judge_run_any_v1_0 judge_run_any_v1_0_step;exact lf
noncomputable def judge_run_any_v1 (r0:Gjudge_run)(t0:Int)(o0:GReport):Option (Bool×GReport):=
 (judge_run_any_v1_0 t0 r0 r0.f_honest (List.length r0.f_honest:Int) 0 o0).bind fun r4=>
 Sum.elim
  (fun r5=>
    some (r5.1,r5.2))
  (fun r6=>
    some (false,r6))
  r4
instance judge_run_any_v1_sim (r0:Gjudge_run)(t0:Int)(o0:GReport):HS (judge_run_any_v1 r0 t0 o0) (LM.call 69 [Gjudge_run.av r0,iav t0,.fn 71 [.ptr 0 0]] [⟨true,GReport.cells o0⟩]) fun r q=>q=(.bool r.1,[⟨true,GReport.cells r.2⟩]):=⟨by unfold judge_run_any_v1;exact sa⟩
noncomputable def judge_run_number (r0:Gjudge_run)(t0:Int):Option Int:=
 (idx? r0.f_rows t0).bind fun z0=>
 (judge_run_first r0).bind fun r2=>
 (idx? z0 r2).bind fun z2=>
 (judge_run_any r0 t0).bind fun r3=>
 if r3=true then
  some 14
 else
  (judge_run_any_v1 r0 t0 z2).bind fun r4=>
  if r4.1=true then
   some 7
  else
   if t0=r0.f_all then
    some 0
   else
    (idx? r0.f_rows (wr (t0-1))).bind fun z3=>
    (judge_run_first r0).bind fun r5=>
    (idx? z3 r5).bind fun z4=>
    if r4.2.Pulse=true then
     (number_Next r0.Script.Conf z4.Number ([]:List UInt8)).bind fun r6=>
     if r4.2.Number≠r6 then
      some 16
     else
      some 0
    else
     if r4.2.Number≠z4.Number then
      some 16
     else
      some 0
instance judge_run_number_sim (r0:Gjudge_run)(t0:Int):HE iav (judge_run_number r0 t0) 33 [Gjudge_run.av r0,iav t0]:=⟨by unfold judge_run_number;exact sa⟩
noncomputable def window_Since_0_step (rows2:List (List GReport))(node2:Int)(t2:Int)(ago:Int):Option ((Int)⊕Int):=
 if 0≤(wr (t2-ago))then
  (trace_At rows2 (wr (t2-ago)) node2).bind fun r0=>
  if r0.Pulse=true then
   some (.inr ago)
  else
   some (.inl (wr (ago+1)))
 else
  some (.inr ago)
noncomputable def window_Since_0 (rows2:List (List GReport))(node2:Int)(t2:Int)(ago:Int):Option Int:=
 loopO (fun s:Int=>window_Since_0_step rows2 node2 t2 s) ago
def window_Since_0_pre (rows2:List (List GReport))(node2:Int)(t2:Int)(v:Int)(e:PF.St):Prop:=e=⟨[(0,lav (lav GReport.av) rows2),(1,iav node2),(2,iav t2),(7,iav v)],[]⟩
instance window_Since_0_sim (rows2:List (List GReport))(node2:Int)(t2:Int)(ago:Int):HL (window_Since_0 rows2 node2 t2 ago) LM ([0,1,2,7],[],[2,7],B73_0) (window_Since_0_pre rows2 node2 t2 ago) (rE fun r=>((.exit 0),⟨[(2,iav t2),(7,iav r)],[]⟩)):=by unfold window_Since_0 window_Since_0_step;exact lf
noncomputable def window_Since (rows:List (List GReport))(node:Int)(t0:Int):Option Int:=
 if(List.length rows:Int)≤t0 then
  some (-1)
 else
  (window_Since_0 rows node t0 0).bind fun r2=>
  if(wr (t0-r2))<0 then
   some (-1)
  else
   some r2
instance window_Since_sim (rows:List (List GReport))(node:Int)(t0:Int):HE iav (window_Since rows node t0) 73 [lav (lav GReport.av) rows,iav node,iav t0]:=⟨by unfold window_Since;exact sa⟩
noncomputable def slot_ticked (ticks:Int):Option Bool:=
 if 0≤ticks then
  some (decide (ticks≤2000))
 else
  some false
instance slot_ticked_sim (ticks:Int):HE bav (slot_ticked ticks) 129 [iav ticks]:=⟨by unfold slot_ticked;exact sa⟩
noncomputable def bound_plain_has (p0:Gbound_plain)(slot:Int):Option Bool:=
 if 0≤slot then
  some (decide (slot<(List.length p0.Conf.Table:Int)))
 else
  some false
instance bound_plain_has_sim (p0:Gbound_plain)(slot:Int):HE bav (bound_plain_has p0 slot) 237 [Gbound_plain.av p0,iav slot]:=⟨by unfold bound_plain_has;exact sa⟩
noncomputable def bound_Begin (c0:GConf)(slot:Int):Option Int:=
 (bound_of c0).bind fun r0=>
 if(!r0.2)=true then
  some 0
 else
  (bound_plain_has r0.1 slot).bind fun r2=>
  if(!r2)=true then
   some 0
  else
   (bound_plain_begin r0.1 slot).bind fun r3=>
   some r3
instance bound_Begin_sim (c0:GConf)(slot:Int):HE iav (bound_Begin c0 slot) 200 [GConf.av c0,iav slot]:=⟨by unfold bound_Begin;exact sa⟩
noncomputable def slot_borders_0_step (c2:GConf)(x0:Int)(out:List Int)(x2:Int):Option (((List Int)×Int)⊕((List Int))):=
 if x2<x0 then
  (bound_Begin c2 x2).bind fun r0=>
  if List.length out+List.length [r0]≤lenMax then
   some (.inl ((out++[r0]),(wr (x2+1))))
  else none
 else
  some (.inr out)
noncomputable def slot_borders_0 (c2:GConf)(x0:Int)(out:List Int)(x2:Int):Option ((List Int)):=
 loopO (fun s:(List Int)×Int=>slot_borders_0_step c2 x0 s.1 s.2) (out,x2)
def slot_borders_0_pre (c2:GConf)(x0:Int)(v:(List Int)×Int)(e:PF.St):Prop:= ∃g0,e=⟨[(1,.ept (GConf.cells c2) 0),(3,.lst g0 (List.map iav v.1)),(7,iav x0),(8,iav v.2)],[]⟩∧Mg 1 g0
instance slot_borders_0_sim (c2:GConf)(x0:Int)(out:List Int)(x2:Int):HL (slot_borders_0 c2 x0 out x2) LM ([1,3,7,8],[],[1,3],B131_0) (slot_borders_0_pre c2 x0 (out,x2)) (fun r (q:Ex×PF.St)=> ∃g0',q=((.exit 0),⟨[(1,.ept (GConf.cells c2) 0),(3,.lst g0' (List.map iav r))],[]⟩)∧Mg 1 g0'):=by
 refine lv (slot_borders_0_pre c2 x0) _ fun S hS hw hw8 R hR=> ?_
 rintro⟨out,x2⟩ env hp ⟨g0,he,hg0⟩
 cases he
 show Sim (slot_borders_0_step c2 x0 out x2) _ _
 unfold slot_borders_0_step
 simp only[hw]
 refine au (.ite Iff.rfl (fun hc=> ?_) fun hc=> ?_)
 ·refine au (.hc hR ?_)
  rintro r0 q rfl
  refine au ?_
  refine Sim.kl hS (ys:=List.map iav [r0]) rfl ?_
  refine au ?_
  first|(refine Sim.goB (may_map (by intro _;rfl) hg0 _) ?_)|skip
  refine au ?_
  first|(refine Sim.goB (okE_map (by intro _;exact⟨rfl,rfl,rfl⟩) _) ?_)|skip
  refine au ?_
  first|refine Sim.ite (by simp) (fun _=> ?_) (fun _=>Sim.no)|refine Sim.guard (fun _=> ?_)
  exact fin
 ·exact fin
noncomputable def slot_borders (c0:GConf):Option ((List Int)):=
 (slot_borders_0 c0 (List.length c0.Table:Int) ([]:List Int) 0).bind fun r2=>
 if List.length r2+List.length [(wr (c0.Offset+(wr ((List.length c0.Table:Int)*c0.Slot))))]≤lenMax then
  some (r2++[(wr (c0.Offset+(wr ((List.length c0.Table:Int)*c0.Slot))))])
 else none
instance slot_borders_sim (c0:GConf):HE (lav iav) (slot_borders c0) 131 [GConf.av c0]:=⟨by
 unfold slot_borders
 refine sv fun S hS hw hw8 R hR=> ?_
 simp only[hw]
 refine au ?_
 refine Sim.ki hS (m:=(List.length c0.Table:Int)) (by simp) ?_
 refine au ?_
 refine Sim.hl hR kp pz ?_
 rintro r2 q ⟨g2,rfl,hg2⟩
 refine au ?_
 refine Sim.ki hS (m:=(List.length c0.Table:Int)) (by simp) ?_
 refine au ?_
 refine Sim.kl hS (ys:=List.map iav [(S.wr (c0.Offset+(S.wr ((List.length c0.Table:Int)*c0.Slot))))]) rfl ?_
 refine au ?_
 first|(refine Sim.goB (may_map (by intro _;rfl) hg2 _) ?_)|skip
 refine au ?_
 first|(refine Sim.goB (okE_map (by intro _;exact⟨rfl,rfl,rfl⟩) _) ?_)|skip
 refine au ?_
 first|refine Sim.ite (by simp) (fun _=> ?_) (fun _=>Sim.no)|refine Sim.guard (fun _=> ?_)
 exact fin⟩
noncomputable def slot_span_clears (s0:Gslot_span)(border:Int):Option Bool:=
 if border<s0.f_slowest then
  some true
 else
  some (decide (s0.f_fastest<border))
instance slot_span_clears_sim (s0:Gslot_span)(border:Int):HE bav (slot_span_clears s0 border) 132 [Gslot_span.av s0,iav border]:=⟨by unfold slot_span_clears;exact sa⟩
noncomputable def slot_all_0_step (holds2:Gslot_span)(x0:List Int)(x2:Int)(x3:Int):Option ((Int)⊕((Bool)⊕(Unit))):=
 if x3<x2 then
  (idx? x0 x3).bind fun z0=>
  (slot_span_clears holds2 z0).bind fun r0=>
  if(!r0)=true then
   some (.inr (.inl false))
  else
   some (.inl (wr (x3+1)))
 else
  some (.inr (.inr ()))
noncomputable def slot_all_0 (holds2:Gslot_span)(x0:List Int)(x2:Int)(x3:Int):Option ((Bool)⊕(Unit)):=
 loopO (fun s:Int=>slot_all_0_step holds2 x0 x2 s) x3
def slot_all_0_pre (holds2:Gslot_span)(x0:List Int)(x2:Int)(v:Int)(e:PF.St):Prop:=e=⟨[(1,.fn 132 [.tup [Gslot_span.av holds2]]),(7,lav iav x0),(8,iav x2),(9,iav v)],[]⟩
instance slot_all_0_sim (holds2:Gslot_span)(x0:List Int)(x2:Int)(x3:Int):HL (slot_all_0 holds2 x0 x2 x3) LM ([1,7,8,9],[],[4],B130_0) (slot_all_0_pre holds2 x0 x2 x3) (rS (rE fun r=>(Ex.ret,⟨[(4,.bool r)],[]⟩)) (rE fun r=>((.exit 0),⟨[(4,.undef)],[]⟩))):=by unfold slot_all_0 slot_all_0_step;exact lf
noncomputable def slot_all (l0:List Int)(holds:Gslot_span):Option Bool:=
 (slot_all_0 holds l0 (List.length l0:Int) 0).bind fun r2=>
 Sum.elim
  (fun r3=>
    some r3)
  (fun r4=>
    some true)
  r2
instance slot_all_sim (l0:List Int)(holds:Gslot_span):HE bav (slot_all l0 holds) 130 [lav iav l0,.fn 132 [.tup [Gslot_span.av holds]]]:=⟨by unfold slot_all;exact sa⟩
noncomputable def slot_Clear (c0:GConf)(ticks:Int):Option Bool:=
 (slot_ticked ticks).bind fun r0=>
 if(!r0)=true then
  some false
 else
  (conf_Plain c0).bind fun r2=>
  if r2≠0 then
   some false
  else
   (slot_borders c0).bind fun r3=>
   (slot_all r3 (Gslot_span.mk (wr (ticks*(wr (c0.Rate-c0.Drift)))) (wr (ticks*(wr (c0.Rate+c0.Drift)))))).bind fun r4=>
   some r4
instance slot_Clear_sim (c0:GConf)(ticks:Int):HE bav (slot_Clear c0 ticks) 74 [GConf.av c0,iav ticks]:=⟨by unfold slot_Clear;exact sa⟩
noncomputable def sched_Slot (c0:GConf)(elapsed:Int):Option Int:=
 (conf_Plain c0).bind fun r0=>
 if r0≠0 then
  some (-1)
 else
  if elapsed<c0.Offset then
   some (-1)
  else
   if c0.Slot=0 then none else
   if(List.length c0.Table:Int)≤(wr (Int.tdiv (wr (elapsed-c0.Offset)) c0.Slot))then
    some (-1)
   else
    some (wr (Int.tdiv (wr (elapsed-c0.Offset)) c0.Slot))
instance sched_Slot_sim (c0:GConf)(elapsed:Int):HE iav (sched_Slot c0 elapsed) 133 [GConf.av c0,iav elapsed]:=⟨by unfold sched_Slot;exact sa⟩
noncomputable def slot_Nominal (c0:GConf)(ticks:Int):Option Int:=
 (slot_ticked ticks).bind fun r0=>
 if(!r0)=true then
  some (-1)
 else
  (conf_Plain c0).bind fun r2=>
  if r2≠0 then
   some (-1)
  else
   (sched_Slot c0 (wr (ticks*c0.Rate))).bind fun r3=>
   some r3
instance slot_Nominal_sim (c0:GConf)(ticks:Int):HE iav (slot_Nominal c0 ticks) 75 [GConf.av c0,iav ticks]:=⟨by unfold slot_Nominal;exact sa⟩
noncomputable def judge_run_slots_1 (x0:Int)(x2:GReport)(o0:Int):Option (Bool×Int):=
 some ((decide (x2.Slot≠o0)),o0)
instance judge_run_slots_1_sim (x0:Int)(x2:GReport)(o0:Int):HS (judge_run_slots_1 x0 x2 o0) (LM.call 76 [iav x0,GReport.av x2,.ptr 0 0] [⟨true,[iav o0]⟩]) fun r q=>q=(.bool r.1,[⟨true,[iav r.2]⟩]):=⟨by unfold judge_run_slots_1;exact sa⟩
noncomputable def judge_run_any_v2_0_step (t2:Int)(r2:Gjudge_run)(x0:List Int)(x2:Int)(x3:Int)(o2:Int):Option ((Int×Int)⊕((Bool×Int)⊕(Int))):=
 if x3<x2 then
  (idx? x0 x3).bind fun z0=>
  (idx? r2.f_rows t2).bind fun z2=>
  (idx? z2 z0).bind fun z3=>
  (judge_run_slots_1 z0 z3 o2).bind fun r3=>
  if r3.1=true then
   some (.inr (.inl (true,r3.2)))
  else
   some (.inl ((wr (x3+1)),r3.2))
 else
  some (.inr (.inr o2))
noncomputable def judge_run_any_v2_0 (t2:Int)(r2:Gjudge_run)(x0:List Int)(x2:Int)(x3:Int)(o2:Int):Option ((Bool×Int)⊕(Int)):=
 loopO (fun s:Int×Int=>judge_run_any_v2_0_step t2 r2 x0 x2 s.1 s.2) (x3,o2)
def judge_run_any_v2_0_pre (t2:Int)(r2:Gjudge_run)(x0:List Int)(x2:Int)(v:Int×Int)(e:PF.St):Prop:=e=⟨[(1,iav t2),(2,.fn 76 [.ptr 0 0]),(3,.ept (Gjudge_run.cells r2) 0),(10,lav iav x0),(11,iav x2),(12,iav v.1)],[(0,⟨true,[iav v.2]⟩)]⟩
instance judge_run_any_v2_0_sim (t2:Int)(r2:Gjudge_run)(x0:List Int)(x2:Int)(x3:Int)(o2:Int):HL (judge_run_any_v2_0 t2 r2 x0 x2 x3 o2) LM ([1,2,3,10,11,12],[],[6],B69_0) (judge_run_any_v2_0_pre t2 r2 x0 x2 (x3,o2)) (rS (rE fun r=>(Ex.ret,⟨[(6,.bool r.1)],[(0,⟨true,[iav r.2]⟩)]⟩)) (rE fun r=>((.exit 0),⟨[(6,.undef)],[(0,⟨true,[iav r]⟩)]⟩))):=by unfold judge_run_any_v2_0 judge_run_any_v2_0_step;exact lf
noncomputable def judge_run_any_v2 (r0:Gjudge_run)(t0:Int)(o0:Int):Option (Bool×Int):=
 (judge_run_any_v2_0 t0 r0 r0.f_honest (List.length r0.f_honest:Int) 0 o0).bind fun r4=>
 Sum.elim
  (fun r5=>
    some (r5.1,r5.2))
  (fun r6=>
    some (false,r6))
  r4
instance judge_run_any_v2_sim (r0:Gjudge_run)(t0:Int)(o0:Int):HS (judge_run_any_v2 r0 t0 o0) (LM.call 69 [Gjudge_run.av r0,iav t0,.fn 76 [.ptr 0 0]] [⟨true,[iav o0]⟩]) fun r q=>q=(.bool r.1,[⟨true,[iav r.2]⟩]):=⟨by unfold judge_run_any_v2;exact sa⟩
noncomputable def judge_run_slots_0_step (r2:Gjudge_run)(t0:Int):Option ((Int)⊕((Int)⊕(Unit))):=
 if t0<(List.length r2.f_rows:Int)then
  (judge_run_first r2).bind fun r3=>
  (window_Since r2.f_rows r3 t0).bind fun r4=>
  if r4<0 then
   some (.inl (wr (t0+1)))
  else
   if(wr (t0-r4))<r2.f_all then
    some (.inl (wr (t0+1)))
   else
    (slot_Clear r2.Script.Conf r4).bind fun r5=>
    if(!r5)=true then
     some (.inl (wr (t0+1)))
    else
     (slot_Nominal r2.Script.Conf r4).bind fun r6=>
     (judge_run_any_v2 r2 t0 r6).bind fun r7=>
     if r7.1=true then
      some (.inr (.inl 11))
     else
      some (.inl (wr (t0+1)))
 else
  some (.inr (.inr ()))
noncomputable def judge_run_slots_0 (r2:Gjudge_run)(t0:Int):Option ((Int)⊕(Unit)):=
 loopO (fun s:Int=>judge_run_slots_0_step r2 s) t0
def judge_run_slots_0_pre (r2:Gjudge_run)(v:Int)(e:PF.St):Prop:=e=⟨[(1,.ept (Gjudge_run.cells r2) 0),(3,iav v)],[]⟩
instance judge_run_slots_0_sim (r2:Gjudge_run)(t0:Int):HL (judge_run_slots_0 r2 t0) LM ([1,3],[],[2],B34_0) (judge_run_slots_0_pre r2 t0) (rS (rE fun r=>(Ex.ret,⟨[(2,iav r)],[]⟩)) (rE fun r=>((.exit 0),⟨[(2,.undef)],[]⟩))):=by unfold judge_run_slots_0 judge_run_slots_0_step;exact lf
noncomputable def judge_run_slots (r0:Gjudge_run):Option Int:=
 (judge_run_slots_0 r0 r0.f_all).bind fun r8=>
 Sum.elim
  (fun r9=>
    some r9)
  (fun r10=>
    some 0)
  r8
instance judge_run_slots_sim (r0:Gjudge_run):HE iav (judge_run_slots r0) 34 [Gjudge_run.av r0]:=⟨by unfold judge_run_slots;exact sa⟩
noncomputable def round_machine_lies (m0:Ground_machine)(n0:Int):Option Bool:=
 (slices_Contains_int_int m0.f_faulty n0).bind fun r0=>
 some r0
instance round_machine_lies_sim (m0:Ground_machine)(n0:Int):HE bav (round_machine_lies m0 n0) 202 [Ground_machine.av m0,iav n0]:=⟨by unfold round_machine_lies;exact sa⟩
noncomputable def round_machine_honest_0_step (m2:Ground_machine)(x0:Int)(out:List Int)(x2:Int):Option (((List Int)×Int)⊕((List Int))):=
 if x2<x0 then
  (round_machine_lies m2 x2).bind fun r0=>
  if(!r0)=true then
   if List.length out+List.length [x2]≤lenMax then
    some (.inl ((out++[x2]),(wr (x2+1))))
   else none
  else
   some (.inl (out,(wr (x2+1))))
 else
  some (.inr out)
noncomputable def round_machine_honest_0 (m2:Ground_machine)(x0:Int)(out:List Int)(x2:Int):Option ((List Int)):=
 loopO (fun s:(List Int)×Int=>round_machine_honest_0_step m2 x0 s.1 s.2) (out,x2)
def round_machine_honest_0_pre (m2:Ground_machine)(x0:Int)(v:(List Int)×Int)(e:PF.St):Prop:= ∃g0,e=⟨[(1,.ept (Ground_machine.cells m2) 0),(3,.lst g0 (List.map iav v.1)),(7,iav x0),(8,iav v.2)],[]⟩∧Mg 1 g0
instance round_machine_honest_0_sim (m2:Ground_machine)(x0:Int)(out:List Int)(x2:Int):HL (round_machine_honest_0 m2 x0 out x2) LM ([1,3,7,8],[],[3],B136_0) (round_machine_honest_0_pre m2 x0 (out,x2)) (fun r (q:Ex×PF.St)=> ∃g0',q=((.exit 0),⟨[(3,.lst g0' (List.map iav r))],[]⟩)∧Mg 1 g0'):=by
 refine lv (round_machine_honest_0_pre m2 x0) _ fun S hS hw hw8 R hR=> ?_
 rintro⟨out,x2⟩ env hp ⟨g0,he,hg0⟩
 cases he
 show Sim (round_machine_honest_0_step m2 x0 out x2) _ _
 unfold round_machine_honest_0_step
 simp only[hw]
 refine au (.ite Iff.rfl (fun hc=> ?_) fun hc=> ?_)
 ·refine au (.hc hR ?_)
  rintro r0 q rfl
  refine au (.iteB (fun hc2=> ?_) fun hc2=> ?_)
  ·refine au ?_
   refine Sim.kl hS (ys:=List.map iav [x2]) rfl ?_
   refine au ?_
   first|(refine Sim.goB (may_map (by intro _;rfl) hg0 _) ?_)|skip
   refine au ?_
   first|(refine Sim.goB (okE_map (by intro _;exact⟨rfl,rfl,rfl⟩) _) ?_)|skip
   refine au ?_
   first|refine Sim.ite (by simp) (fun _=> ?_) (fun _=>Sim.no)|refine Sim.guard (fun _=> ?_)
   exact fin
  ·exact fin
 ·exact fin
noncomputable def round_machine_honest (m0:Ground_machine):Option ((List Int)):=
 (round_machine_honest_0 m0 m0.Conf.N ([]:List Int) 0).bind fun r2=>
 some r2
instance round_machine_honest_sim (m0:Ground_machine):HE (lav iav) (round_machine_honest m0) 136 [Ground_machine.av m0]:=⟨by unfold round_machine_honest;exact sa⟩
noncomputable def round_machine_members (m0:Ground_machine)(s0:List UInt8):Option Bool:=
 if(List.length s0:Int)=m0.Conf.N then
  (round_machine_honest m0).bind fun r0=>
  (roster_Mark m0.Conf s0 r0).bind fun r2=>
  some (decide (r2=s0))
 else
  some false
instance round_machine_members_sim (m0:Ground_machine)(s0:List UInt8):HE bav (round_machine_members m0 s0) 134 [Ground_machine.av m0,.str s0]:=⟨by unfold round_machine_members;exact sa⟩
noncomputable def round_machine_sizes_0_step (m2:Ground_machine)(r2:GRound)(x0:Int)(x2:Int):Option ((Int)⊕((Bool)⊕(Unit))):=
 if x2<x0 then
  (idx? r2.Lines x2).bind fun z0=>
  if 16<(List.length z0:Int)then
   some (.inr (.inl false))
  else
   (round_machine_lies m2 x2).bind fun r3=>
   if r3=true then
    (idx? r2.Lines x2).bind fun z2=>
    if z2≠([]:List UInt8)then
     some (.inr (.inl false))
    else
     (idx? r2.Got x2).bind fun z3=>
     if 0<(List.length z3:Int)then
      some (.inr (.inl false))
     else
      some (.inl (wr (x2+1)))
   else
    some (.inl (wr (x2+1)))
 else
  some (.inr (.inr ()))
noncomputable def round_machine_sizes_0 (m2:Ground_machine)(r2:GRound)(x0:Int)(x2:Int):Option ((Bool)⊕(Unit)):=
 loopO (fun s:Int=>round_machine_sizes_0_step m2 r2 x0 s) x2
def round_machine_sizes_0_pre (m2:Ground_machine)(r2:GRound)(x0:Int)(v:Int)(e:PF.St):Prop:=e=⟨[(2,.ept (Ground_machine.cells m2) 0),(3,.ept (GRound.cells r2) 0),(24,iav x0),(25,iav v)],[]⟩
instance round_machine_sizes_0_sim (m2:Ground_machine)(r2:GRound)(x0:Int)(x2:Int):HL (round_machine_sizes_0 m2 r2 x0 x2) LM ([2,3,24,25],[],[4],B135_0) (round_machine_sizes_0_pre m2 r2 x0 x2) (rS (rE fun r=>(Ex.ret,⟨[(4,.bool r)],[]⟩)) (rE fun r=>((.exit 0),⟨[(4,.undef)],[]⟩))):=by unfold round_machine_sizes_0 round_machine_sizes_0_step;exact lf
noncomputable def round_machine_sizes (m0:Ground_machine)(r0:GRound):Option Bool:=
 if(List.length r0.Lines:Int)≠m0.Conf.N then
  some false
 else
  if(List.length r0.Got:Int)≠m0.Conf.N then
   some false
  else
   (round_machine_sizes_0 m0 r0 m0.Conf.N 0).bind fun r4=>
   Sum.elim
    (fun r5=>
      some r5)
    (fun r6=>
      some true)
    r4
instance round_machine_sizes_sim (m0:Ground_machine)(r0:GRound):HE bav (round_machine_sizes m0 r0) 135 [Ground_machine.av m0,GRound.av r0]:=⟨by unfold round_machine_sizes;exact sa⟩
noncomputable def round_Fits_0_step (r6:GRound)(x0:List Int)(x2:Int)(m0:Ground_machine)(x3:Int):Option ((Int)⊕((Int)⊕(Unit))):=
 if x3<x2 then
  (idx? x0 x3).bind fun z0=>
  (idx? r6.Got z0).bind fun z2=>
  (round_machine_node m0 r6 z2).bind fun r7=>
  if r7≠0 then
   some (.inr (.inl r7))
  else
   some (.inl (wr (x3+1)))
 else
  some (.inr (.inr ()))
noncomputable def round_Fits_0 (r6:GRound)(x0:List Int)(x2:Int)(m0:Ground_machine)(x3:Int):Option ((Int)⊕(Unit)):=
 loopO (fun s:Int=>round_Fits_0_step r6 x0 x2 m0 s) x3
def round_Fits_0_pre (r6:GRound)(x0:List Int)(x2:Int)(m0:Ground_machine)(v:Int)(e:PF.St):Prop:=e=⟨[(5,.ept (GRound.cells r6) 0),(8,.ptr 108 0),(41,lav iav x0),(42,iav x2),(43,iav v)],[(108,⟨true,Ground_machine.cells m0⟩)]⟩
instance round_Fits_0_sim (r6:GRound)(x0:List Int)(x2:Int)(m0:Ground_machine)(x3:Int):HL (round_Fits_0 r6 x0 x2 m0 x3) LM ([5,8,41,42,43],[108],[6],B77_0) (round_Fits_0_pre r6 x0 x2 m0 x3) (rS (rE fun r=>(Ex.ret,⟨[(6,iav r)],[(108,⟨true,Ground_machine.cells m0⟩)]⟩)) (rE fun r=>((.exit 1),⟨[(6,.undef)],[(108,⟨true,Ground_machine.cells m0⟩)]⟩))):=by unfold round_Fits_0 round_Fits_0_step;exact lf
noncomputable def round_Fits (c0:GConf)(faulty:List Int)(r0:GRound):Option Int:=
 (conf_Plain c0).bind fun r2=>
 if r2≠0 then
  some r2
 else
  if r0.Number<0 then
   some 2
  else
   if c0.Mod≤r0.Number then
    some 2
   else
    (round_machine_members (Ground_machine.mk c0 faulty) r0.Members).bind fun r3=>
    if(!r3)=true then
     some 7
    else
     (round_machine_sizes (Ground_machine.mk c0 faulty) r0).bind fun r4=>
     if(!r4)=true then
      some 6
     else
      (round_machine_honest (Ground_machine.mk c0 faulty)).bind fun r5=>
      (round_Fits_0 r0 r5 (List.length r5:Int) (Ground_machine.mk c0 faulty) 0).bind fun r8=>
      Sum.elim
       (fun r9=>
         some r9)
       (fun r10=>
         some 0)
       r8
instance round_Fits_sim (c0:GConf)(faulty:List Int)(r0:GRound):HE iav (round_Fits c0 faulty r0) 77 [GConf.av c0,lav iav faulty,GRound.av r0]:=⟨by unfold round_Fits;exact sa⟩
noncomputable def number_Apart (c0:GConf)(from0:Int)(to0:Int):Option Int:=
 (conf_Plain c0).bind fun r0=>
 if r0≠0 then
  some 0
 else
  (num_Mod to0 c0.Mod).bind fun r2=>
  (num_Mod from0 c0.Mod).bind fun r3=>
  (num_Mod (wr (r2-r3)) c0.Mod).bind fun r4=>
  some r4
instance number_Apart_sim (c0:GConf)(from0:Int)(to0:Int):HE iav (number_Apart c0 from0 to0) 138 [GConf.av c0,iav from0,iav to0]:=⟨by unfold number_Apart;exact sa⟩
noncomputable def round_Follows (c0:GConf)(a0:GRound)(b0:GRound):Option Bool:=
 (conf_Plain c0).bind fun r0=>
 if r0=0 then
  (number_Apart c0 a0.Number b0.Number).bind fun r2=>
  some (decide (r2=1))
 else
  some false
instance round_Follows_sim (c0:GConf)(a0:GRound)(b0:GRound):HE bav (round_Follows c0 a0 b0) 78 [GConf.av c0,GRound.av a0,GRound.av b0]:=⟨by unfold round_Follows;exact sa⟩
noncomputable def judge_run_fits_0_step (l2:List GRound)(r2:Gjudge_run)(x0:List GRound)(x2:Int)(x3:Int):Option ((Int)⊕((Int)⊕(Unit))):=
 if x3<x2 then
  (idx? x0 x3).bind fun z0=>
  (round_Fits r2.Script.Conf r2.Script.Faulty z0).bind fun r3=>
  if r3≠0 then
   some (.inr (.inl r3))
  else
   if 0<x3 then
    (idx? l2 (wr (x3-1))).bind fun z2=>
    (round_Follows r2.Script.Conf z2 z0).bind fun r4=>
    if(!r4)=true then
     some (.inr (.inl 16))
    else
     some (.inl (wr (x3+1)))
   else
    some (.inl (wr (x3+1)))
 else
  some (.inr (.inr ()))
noncomputable def judge_run_fits_0 (l2:List GRound)(r2:Gjudge_run)(x0:List GRound)(x2:Int)(x3:Int):Option ((Int)⊕(Unit)):=
 loopO (fun s:Int=>judge_run_fits_0_step l2 r2 x0 x2 s) x3
def judge_run_fits_0_pre (l2:List GRound)(r2:Gjudge_run)(x0:List GRound)(x2:Int)(v:Int)(e:PF.St):Prop:=e=⟨[(1,lav GRound.av l2),(2,.ept (Gjudge_run.cells r2) 0),(8,lav GRound.av x0),(9,iav x2),(10,iav v)],[]⟩
instance judge_run_fits_0_sim (l2:List GRound)(r2:Gjudge_run)(x0:List GRound)(x2:Int)(x3:Int):HL (judge_run_fits_0 l2 r2 x0 x2 x3) LM ([1,2,8,9,10],[],[4],B35_0) (judge_run_fits_0_pre l2 r2 x0 x2 x3) (rS (rE fun r=>(Ex.ret,⟨[(4,iav r)],[]⟩)) (rE fun r=>((.exit 0),⟨[(4,.undef)],[]⟩))):=by unfold judge_run_fits_0 judge_run_fits_0_step;exact lf
noncomputable def judge_run_fits (r0:Gjudge_run)(l0:List GRound):Option Int:=
 (judge_run_fits_0 l0 r0 l0 (List.length l0:Int) 0).bind fun r5=>
 Sum.elim
  (fun r6=>
    some r6)
  (fun r7=>
    some 0)
  r5
instance judge_run_fits_sim (r0:Gjudge_run)(l0:List GRound):HE iav (judge_run_fits r0 l0) 35 [Gjudge_run.av r0,lav GRound.av l0]:=⟨by unfold judge_run_fits;exact sa⟩
noncomputable def roster_Has (marks:List UInt8)(node:Int):Option Bool:=
 if 0≤node then
  if node<(List.length marks:Int)then
   (idx? marks node).bind fun b0=>
   some (decide ((UInt8.toNat b0:Int)=49))
  else
   some false
 else
  some false
instance roster_Has_sim (marks:List UInt8)(node:Int):HE bav (roster_Has marks node) 81 [.str marks,iav node]:=⟨by
 unfold roster_Has
 refine sv fun S hS hw hw8 R hR=> ?_
 refine au (.ite Iff.rfl (fun hc=> ?_) fun hc=> ?_)
 ·refine au (.ite Iff.rfl (fun hc2=> ?_) fun hc2=> ?_)
  ·refine au ?_
   refine Sim.ix rfl (fun b0 hb0=> ?_)
   refine au ?_
   refine Sim.go hb0 ?_
   exact fin
  ·exact fin
 ·exact fin⟩
noncomputable def judge_run_members_1 (x0:Int)(x2:GReport)(o0:List UInt8):Option (Bool×(List UInt8)):=
 some ((decide (x2.Members≠o0)),o0)
instance judge_run_members_1_sim (x0:Int)(x2:GReport)(o0:List UInt8):HS (judge_run_members_1 x0 x2 o0) (LM.call 79 [iav x0,GReport.av x2,.ptr 0 0] [⟨true,[.str o0]⟩]) fun r q=>q=(.bool r.1,[⟨true,[.str r.2]⟩]):=⟨by unfold judge_run_members_1;exact sa⟩
noncomputable def judge_run_any_v3_0_step (t2:Int)(r2:Gjudge_run)(x0:List Int)(x2:Int)(x3:Int)(o2:List UInt8):Option ((Int×(List UInt8))⊕((Bool×(List UInt8))⊕((List UInt8)))):=
 if x3<x2 then
  (idx? x0 x3).bind fun z0=>
  (idx? r2.f_rows t2).bind fun z2=>
  (idx? z2 z0).bind fun z3=>
  (judge_run_members_1 z0 z3 o2).bind fun r3=>
  if r3.1=true then
   some (.inr (.inl (true,r3.2)))
  else
   some (.inl ((wr (x3+1)),r3.2))
 else
  some (.inr (.inr o2))
noncomputable def judge_run_any_v3_0 (t2:Int)(r2:Gjudge_run)(x0:List Int)(x2:Int)(x3:Int)(o2:List UInt8):Option ((Bool×(List UInt8))⊕((List UInt8))):=
 loopO (fun s:Int×(List UInt8)=>judge_run_any_v3_0_step t2 r2 x0 x2 s.1 s.2) (x3,o2)
def judge_run_any_v3_0_pre (t2:Int)(r2:Gjudge_run)(x0:List Int)(x2:Int)(v:Int×(List UInt8))(e:PF.St):Prop:=e=⟨[(1,iav t2),(2,.fn 79 [.ptr 0 0]),(3,.ept (Gjudge_run.cells r2) 0),(10,lav iav x0),(11,iav x2),(12,iav v.1)],[(0,⟨true,[.str v.2]⟩)]⟩
instance judge_run_any_v3_0_sim (t2:Int)(r2:Gjudge_run)(x0:List Int)(x2:Int)(x3:Int)(o2:List UInt8):HL (judge_run_any_v3_0 t2 r2 x0 x2 x3 o2) LM ([1,2,3,10,11,12],[],[6],B69_0) (judge_run_any_v3_0_pre t2 r2 x0 x2 (x3,o2)) (rS (rE fun r=>(Ex.ret,⟨[(6,.bool r.1)],[(0,⟨true,[.str r.2]⟩)]⟩)) (rE fun r=>((.exit 0),⟨[(6,.undef)],[(0,⟨true,[.str r]⟩)]⟩))):=by unfold judge_run_any_v3_0 judge_run_any_v3_0_step;exact lf
noncomputable def judge_run_any_v3 (r0:Gjudge_run)(t0:Int)(o0:List UInt8):Option (Bool×(List UInt8)):=
 (judge_run_any_v3_0 t0 r0 r0.f_honest (List.length r0.f_honest:Int) 0 o0).bind fun r4=>
 Sum.elim
  (fun r5=>
    some (r5.1,r5.2))
  (fun r6=>
    some (false,r6))
  r4
instance judge_run_any_v3_sim (r0:Gjudge_run)(t0:Int)(o0:List UInt8):HS (judge_run_any_v3 r0 t0 o0) (LM.call 69 [Gjudge_run.av r0,iav t0,.fn 79 [.ptr 0 0]] [⟨true,[.str o0]⟩]) fun r q=>q=(.bool r.1,[⟨true,[.str r.2]⟩]):=⟨by unfold judge_run_any_v3;exact sa⟩
noncomputable def judge_run_members_2 (n0:Int)(x0:GReport)(o0:List UInt8):Option (Bool×(List UInt8)):=
 (roster_Has o0 n0).bind fun r0=>
 some ((!r0),o0)
instance judge_run_members_2_sim (n0:Int)(x0:GReport)(o0:List UInt8):HS (judge_run_members_2 n0 x0 o0) (LM.call 80 [iav n0,GReport.av x0,.ptr 0 0] [⟨true,[.str o0]⟩]) fun r q=>q=(.bool r.1,[⟨true,[.str r.2]⟩]):=⟨by unfold judge_run_members_2;exact sa⟩
noncomputable def judge_run_any_v4_0_step (t2:Int)(r2:Gjudge_run)(x0:List Int)(x2:Int)(x3:Int)(o2:List UInt8):Option ((Int×(List UInt8))⊕((Bool×(List UInt8))⊕((List UInt8)))):=
 if x3<x2 then
  (idx? x0 x3).bind fun z0=>
  (idx? r2.f_rows t2).bind fun z2=>
  (idx? z2 z0).bind fun z3=>
  (judge_run_members_2 z0 z3 o2).bind fun r3=>
  if r3.1=true then
   some (.inr (.inl (true,r3.2)))
  else
   some (.inl ((wr (x3+1)),r3.2))
 else
  some (.inr (.inr o2))
noncomputable def judge_run_any_v4_0 (t2:Int)(r2:Gjudge_run)(x0:List Int)(x2:Int)(x3:Int)(o2:List UInt8):Option ((Bool×(List UInt8))⊕((List UInt8))):=
 loopO (fun s:Int×(List UInt8)=>judge_run_any_v4_0_step t2 r2 x0 x2 s.1 s.2) (x3,o2)
def judge_run_any_v4_0_pre (t2:Int)(r2:Gjudge_run)(x0:List Int)(x2:Int)(v:Int×(List UInt8))(e:PF.St):Prop:=e=⟨[(1,iav t2),(2,.fn 80 [.ptr 0 0]),(3,.ept (Gjudge_run.cells r2) 0),(10,lav iav x0),(11,iav x2),(12,iav v.1)],[(0,⟨true,[.str v.2]⟩)]⟩
instance judge_run_any_v4_0_sim (t2:Int)(r2:Gjudge_run)(x0:List Int)(x2:Int)(x3:Int)(o2:List UInt8):HL (judge_run_any_v4_0 t2 r2 x0 x2 x3 o2) LM ([1,2,3,10,11,12],[],[6],B69_0) (judge_run_any_v4_0_pre t2 r2 x0 x2 (x3,o2)) (rS (rE fun r=>(Ex.ret,⟨[(6,.bool r.1)],[(0,⟨true,[.str r.2]⟩)]⟩)) (rE fun r=>((.exit 0),⟨[(6,.undef)],[(0,⟨true,[.str r]⟩)]⟩))):=by unfold judge_run_any_v4_0 judge_run_any_v4_0_step;exact lf
noncomputable def judge_run_any_v4 (r0:Gjudge_run)(t0:Int)(o0:List UInt8):Option (Bool×(List UInt8)):=
 (judge_run_any_v4_0 t0 r0 r0.f_honest (List.length r0.f_honest:Int) 0 o0).bind fun r4=>
 Sum.elim
  (fun r5=>
    some (r5.1,r5.2))
  (fun r6=>
    some (false,r6))
  r4
instance judge_run_any_v4_sim (r0:Gjudge_run)(t0:Int)(o0:List UInt8):HS (judge_run_any_v4 r0 t0 o0) (LM.call 69 [Gjudge_run.av r0,iav t0,.fn 80 [.ptr 0 0]] [⟨true,[.str o0]⟩]) fun r q=>q=(.bool r.1,[⟨true,[.str r.2]⟩]):=⟨by unfold judge_run_any_v4;exact sa⟩
noncomputable def judge_run_members (r0:Gjudge_run)(t0:Int):Option Int:=
 (idx? r0.f_rows t0).bind fun z0=>
 (judge_run_first r0).bind fun r2=>
 (idx? z0 r2).bind fun z2=>
 (judge_run_any_v3 r0 t0 z2.Members).bind fun r3=>
 if r3.1=true then
  some 7
 else
  (judge_run_any_v4 r0 t0 r3.2).bind fun r4=>
  if r4.1=true then
   some 12
  else
   some 0
instance judge_run_members_sim (r0:Gjudge_run)(t0:Int):HE iav (judge_run_members r0 t0) 36 [Gjudge_run.av r0,iav t0]:=⟨by unfold judge_run_members;exact sa⟩
noncomputable def judge_run_each_0_step (look2:Gjudge_run)(r2:Gjudge_run)(t0:Int):Option ((Int)⊕((Int)⊕(Unit))):=
 if t0<(List.length r2.f_rows:Int)then
  (judge_run_number look2 t0).bind fun r3=>
  if r3≠0 then
   some (.inr (.inl r3))
  else
   some (.inl (wr (t0+1)))
 else
  some (.inr (.inr ()))
noncomputable def judge_run_each_0 (look2:Gjudge_run)(r2:Gjudge_run)(t0:Int):Option ((Int)⊕(Unit)):=
 loopO (fun s:Int=>judge_run_each_0_step look2 r2 s) t0
def judge_run_each_0_pre (look2:Gjudge_run)(r2:Gjudge_run)(v:Int)(e:PF.St):Prop:=e=⟨[(1,.fn 33 [.tup [Gjudge_run.av look2]]),(2,.ept (Gjudge_run.cells r2) 0),(5,iav v)],[]⟩
instance judge_run_each_0_sim (look2:Gjudge_run)(r2:Gjudge_run)(t0:Int):HL (judge_run_each_0 look2 r2 t0) LM ([1,2,5],[],[4],B32_0) (judge_run_each_0_pre look2 r2 t0) (rS (rE fun r=>(Ex.ret,⟨[(4,iav r)],[]⟩)) (rE fun r=>((.exit 0),⟨[(4,.undef)],[]⟩))):=by unfold judge_run_each_0 judge_run_each_0_step;exact lf
noncomputable def judge_run_each (r0:Gjudge_run)(look:Gjudge_run):Option Int:=
 (judge_run_each_0 look r0 r0.f_all).bind fun r4=>
 Sum.elim
  (fun r5=>
    some r5)
  (fun r6=>
    some 0)
  r4
instance judge_run_each_sim (r0:Gjudge_run)(look:Gjudge_run):HE iav (judge_run_each r0 look) 32 [Gjudge_run.av r0,.fn 33 [.tup [Gjudge_run.av look]]]:=⟨by unfold judge_run_each;exact sa⟩
noncomputable def judge_run_each_v1_0_step (look2:Gjudge_run)(r2:Gjudge_run)(t0:Int):Option ((Int)⊕((Int)⊕(Unit))):=
 if t0<(List.length r2.f_rows:Int)then
  (judge_run_members look2 t0).bind fun r3=>
  if r3≠0 then
   some (.inr (.inl r3))
  else
   some (.inl (wr (t0+1)))
 else
  some (.inr (.inr ()))
noncomputable def judge_run_each_v1_0 (look2:Gjudge_run)(r2:Gjudge_run)(t0:Int):Option ((Int)⊕(Unit)):=
 loopO (fun s:Int=>judge_run_each_v1_0_step look2 r2 s) t0
def judge_run_each_v1_0_pre (look2:Gjudge_run)(r2:Gjudge_run)(v:Int)(e:PF.St):Prop:=e=⟨[(1,.fn 36 [.tup [Gjudge_run.av look2]]),(2,.ept (Gjudge_run.cells r2) 0),(5,iav v)],[]⟩
instance judge_run_each_v1_0_sim (look2:Gjudge_run)(r2:Gjudge_run)(t0:Int):HL (judge_run_each_v1_0 look2 r2 t0) LM ([1,2,5],[],[4],B32_0) (judge_run_each_v1_0_pre look2 r2 t0) (rS (rE fun r=>(Ex.ret,⟨[(4,iav r)],[]⟩)) (rE fun r=>((.exit 0),⟨[(4,.undef)],[]⟩))):=by unfold judge_run_each_v1_0 judge_run_each_v1_0_step;exact lf
noncomputable def judge_run_each_v1 (r0:Gjudge_run)(look:Gjudge_run):Option Int:=
 (judge_run_each_v1_0 look r0 r0.f_all).bind fun r4=>
 Sum.elim
  (fun r5=>
    some r5)
  (fun r6=>
    some 0)
  r4
instance judge_run_each_v1_sim (r0:Gjudge_run)(look:Gjudge_run):HE iav (judge_run_each_v1 r0 look) 32 [Gjudge_run.av r0,.fn 36 [.tup [Gjudge_run.av look]]]:=⟨by unfold judge_run_each_v1;exact sa⟩
noncomputable def judge_Judge (L0:GScript)(i0:List (List GReport)):Option GVerdict:=
 (judge_open L0 i0).bind fun r0=>
 if r0.2≠0 then
  some (GVerdict.mk 0 0 0 0 0 (Ar5.mk r0.2 r0.2 r0.2 r0.2 r0.2))
 else
  (judge_run_rounds r0.1).bind fun r2=>
  (premise_Last L0).bind fun r3=>
  (premise_Settled L0).bind fun r4=>
  (premise_All L0).bind fun r5=>
  (window_Regular L0.Conf i0 r0.1.f_honest r4).bind fun r6=>
  (judge_run_each r0.1 r0.1).bind fun r7=>
  (judge_run_slots r0.1).bind fun r8=>
  (judge_run_fits r0.1 r2).bind fun r9=>
  (judge_run_each_v1 r0.1 r0.1).bind fun r10=>
  some (GVerdict.mk (List.length i0:Int) r3 r4 r5 (List.length r2:Int) (Ar5.mk r6 r7 r8 r9 r10))
instance judge_Judge_sim (L0:GScript)(i0:List (List GReport)):HE GVerdict.av (judge_Judge L0 i0) 9 [GScript.av L0,lav (lav GReport.av) i0]:=⟨by unfold judge_Judge;exact sa⟩
noncomputable def r14_In_0_step (l2:List Int)(n2:Int)(i0:Int):Option ((Int)⊕((Bool)⊕(Unit))):=
 if i0<(List.length l2:Int)then
  (idx? l2 i0).bind fun z0=>
  if z0=n2 then
   some (.inr (.inl true))
  else
   some (.inl (wr (i0+1)))
 else
  some (.inr (.inr ()))
noncomputable def r14_In_0 (l2:List Int)(n2:Int)(i0:Int):Option ((Bool)⊕(Unit)):=
 loopO (fun s:Int=>r14_In_0_step l2 n2 s) i0
def r14_In_0_pre (l2:List Int)(n2:Int)(v:Int)(e:PF.St):Prop:=e=⟨[(0,lav iav l2),(1,iav n2),(5,iav v)],[]⟩
instance r14_In_0_sim (l2:List Int)(n2:Int)(i0:Int):HL (r14_In_0 l2 n2 i0) LM ([0,1,5],[],[4],B52_0) (r14_In_0_pre l2 n2 i0) (rS (rE fun r=>(Ex.ret,⟨[(4,.bool r)],[]⟩)) (rE fun r=>((.exit 0),⟨[(4,.undef)],[]⟩))):=by unfold r14_In_0 r14_In_0_step;exact lf
noncomputable def r14_In (l0:List Int)(n0:Int):Option Bool:=
 (r14_In_0 l0 n0 0).bind fun r0=>
 Sum.elim
  (fun r2=>
    some r2)
  (fun r3=>
    some false)
  r0
instance r14_In_sim (l0:List Int)(n0:Int):HE bav (r14_In l0 n0) 52 [lav iav l0,iav n0]:=⟨by unfold r14_In;exact sa⟩
noncomputable def r01_Clamp (n0:Int)(low:Int)(high:Int):Option Int:=
 if n0<low then
  some low
 else
  if high<low then
   some low
  else
   some (min n0 high)
instance r01_Clamp_sim (n0:Int)(low:Int)(high:Int):HE iav (r01_Clamp n0 low high) 55 [iav n0,iav low,iav high]:=⟨by unfold r01_Clamp;exact sa⟩
noncomputable def r33_node (c0:GConf)(n0:Int):Option Bool:=
 if 0≤n0 then
  (r01_Clamp c0.N 0 13).bind fun r0=>
  some (decide (n0<r0))
 else
  some false
instance r33_node_sim (c0:GConf)(n0:Int):HE bav (r33_node c0 n0) 105 [GConf.av c0,iav n0]:=⟨by unfold r33_node;exact sa⟩
noncomputable def r03_within (n0:Int)(low:Int)(high:Int):Option Bool:=
 if low≤n0 then
  some (decide (n0≤high))
 else
  some false
instance r03_within_sim (n0:Int)(low:Int)(high:Int):HE bav (r03_within n0 low high) 108 [iav n0,iav low,iav high]:=⟨by unfold r03_within;exact sa⟩
noncomputable def r03_owned_0_step (c2:GConf)(i0:Int):Option ((Int)⊕((Bool)⊕(Unit))):=
 if i0<(List.length c2.Table:Int)then
  (idx? c2.Table i0).bind fun z0=>
  (r03_within z0 0 (wr (c2.N-1))).bind fun r0=>
  if(!r0)=true then
   some (.inr (.inl false))
  else
   some (.inl (wr (i0+1)))
 else
  some (.inr (.inr ()))
noncomputable def r03_owned_0 (c2:GConf)(i0:Int):Option ((Bool)⊕(Unit)):=
 loopO (fun s:Int=>r03_owned_0_step c2 s) i0
def r03_owned_0_pre (c2:GConf)(v:Int)(e:PF.St):Prop:=e=⟨[(1,.ept (GConf.cells c2) 0),(3,iav v)],[]⟩
instance r03_owned_0_sim (c2:GConf)(i0:Int):HL (r03_owned_0 c2 i0) LM ([1,3],[],[1,2],B109_0) (r03_owned_0_pre c2 i0) (rS (rE fun r=>(Ex.ret,⟨[(1,.ept (GConf.cells c2) 0),(2,.bool r)],[]⟩)) (rE fun r=>((.exit 0),⟨[(1,.ept (GConf.cells c2) 0),(2,.undef)],[]⟩))):=by unfold r03_owned_0 r03_owned_0_step;exact lf
noncomputable def r03_owned_1_step (c4:GConf)(n2:Int)(has:Bool)(i2:Int):Option ((Bool×Int)⊕Bool):=
 if i2<(List.length c4.Table:Int)then
  if has=true then
   some (.inl (true,(wr (i2+1))))
  else
   (idx? c4.Table i2).bind fun z2=>
   some (.inl ((decide (z2=n2)),(wr (i2+1))))
 else
  some (.inr has)
noncomputable def r03_owned_1 (c4:GConf)(n2:Int)(has:Bool)(i2:Int):Option Bool:=
 loopO (fun s:Bool×Int=>r03_owned_1_step c4 n2 s.1 s.2) (has,i2)
def r03_owned_1_pre (c4:GConf)(n2:Int)(v:Bool×Int)(e:PF.St):Prop:=e=⟨[(1,.ept (GConf.cells c4) 0),(4,iav n2),(5,.bool v.1),(6,iav v.2)],[]⟩
instance r03_owned_1_sim (c4:GConf)(n2:Int)(has:Bool)(i2:Int):HL (r03_owned_1 c4 n2 has i2) LM ([1,4,5,6],[],[1,4,5],B109_1) (r03_owned_1_pre c4 n2 (has,i2)) (rE fun r=>((.exit 4),⟨[(1,.ept (GConf.cells c4) 0),(4,iav n2),(5,.bool r)],[]⟩)):=by unfold r03_owned_1 r03_owned_1_step;exact lf
noncomputable def r03_owned_2_step (c3:GConf)(n0:Int):Option ((Int)⊕((Bool)⊕(Unit))):=
 if n0<c3.N then
  (r03_owned_1 c3 n0 false 0).bind fun r5=>
  if(!r5)=true then
   some (.inr (.inl false))
  else
   some (.inl (wr (n0+1)))
 else
  some (.inr (.inr ()))
noncomputable def r03_owned_2 (c3:GConf)(n0:Int):Option ((Bool)⊕(Unit)):=
 loopO (fun s:Int=>r03_owned_2_step c3 s) n0
def r03_owned_2_pre (c3:GConf)(v:Int)(e:PF.St):Prop:=e=⟨[(1,.ept (GConf.cells c3) 0),(4,iav v)],[]⟩
instance r03_owned_2_sim (c3:GConf)(n0:Int):HL (r03_owned_2 c3 n0) LM ([1,4],[],[2],B109_2) (r03_owned_2_pre c3 n0) (rS (rE fun r=>(Ex.ret,⟨[(2,.bool r)],[]⟩)) (rE fun r=>((.exit 2),⟨[(2,.undef)],[]⟩))):=by unfold r03_owned_2 r03_owned_2_step;exact lf
noncomputable def r03_owned (c0:GConf):Option Bool:=
 (r03_owned_0 c0 0).bind fun r2=>
 Sum.elim
  (fun r3=>
    some r3)
  (fun r4=>
    (r03_owned_2 c0 0).bind fun r6=>
    Sum.elim
     (fun r7=>
       some r7)
     (fun r8=>
       some true)
     r6)
  r2
instance r03_owned_sim (c0:GConf):HE bav (r03_owned c0) 109 [GConf.av c0]:=⟨by unfold r03_owned;exact sa⟩
noncomputable def r03_Plain (L0:GConf):Option Int:=
 (r03_within L0.N 4 13).bind fun r0=>
 if(!r0)=true then
  some 7
 else
  (r03_within L0.F 0 4).bind fun r2=>
  if(!r2)=true then
   some 7
  else
   if L0.N≤(wr (3*L0.F))then
    some 7
   else
    (r03_within L0.D 1 4).bind fun r3=>
    if(!r3)=true then
     some 10
    else
     (r03_within L0.Period (wr ((wr ((wr (6*(wr (L0.F+1))))*L0.D))+1)) 400).bind fun r4=>
     if(!r4)=true then
      some 8
     else
      (r03_within L0.Rate 1 64).bind fun r5=>
      if(!r5)=true then
       some 8
      else
       (r03_within L0.Drift 0 (wr (L0.Rate-1))).bind fun r6=>
       if(!r6)=true then
        some 8
       else
        (r03_within L0.Offset 0 30000).bind fun r7=>
        if(!r7)=true then
         some 8
        else
         (r03_within L0.Slot 1 30000).bind fun r8=>
         if(!r8)=true then
          some 8
         else
          (r03_within L0.Mod 2 250).bind fun r9=>
          if(!r9)=true then
           some 8
          else
           (r03_within L0.Fresh 1 100).bind fun r10=>
           if(!r10)=true then
            some 8
           else
            (r03_within (List.length L0.Table:Int) 1 32).bind fun r11=>
            if(!r11)=true then
             some 11
            else
             (r03_owned L0).bind fun r12=>
             if(!r12)=true then
              some 11
             else
              some 0
instance r03_Plain_sim (L0:GConf):HE iav (r03_Plain L0) 53 [GConf.av L0]:=⟨by unfold r03_Plain;exact sa⟩
noncomputable def r04_Begin (c0:GConf)(slot:Int):Option Int:=
 (r03_Plain c0).bind fun r0=>
 if r0≠0 then
  some 0
 else
  if slot<0 then
   some 0
  else
   if(List.length c0.Table:Int)≤slot then
    some 0
   else
    some (wr (c0.Offset+(wr (slot*c0.Slot))))
instance r04_Begin_sim (c0:GConf)(slot:Int):HE iav (r04_Begin c0 slot) 144 [GConf.av c0,iav slot]:=⟨by unfold r04_Begin;exact sa⟩
noncomputable def r04_Middle (c0:GConf)(slot:Int):Option Int:=
 (r03_Plain c0).bind fun r0=>
 if r0≠0 then
  some 0
 else
  if slot<0 then
   some 0
  else
   if(List.length c0.Table:Int)≤slot then
    some 0
   else
    (r04_Begin c0 slot).bind fun r2=>
    some (wr (r2+(wr (Int.tdiv c0.Slot 2))))
instance r04_Middle_sim (c0:GConf)(slot:Int):HE iav (r04_Middle c0 slot) 173 [GConf.av c0,iav slot]:=⟨by unfold r04_Middle;exact sa⟩
noncomputable def r04_Guard (c0:GConf):Option Int:=
 (r03_Plain c0).bind fun r0=>
 if r0≠0 then
  some 0
 else
  (r04_Middle c0 (wr ((List.length c0.Table:Int)-1))).bind fun r2=>
  if(wr (c0.Rate-c0.Drift))=0 then none else
  if 0<(Int.tmod (wr ((wr (2*c0.Drift))*r2)) (wr (c0.Rate-c0.Drift)))then
   some (wr ((wr ((wr ((wr (Int.tdiv (wr ((wr (2*c0.Drift))*r2)) (wr (c0.Rate-c0.Drift))))+1))+c0.Rate))+(wr ((wr (c0.D+1))*c0.Drift))))
  else
   some (wr ((wr ((wr (Int.tdiv (wr ((wr (2*c0.Drift))*r2)) (wr (c0.Rate-c0.Drift))))+c0.Rate))+(wr ((wr (c0.D+1))*c0.Drift))))
instance r04_Guard_sim (c0:GConf):HE iav (r04_Guard c0) 172 [GConf.av c0]:=⟨by unfold r04_Guard;exact sa⟩
noncomputable def r04_Right (c0:GConf):Option Int:=
 (r03_Plain c0).bind fun r0=>
 if r0≠0 then
  (r03_Plain c0).bind fun r2=>
  some r2
 else
  (r04_Guard c0).bind fun r3=>
  (r04_Middle c0 (wr ((List.length c0.Table:Int)-1))).bind fun r4=>
  if c0.Slot≤(wr (2*r3))then
   some 8
  else
   if(wr ((wr (c0.Period-1))*(wr (c0.Rate-c0.Drift))))<(wr ((wr (r4+(wr (c0.D*c0.Rate))))+r3))then
    some 8
   else
    if 32768≤(wr (c0.Period*(wr (c0.Rate+c0.Drift))))then
     some 8
    else
     some 0
instance r04_Right_sim (c0:GConf):HE iav (r04_Right c0) 106 [GConf.av c0]:=⟨by unfold r04_Right;exact sa⟩
noncomputable def r33_within_0_step (l2:List Int)(i0:Int):Option ((Int)⊕((Bool)⊕(Unit))):=
 if i0<(List.length l2:Int)then
  (idx? l2 i0).bind fun z0=>
  if z0<0 then
   some (.inr (.inl false))
  else
   (idx? l2 i0).bind fun z2=>
   if 65535<z2 then
    some (.inr (.inl false))
   else
    some (.inl (wr (i0+1)))
 else
  some (.inr (.inr ()))
noncomputable def r33_within_0 (l2:List Int)(i0:Int):Option ((Bool)⊕(Unit)):=
 loopO (fun s:Int=>r33_within_0_step l2 s) i0
def r33_within_0_pre (l2:List Int)(v:Int)(e:PF.St):Prop:=e=⟨[(0,lav iav l2),(5,iav v)],[]⟩
instance r33_within_0_sim (l2:List Int)(i0:Int):HL (r33_within_0 l2 i0) LM ([0,5],[],[4],B174_0) (r33_within_0_pre l2 i0) (rS (rE fun r=>(Ex.ret,⟨[(4,.bool r)],[]⟩)) (rE fun r=>((.exit 0),⟨[(4,.undef)],[]⟩))):=by unfold r33_within_0 r33_within_0_step;exact lf
noncomputable def r33_within (l0:List Int)(n0:Int):Option Bool:=
 if n0<(List.length l0:Int)then
  some false
 else
  (r33_within_0 l0 0).bind fun r0=>
  Sum.elim
   (fun r2=>
     some r2)
   (fun r3=>
     some true)
   r0
instance r33_within_sim (l0:List Int)(n0:Int):HE bav (r33_within l0 n0) 174 [lav iav l0,iav n0]:=⟨by unfold r33_within;exact sa⟩
noncomputable def r33_waits_0_step (t2:GTick)(x0:List GSend)(x2:Int)(out:List Int)(x3:Int):Option (((List Int)×Int)⊕((List Int))):=
 if x3<x2 then
  (idx? x0 x3).bind fun z0=>
  if List.length out+List.length [z0.Delay]≤lenMax then
   some (.inl ((out++[z0.Delay]),(wr (x3+1))))
  else none
 else
  some (.inr out)
noncomputable def r33_waits_0 (t2:GTick)(x0:List GSend)(x2:Int)(out:List Int)(x3:Int):Option ((List Int)):=
 loopO (fun s:(List Int)×Int=>r33_waits_0_step t2 x0 x2 s.1 s.2) (out,x3)
def r33_waits_0_pre (t2:GTick)(x0:List GSend)(x2:Int)(v:(List Int)×Int)(e:PF.St):Prop:= ∃g0,e=⟨[(1,.ept (GTick.cells t2) 0),(3,.lst g0 (List.map iav v.1)),(9,lav GSend.av x0),(10,iav x2),(11,iav v.2)],[]⟩∧Mg 1 g0
instance r33_waits_0_sim (t2:GTick)(x0:List GSend)(x2:Int)(out:List Int)(x3:Int):HL (r33_waits_0 t2 x0 x2 out x3) LM ([1,3,9,10,11],[],[1,3],B175_0) (r33_waits_0_pre t2 x0 x2 (out,x3)) (fun r (q:Ex×PF.St)=> ∃g0',q=((.exit 0),⟨[(1,.ept (GTick.cells t2) 0),(3,.lst g0' (List.map iav r))],[]⟩)∧Mg 1 g0'):=by
 refine lv (r33_waits_0_pre t2 x0 x2) _ fun S hS hw hw8 R hR=> ?_
 rintro⟨out,x3⟩ env hp ⟨g0,he,hg0⟩
 cases he
 show Sim (r33_waits_0_step t2 x0 x2 out x3) _ _
 unfold r33_waits_0_step
 simp only[hw]
 refine au (.ite Iff.rfl (fun hc=> ?_) fun hc=> ?_)
 ·refine au ?_
  refine Sim.ix (by simp) (fun z0 hz0=> ?_)
  refine au ?_
  refine Sim.go (idx_map _ hz0) ?_
  refine au ?_
  refine Sim.kl hS (ys:=List.map iav [z0.Delay]) rfl ?_
  refine au ?_
  first|(refine Sim.goB (may_map (by intro _;rfl) hg0 _) ?_)|skip
  refine au ?_
  first|(refine Sim.goB (okE_map (by intro _;exact⟨rfl,rfl,rfl⟩) _) ?_)|skip
  refine au ?_
  first|refine Sim.ite (by simp) (fun _=> ?_) (fun _=>Sim.no)|refine Sim.guard (fun _=> ?_)
  exact fin
 ·exact fin
noncomputable def r33_waits_1_step (x4:List GSend)(x5:Int)(out2:List Int)(x6:Int):Option (((List Int)×Int)⊕((List Int))):=
 if x6<x5 then
  (idx? x4 x6).bind fun z2=>
  if List.length out2+List.length [z2.Delay]≤lenMax then
   some (.inl ((out2++[z2.Delay]),(wr (x6+1))))
  else none
 else
  some (.inr out2)
noncomputable def r33_waits_1 (x4:List GSend)(x5:Int)(out2:List Int)(x6:Int):Option ((List Int)):=
 loopO (fun s:(List Int)×Int=>r33_waits_1_step x4 x5 s.1 s.2) (out2,x6)
def r33_waits_1_pre (x4:List GSend)(x5:Int)(v:(List Int)×Int)(e:PF.St):Prop:= ∃g3,e=⟨[(3,.lst g3 (List.map iav v.1)),(22,lav GSend.av x4),(23,iav x5),(24,iav v.2)],[]⟩∧Mg 1 g3
instance r33_waits_1_sim (x4:List GSend)(x5:Int)(out2:List Int)(x6:Int):HL (r33_waits_1 x4 x5 out2 x6) LM ([3,22,23,24],[],[3],B175_1) (r33_waits_1_pre x4 x5 (out2,x6)) (fun r (q:Ex×PF.St)=> ∃g0',q=((.exit 2),⟨[(3,.lst g0' (List.map iav r))],[]⟩)∧Mg 1 g0'):=by
 refine lv (r33_waits_1_pre x4 x5) _ fun S hS hw hw8 R hR=> ?_
 rintro⟨out2,x6⟩ env hp ⟨g3,he,hg3⟩
 cases he
 show Sim (r33_waits_1_step x4 x5 out2 x6) _ _
 unfold r33_waits_1_step
 simp only[hw]
 refine au (.ite Iff.rfl (fun hc2=> ?_) fun hc2=> ?_)
 ·refine au ?_
  refine Sim.ix (by simp) (fun z2 hz2=> ?_)
  refine au ?_
  refine Sim.go (idx_map _ hz2) ?_
  refine au ?_
  refine Sim.kl hS (ys:=List.map iav [z2.Delay]) rfl ?_
  refine au ?_
  first|(refine Sim.goB (may_map (by intro _;rfl) hg3 _) ?_)|skip
  refine au ?_
  first|(refine Sim.goB (okE_map (by intro _;exact⟨rfl,rfl,rfl⟩) _) ?_)|skip
  refine au ?_
  first|refine Sim.ite (by simp) (fun _=> ?_) (fun _=>Sim.no)|refine Sim.guard (fun _=> ?_)
  exact fin
 ·exact fin
noncomputable def r33_waits (t0:GTick):Option ((List Int)):=
 (r33_waits_0 t0 t0.Sends (List.length t0.Sends:Int) ([]:List Int) 0).bind fun r0=>
 (r33_waits_1 t0.Strays (List.length t0.Strays:Int) r0 0).bind fun r2=>
 some r2
instance r33_waits_sim (t0:GTick):HE (lav iav) (r33_waits t0) 175 [GTick.av t0]:=⟨by unfold r33_waits;exact sa⟩
noncomputable def r33_nodes_0_step (s0:GConf)(t0:GTick)(x0:List GSend)(x2:Int)(x3:Int):Option ((Int)⊕((Bool)⊕(Unit))):=
 if x3<x2 then
  (idx? x0 x3).bind fun z0=>
  (r33_node s0 z0.From).bind fun r0=>
  if(!r0)=true then
   some (.inr (.inl false))
  else
   (r33_node s0 z0.To).bind fun r2=>
   if(!r2)=true then
    some (.inr (.inl false))
   else
    some (.inl (wr (x3+1)))
 else
  some (.inr (.inr ()))
noncomputable def r33_nodes_0 (s0:GConf)(t0:GTick)(x0:List GSend)(x2:Int)(x3:Int):Option ((Bool)⊕(Unit)):=
 loopO (fun s:Int=>r33_nodes_0_step s0 t0 x0 x2 s) x3
def r33_nodes_0_pre (s0:GConf)(t0:GTick)(x0:List GSend)(x2:Int)(v:Int)(e:PF.St):Prop:=e=⟨[(2,.ept (GConf.cells s0) 0),(3,.ept (GTick.cells t0) 0),(14,lav GSend.av x0),(15,iav x2),(16,iav v)],[]⟩
instance r33_nodes_0_sim (s0:GConf)(t0:GTick)(x0:List GSend)(x2:Int)(x3:Int):HL (r33_nodes_0 s0 t0 x0 x2 x3) LM ([2,3,14,15,16],[],[2,3,4],B176_0) (r33_nodes_0_pre s0 t0 x0 x2 x3) (rS (rE fun r=>(Ex.ret,⟨[(2,.ept (GConf.cells s0) 0),(3,.ept (GTick.cells t0) 0),(4,.bool r)],[]⟩)) (rE fun r=>((.exit 0),⟨[(2,.ept (GConf.cells s0) 0),(3,.ept (GTick.cells t0) 0),(4,.undef)],[]⟩))):=by unfold r33_nodes_0 r33_nodes_0_step;exact lf
noncomputable def r33_nodes_1_step (s2:GConf)(t2:GTick)(x4:List GSend)(x5:Int)(x6:Int):Option ((Int)⊕((Bool)⊕(Unit))):=
 if x6<x5 then
  (idx? x4 x6).bind fun z2=>
  (r33_node s2 z2.From).bind fun r6=>
  if(!r6)=true then
   some (.inr (.inl false))
  else
   (r33_node s2 z2.To).bind fun r7=>
   if(!r7)=true then
    some (.inr (.inl false))
   else
    some (.inl (wr (x6+1)))
 else
  some (.inr (.inr ()))
noncomputable def r33_nodes_1 (s2:GConf)(t2:GTick)(x4:List GSend)(x5:Int)(x6:Int):Option ((Bool)⊕(Unit)):=
 loopO (fun s:Int=>r33_nodes_1_step s2 t2 x4 x5 s) x6
def r33_nodes_1_pre (s2:GConf)(t2:GTick)(x4:List GSend)(x5:Int)(v:Int)(e:PF.St):Prop:=e=⟨[(2,.ept (GConf.cells s2) 0),(3,.ept (GTick.cells t2) 0),(34,lav GSend.av x4),(35,iav x5),(36,iav v)],[]⟩
instance r33_nodes_1_sim (s2:GConf)(t2:GTick)(x4:List GSend)(x5:Int)(x6:Int):HL (r33_nodes_1 s2 t2 x4 x5 x6) LM ([2,3,34,35,36],[],[2,3,4],B176_1) (r33_nodes_1_pre s2 t2 x4 x5 x6) (rS (rE fun r=>(Ex.ret,⟨[(2,.ept (GConf.cells s2) 0),(3,.ept (GTick.cells t2) 0),(4,.bool r)],[]⟩)) (rE fun r=>((.exit 2),⟨[(2,.ept (GConf.cells s2) 0),(3,.ept (GTick.cells t2) 0),(4,.undef)],[]⟩))):=by unfold r33_nodes_1 r33_nodes_1_step;exact lf
noncomputable def r33_nodes_2_step (s3:GConf)(t3:GTick)(x7:List GBurst)(x8:Int)(x9:Int):Option ((Int)⊕((Bool)⊕(Unit))):=
 if x9<x8 then
  (idx? x7 x9).bind fun z3=>
  (r33_node s3 z3.Node).bind fun r11=>
  if(!r11)=true then
   some (.inr (.inl false))
  else
   some (.inl (wr (x9+1)))
 else
  some (.inr (.inr ()))
noncomputable def r33_nodes_2 (s3:GConf)(t3:GTick)(x7:List GBurst)(x8:Int)(x9:Int):Option ((Bool)⊕(Unit)):=
 loopO (fun s:Int=>r33_nodes_2_step s3 t3 x7 x8 s) x9
def r33_nodes_2_pre (s3:GConf)(t3:GTick)(x7:List GBurst)(x8:Int)(v:Int)(e:PF.St):Prop:=e=⟨[(2,.ept (GConf.cells s3) 0),(3,.ept (GTick.cells t3) 0),(54,lav GBurst.av x7),(55,iav x8),(56,iav v)],[]⟩
instance r33_nodes_2_sim (s3:GConf)(t3:GTick)(x7:List GBurst)(x8:Int)(x9:Int):HL (r33_nodes_2 s3 t3 x7 x8 x9) LM ([2,3,54,55,56],[],[2,3,4],B176_2) (r33_nodes_2_pre s3 t3 x7 x8 x9) (rS (rE fun r=>(Ex.ret,⟨[(2,.ept (GConf.cells s3) 0),(3,.ept (GTick.cells t3) 0),(4,.bool r)],[]⟩)) (rE fun r=>((.exit 4),⟨[(2,.ept (GConf.cells s3) 0),(3,.ept (GTick.cells t3) 0),(4,.undef)],[]⟩))):=by unfold r33_nodes_2 r33_nodes_2_step;exact lf
noncomputable def r33_nodes_3_step (s4:GConf)(x10:List GWrite)(x11:Int)(x12:Int):Option ((Int)⊕((Bool)⊕(Unit))):=
 if x12<x11 then
  (idx? x10 x12).bind fun z4=>
  (r33_node s4 z4.Node).bind fun r15=>
  if(!r15)=true then
   some (.inr (.inl false))
  else
   some (.inl (wr (x12+1)))
 else
  some (.inr (.inr ()))
noncomputable def r33_nodes_3 (s4:GConf)(x10:List GWrite)(x11:Int)(x12:Int):Option ((Bool)⊕(Unit)):=
 loopO (fun s:Int=>r33_nodes_3_step s4 x10 x11 s) x12
def r33_nodes_3_pre (s4:GConf)(x10:List GWrite)(x11:Int)(v:Int)(e:PF.St):Prop:=e=⟨[(2,.ept (GConf.cells s4) 0),(67,lav GWrite.av x10),(68,iav x11),(69,iav v)],[]⟩
instance r33_nodes_3_sim (s4:GConf)(x10:List GWrite)(x11:Int)(x12:Int):HL (r33_nodes_3 s4 x10 x11 x12) LM ([2,67,68,69],[],[4],B176_3) (r33_nodes_3_pre s4 x10 x11 x12) (rS (rE fun r=>(Ex.ret,⟨[(4,.bool r)],[]⟩)) (rE fun r=>((.exit 6),⟨[(4,.undef)],[]⟩))):=by unfold r33_nodes_3 r33_nodes_3_step;exact lf
noncomputable def r33_nodes (L0:GConf)(i0:GTick):Option Bool:=
 (r33_nodes_0 L0 i0 i0.Sends (List.length i0.Sends:Int) 0).bind fun r3=>
 Sum.elim
  (fun r4=>
    some r4)
  (fun r5=>
    (r33_nodes_1 L0 i0 i0.Strays (List.length i0.Strays:Int) 0).bind fun r8=>
    Sum.elim
     (fun r9=>
       some r9)
     (fun r10=>
       (r33_nodes_2 L0 i0 i0.Bursts (List.length i0.Bursts:Int) 0).bind fun r12=>
       Sum.elim
        (fun r13=>
          some r13)
        (fun r14=>
          (r33_nodes_3 L0 i0.Writes (List.length i0.Writes:Int) 0).bind fun r16=>
          Sum.elim
           (fun r17=>
             some r17)
           (fun r18=>
             some true)
           r16)
        r12)
     r8)
  r3
instance r33_nodes_sim (L0:GConf)(i0:GTick):HE bav (r33_nodes L0 i0) 176 [GConf.av L0,GTick.av i0]:=⟨by unfold r33_nodes;exact sa⟩
noncomputable def r33_long_0_step (t2:GTick)(x0:List GSend)(x2:Int)(x3:Int):Option ((Int)⊕((Bool)⊕(Unit))):=
 if x3<x2 then
  (idx? x0 x3).bind fun z0=>
  if 40<(List.length z0.Bytes:Int)then
   some (.inr (.inl true))
  else
   some (.inl (wr (x3+1)))
 else
  some (.inr (.inr ()))
noncomputable def r33_long_0 (t2:GTick)(x0:List GSend)(x2:Int)(x3:Int):Option ((Bool)⊕(Unit)):=
 loopO (fun s:Int=>r33_long_0_step t2 x0 x2 s) x3
def r33_long_0_pre (t2:GTick)(x0:List GSend)(x2:Int)(v:Int)(e:PF.St):Prop:=e=⟨[(1,.ept (GTick.cells t2) 0),(10,lav GSend.av x0),(11,iav x2),(12,iav v)],[]⟩
instance r33_long_0_sim (t2:GTick)(x0:List GSend)(x2:Int)(x3:Int):HL (r33_long_0 t2 x0 x2 x3) LM ([1,10,11,12],[],[1,2],B177_0) (r33_long_0_pre t2 x0 x2 x3) (rS (rE fun r=>(Ex.ret,⟨[(1,.ept (GTick.cells t2) 0),(2,.bool r)],[]⟩)) (rE fun r=>((.exit 0),⟨[(1,.ept (GTick.cells t2) 0),(2,.undef)],[]⟩))):=by unfold r33_long_0 r33_long_0_step;exact lf
noncomputable def r33_long_1_step (t3:GTick)(x4:List GSend)(x5:Int)(x6:Int):Option ((Int)⊕((Bool)⊕(Unit))):=
 if x6<x5 then
  (idx? x4 x6).bind fun z2=>
  if 40<(List.length z2.Bytes:Int)then
   some (.inr (.inl true))
  else
   some (.inl (wr (x6+1)))
 else
  some (.inr (.inr ()))
noncomputable def r33_long_1 (t3:GTick)(x4:List GSend)(x5:Int)(x6:Int):Option ((Bool)⊕(Unit)):=
 loopO (fun s:Int=>r33_long_1_step t3 x4 x5 s) x6
def r33_long_1_pre (t3:GTick)(x4:List GSend)(x5:Int)(v:Int)(e:PF.St):Prop:=e=⟨[(1,.ept (GTick.cells t3) 0),(22,lav GSend.av x4),(23,iav x5),(24,iav v)],[]⟩
instance r33_long_1_sim (t3:GTick)(x4:List GSend)(x5:Int)(x6:Int):HL (r33_long_1 t3 x4 x5 x6) LM ([1,22,23,24],[],[1,2],B177_1) (r33_long_1_pre t3 x4 x5 x6) (rS (rE fun r=>(Ex.ret,⟨[(1,.ept (GTick.cells t3) 0),(2,.bool r)],[]⟩)) (rE fun r=>((.exit 2),⟨[(1,.ept (GTick.cells t3) 0),(2,.undef)],[]⟩))):=by unfold r33_long_1 r33_long_1_step;exact lf
noncomputable def r33_long_2_step (x7:List GBurst)(x8:Int)(x9:Int):Option ((Int)⊕((Bool)⊕(Unit))):=
 if x9<x8 then
  (idx? x7 x9).bind fun z3=>
  if 8000<(List.length z3.Image:Int)then
   some (.inr (.inl true))
  else
   some (.inl (wr (x9+1)))
 else
  some (.inr (.inr ()))
noncomputable def r33_long_2 (x7:List GBurst)(x8:Int)(x9:Int):Option ((Bool)⊕(Unit)):=
 loopO (fun s:Int=>r33_long_2_step x7 x8 s) x9
def r33_long_2_pre (x7:List GBurst)(x8:Int)(v:Int)(e:PF.St):Prop:=e=⟨[(34,lav GBurst.av x7),(35,iav x8),(36,iav v)],[]⟩
instance r33_long_2_sim (x7:List GBurst)(x8:Int)(x9:Int):HL (r33_long_2 x7 x8 x9) LM ([34,35,36],[],[2],B177_2) (r33_long_2_pre x7 x8 x9) (rS (rE fun r=>(Ex.ret,⟨[(2,.bool r)],[]⟩)) (rE fun r=>((.exit 4),⟨[(2,.undef)],[]⟩))):=by unfold r33_long_2 r33_long_2_step;exact lf
noncomputable def r33_long (t0:GTick):Option Bool:=
 (r33_long_0 t0 t0.Sends (List.length t0.Sends:Int) 0).bind fun r0=>
 Sum.elim
  (fun r2=>
    some r2)
  (fun r3=>
    (r33_long_1 t0 t0.Strays (List.length t0.Strays:Int) 0).bind fun r4=>
    Sum.elim
     (fun r5=>
       some r5)
     (fun r6=>
       (r33_long_2 t0.Bursts (List.length t0.Bursts:Int) 0).bind fun r7=>
       Sum.elim
        (fun r8=>
          some r8)
        (fun r9=>
          some false)
        r7)
     r4)
  r0
instance r33_long_sim (t0:GTick):HE bav (r33_long t0) 177 [GTick.av t0]:=⟨by unfold r33_long;exact sa⟩
noncomputable def r33_tick_0_step (x0:List GWrite)(x2:Int)(x3:Int):Option ((Int)⊕((Int)⊕(Unit))):=
 if x3<x2 then
  (idx? x0 x3).bind fun z0=>
  if 16<(List.length z0.Text:Int)then
   some (.inr (.inl 15))
  else
   some (.inl (wr (x3+1)))
 else
  some (.inr (.inr ()))
noncomputable def r33_tick_0 (x0:List GWrite)(x2:Int)(x3:Int):Option ((Int)⊕(Unit)):=
 loopO (fun s:Int=>r33_tick_0_step x0 x2 s) x3
def r33_tick_0_pre (x0:List GWrite)(x2:Int)(v:Int)(e:PF.St):Prop:=e=⟨[(66,lav GWrite.av x0),(67,iav x2),(68,iav v)],[]⟩
instance r33_tick_0_sim (x0:List GWrite)(x2:Int)(x3:Int):HL (r33_tick_0 x0 x2 x3) LM ([66,67,68],[],[4],B107_0) (r33_tick_0_pre x0 x2 x3) (rS (rE fun r=>(Ex.ret,⟨[(4,iav r)],[]⟩)) (rE fun r=>((.exit 0),⟨[(4,.undef)],[]⟩))):=by unfold r33_tick_0 r33_tick_0_step;exact lf
noncomputable def r33_tick (L0:GConf)(i0:GTick):Option Int:=
 (r33_within i0.Units L0.N).bind fun r0=>
 if(!r0)=true then
  some 2
 else
  (r33_within i0.Delays (wr (L0.N*L0.N))).bind fun r2=>
  if(!r2)=true then
   some 2
  else
   (r33_waits i0).bind fun r3=>
   (r33_within r3 (wr ((List.length i0.Sends:Int)+(List.length i0.Strays:Int)))).bind fun r4=>
   if(!r4)=true then
    some 2
   else
    if 40<(List.length i0.Sends:Int)then
     some 9
    else
     if 40<(List.length i0.Bursts:Int)then
      some 9
     else
      if 40<(List.length i0.Strays:Int)then
       some 9
      else
       if 40<(List.length i0.Writes:Int)then
        some 9
       else
        (r33_nodes L0 i0).bind fun r5=>
        if(!r5)=true then
         some 7
        else
         (r33_long i0).bind fun r6=>
         if r6=true then
          some 6
         else
          (r33_tick_0 i0.Writes (List.length i0.Writes:Int) 0).bind fun r7=>
          Sum.elim
           (fun r8=>
             some r8)
           (fun r9=>
             some 0)
           r7
instance r33_tick_sim (L0:GConf)(i0:GTick):HE iav (r33_tick L0 i0) 107 [GConf.av L0,GTick.av i0]:=⟨by unfold r33_tick;exact sa⟩
noncomputable def r33_Right_0_step (i0:GScript)(t0:Int):Option ((Int)⊕((Int)⊕(Unit))):=
 if t0<(List.length i0.Faulty:Int)then
  (idx? i0.Faulty t0).bind fun z0=>
  (r33_node i0.Conf z0).bind fun r3=>
  if(!r3)=true then
   some (.inr (.inl 7))
  else
   if 0≤t0∧t0≤((List.length i0.Faulty):Nat)then
    (idx? i0.Faulty t0).bind fun z2=>
    (r14_In (List.take (Int.toNat t0) i0.Faulty) z2).bind fun r4=>
    if r4=true then
     some (.inr (.inl 7))
    else
     some (.inl (wr (t0+1)))
   else none
 else
  some (.inr (.inr ()))
noncomputable def r33_Right_0 (i0:GScript)(t0:Int):Option ((Int)⊕(Unit)):=
 loopO (fun s:Int=>r33_Right_0_step i0 s) t0
def r33_Right_0_pre (i0:GScript)(v:Int)(e:PF.St):Prop:=e=⟨[(1,.ept (GScript.cells i0) 0),(3,iav v)],[]⟩
end Go.Proofs.YtaoijbibmcgdaaaGreat
