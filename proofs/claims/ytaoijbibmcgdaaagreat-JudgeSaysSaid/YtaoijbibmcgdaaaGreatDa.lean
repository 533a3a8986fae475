/-
  The program's functions as plain functions (printed by a program of mine), each beside the machine's.
-/
import Derived.Test.YtaoijbibmcgdaaaGreatFm
import Derived.Test.YtaoijbibmcgdaaaGreatPFe
set_option linter.unusedVariables false
set_option linter.unusedSimpArgs false
set_option maxRecDepth 100000
set_option maxHeartbeats 4000000
namespace Go.Proofs.YtaoijbibmcgdaaaGreat
noncomputable section
open Go.Proofs.PF
abbrev LM :MRec:=lim M XE
abbrev HE {α:Type}(e:α→AV)(P:Option α)(f:Nat)(a:List AV):Prop:=HS P (LM.call f a []) fun r q=>q=(e r,[])
theorem sv {α:Type}{f:Nat}{F:MFunc}{args:List AV}{hin:List PF.Obj}{P:Option α}{G:α→Option (AV×List PF.Obj)→Prop}(h: ∀(S:Stp) (_:S=stp) (_:wr=S.wr) (_:w8=S.w8) (R:MRec) (_:R=lim M XE),Sim P G (Xt S R F args hin))(hf:M f=some F:=by rfl)(hl:args.length=F.nargs:=by rfl):Sim P G (LM.call f args hin):=gD M XE hf hl h
theorem sa {α:Type}{f:Nat}{F:MFunc}{args:List AV}{hin:List PF.Obj}{P:Option α}{G:α→Option (AV×List PF.Obj)→Prop}(hf:M f=some F:=by rfl)(hl:args.length=F.nargs:=by rfl)(h: ∀(S:Stp) (_:S=stp) (_:wr=S.wr) (_:w8=S.w8) (R:MRec) (_:R=lim M XE),Sim P G (Xt S R F args hin):=by
 intro S hS hw hw8 R hR
 try simp only[hw]
 try simp only[hw8]
 exact fin):Sim P G (LM.call f args hin):=gD M XE hf hl h
theorem lv {σ ρ:Type}{ks ko kx:List Nat}{b:MCode}{f:σ→Option (σ⊕ρ)}{R:ρ→Ex×PF.St→Prop}(pre:σ→PF.St→Prop)(v0:σ)
 (round: ∀(S:Stp) (_:S=stp) (_:wr=S.wr) (_:w8=S.w8) (L:MRec) (_:L=lim M XE) v env hp,pre v ⟨env,hp⟩→Sim (f v) (fun o Q=>match o with
   | .inl v'=> ∃t e',Q=L.loop (ks,ko,kx,b) t∧keep ks ko t=some e'∧pre v' e'
   | .inr r=>Gv R r Q)
   (rnJ S L b env hp (fun e env h=>match e with
     | .norm=>L.loop (ks,ko,kx,b) ⟨env,h⟩
     | .exit j=>kO (keep kx ko ⟨env,h⟩) fun s=>some (.exit j,s)
     | .ret=>kO (keep kx ko ⟨env,h⟩) fun s=>some (.ret,s)))):HL (Ai f v0) LM (ks,ko,kx,b) (pre v0) R:=
 ⟨fun s e hk hp=>uT M XE pre R round v0 s e hk hp⟩
theorem lf {σ ρ:Type}{ks ko kx:List Nat}{b:MCode}{f:σ→Option (σ⊕ρ)}{R:ρ→Ex×PF.St→Prop}{pre:σ→PF.St→Prop}{v0:σ}
 (round: ∀(S:Stp) (_:S=stp) (_:wr=S.wr) (_:w8=S.w8) (L:MRec) (_:L=lim M XE) v env hp,pre v ⟨env,hp⟩→Sim (f v) (fun o Q=>match o with
   | .inl v'=> ∃t e',Q=L.loop (ks,ko,kx,b) t∧keep ks ko t=some e'∧pre v' e'
   | .inr r=>Gv R r Q)
   (rnJ S L b env hp (fun e env h=>match e with
     | .norm=>L.loop (ks,ko,kx,b) ⟨env,h⟩
     | .exit j=>kO (keep kx ko ⟨env,h⟩) fun s=>some (.exit j,s)
     | .ret=>kO (keep kx ko ⟨env,h⟩) fun s=>some (.ret,s))):=by
   intro S hS hw hw8 R hR v env hp hr
   have h9:=hr
   repeat(obtain⟨_,h9⟩:=(show∃_,_ from h9))
   first|cases(show _=_ from h9)|(obtain⟨h2,h4⟩:=(show _∧_ from h9);cases h2;try(obtain⟨_,_⟩:=(show _∧_ from h4)))
   try(conv=>arg 1;dsimp only)
   try simp only[hw]
   try simp only[hw8]
   exact fin):HL (Ai f v0) LM (ks,ko,kx,b) (pre v0) R:=lv pre v0 round
structure Ar5 (α:Type) where
 a0:α
 a1:α
 a2:α
 a3:α
 a4:α
 deriving DecidableEq,Inhabited
@[reducible] def Ar5.cells {α:Type}(f:α→AV)(x:Ar5 α):List AV:=[f x.a0,f x.a1,f x.a2,f x.a3,f x.a4]
@[reducible] def Ar5.av {α:Type}(f:α→AV)(x:Ar5 α):AV:=.agg [f x.a0,f x.a1,f x.a2,f x.a3,f x.a4]
def Ar5.get? {α:Type}(x:Ar5 α):Nat→Option α
 |0=>some x.a0
 |1=>some x.a1
 |2=>some x.a2
 |3=>some x.a3
 |4=>some x.a4
 |_=>none
def Ar5.set? {α:Type}(x:Ar5 α)(k:Nat)(v:α):Option (Ar5 α):=
 match k with
 |0=>some {x with a0:=v}
 |1=>some {x with a1:=v}
 |2=>some {x with a2:=v}
 |3=>some {x with a3:=v}
 |4=>some {x with a4:=v}
 |_=>none
structure Ar6 (α:Type) where
 a0:α
 a1:α
 a2:α
 a3:α
 a4:α
 a5:α
 deriving DecidableEq,Inhabited
@[reducible] def Ar6.cells {α:Type}(f:α→AV)(x:Ar6 α):List AV:=[f x.a0,f x.a1,f x.a2,f x.a3,f x.a4,f x.a5]
@[reducible] def Ar6.av {α:Type}(f:α→AV)(x:Ar6 α):AV:=.agg [f x.a0,f x.a1,f x.a2,f x.a3,f x.a4,f x.a5]
def Ar6.get? {α:Type}(x:Ar6 α):Nat→Option α
 |0=>some x.a0
 |1=>some x.a1
 |2=>some x.a2
 |3=>some x.a3
 |4=>some x.a4
 |5=>some x.a5
 |_=>none
def Ar6.set? {α:Type}(x:Ar6 α)(k:Nat)(v:α):Option (Ar6 α):=
 match k with
 |0=>some {x with a0:=v}
 |1=>some {x with a1:=v}
 |2=>some {x with a2:=v}
 |3=>some {x with a3:=v}
 |4=>some {x with a4:=v}
 |5=>some {x with a5:=v}
 |_=>none
structure Gl (α:Type) where
 a0:α
 a1:α
 a2:α
 a3:α
 a4:α
 a5:α
 a6:α
 a7:α
 a8:α
 a9:α
 a10:α
 a11:α
 a12:α
 deriving DecidableEq,Inhabited
@[reducible] def Gl.cells {α:Type}(f:α→AV)(x:Gl α):List AV:=[f x.a0,f x.a1,f x.a2,f x.a3,f x.a4,f x.a5,f x.a6,f x.a7,f x.a8,f x.a9,f x.a10,f x.a11,f x.a12]
@[reducible] def Gl.av {α:Type}(f:α→AV)(x:Gl α):AV:=.agg [f x.a0,f x.a1,f x.a2,f x.a3,f x.a4,f x.a5,f x.a6,f x.a7,f x.a8,f x.a9,f x.a10,f x.a11,f x.a12]
def Gl.get? {α:Type}(x:Gl α):Nat→Option α
 |0=>some x.a0
 |1=>some x.a1
 |2=>some x.a2
 |3=>some x.a3
 |4=>some x.a4
 |5=>some x.a5
 |6=>some x.a6
 |7=>some x.a7
 |8=>some x.a8
 |9=>some x.a9
 |10=>some x.a10
 |11=>some x.a11
 |12=>some x.a12
 |_=>none
def Gl.set? {α:Type}(x:Gl α)(k:Nat)(v:α):Option (Gl α):=
 match k with
 |0=>some {x with a0:=v}
 |1=>some {x with a1:=v}
 |2=>some {x with a2:=v}
 |3=>some {x with a3:=v}
 |4=>some {x with a4:=v}
 |5=>some {x with a5:=v}
 |6=>some {x with a6:=v}
 |7=>some {x with a7:=v}
 |8=>some {x with a8:=v}
 |9=>some {x with a9:=v}
 |10=>some {x with a10:=v}
 |11=>some {x with a11:=v}
 |12=>some {x with a12:=v}
 |_=>none
structure Aj where
 Text:List UInt8
 Cycle:Int
 Age:Int
 deriving DecidableEq,Inhabited
@[reducible] def Aj.cells (x:Aj):List AV:=[.str x.Text,iav x.Cycle,iav x.Age]
@[reducible] def Aj.av (x:Aj):AV:=.agg [.str x.Text,iav x.Cycle,iav x.Age]
structure Ay where
 From:Int
 To:Int
 Delay:Int
 Bytes:List UInt8
 deriving DecidableEq,Inhabited
@[reducible] def Ay.cells (x:Ay):List AV:=[iav x.From,iav x.To,iav x.Delay,.str x.Bytes]
@[reducible] def Ay.av (x:Ay):AV:=.agg [iav x.From,iav x.To,iav x.Delay,.str x.Bytes]
structure Ba where
 Node:Int
 Image:List UInt8
 deriving DecidableEq,Inhabited
@[reducible] def Ba.cells (x:Ba):List AV:=[iav x.Node,.str x.Image]
@[reducible] def Ba.av (x:Ba):AV:=.agg [iav x.Node,.str x.Image]
structure Bd where
 Node:Int
 Text:List UInt8
 deriving DecidableEq,Inhabited
@[reducible] def Bd.cells (x:Bd):List AV:=[iav x.Node,.str x.Text]
@[reducible] def Bd.av (x:Bd):AV:=.agg [iav x.Node,.str x.Text]
structure Am where
 Units:List Int
 Delays:List Int
 Sends:List Ay
 Bursts:List Ba
 Strays:List Ay
 Writes:List Bd
 deriving DecidableEq,Inhabited
@[reducible] def Am.cells (x:Am):List AV:=[lav iav x.Units,lav iav x.Delays,lav Ay.av x.Sends,lav Ba.av x.Bursts,lav Ay.av x.Strays,lav Bd.av x.Writes]
@[reducible] def Am.av (x:Am):AV:=.agg [lav iav x.Units,lav iav x.Delays,lav Ay.av x.Sends,lav Ba.av x.Bursts,lav Ay.av x.Strays,lav Bd.av x.Writes]
structure Aa where
 Conf:Ab
 Faulty:List Int
 Images:List (List UInt8)
 Ticks:List Am
 deriving DecidableEq,Inhabited
@[reducible] def Aa.cells (x:Aa):List AV:=[iav x.Conf.N,iav x.Conf.F,iav x.Conf.D,iav x.Conf.Period,iav x.Conf.Rate,iav x.Conf.Drift,iav x.Conf.Offset,iav x.Conf.Slot,iav x.Conf.Mod,iav x.Conf.Fresh,lav iav x.Conf.Table,lav iav x.Faulty,lav sav x.Images,lav Am.av x.Ticks]
@[reducible] def Aa.av (x:Aa):AV:=.agg [iav x.Conf.N,iav x.Conf.F,iav x.Conf.D,iav x.Conf.Period,iav x.Conf.Rate,iav x.Conf.Drift,iav x.Conf.Offset,iav x.Conf.Slot,iav x.Conf.Mod,iav x.Conf.Fresh,lav iav x.Conf.Table,lav iav x.Faulty,lav sav x.Images,lav Am.av x.Ticks]
structure Ao where
 f_low:Int
 f_high:Int
 deriving DecidableEq,Inhabited
@[reducible] def Ao.cells (x:Ao):List AV:=[iav x.f_low,iav x.f_high]
@[reducible] def Ao.av (x:Ao):AV:=.agg [iav x.f_low,iav x.f_high]
structure Aw where
 f_n:Int
 f_span:Ao
 deriving DecidableEq,Inhabited
@[reducible] def Aw.cells (x:Aw):List AV:=[iav x.f_n,iav x.f_span.f_low,iav x.f_span.f_high]
@[reducible] def Aw.av (x:Aw):AV:=.agg [iav x.f_n,iav x.f_span.f_low,iav x.f_span.f_high]
structure Ax where
 Conf:Ab
 deriving DecidableEq,Inhabited
@[reducible] def Ax.cells (x:Ax):List AV:=[iav x.Conf.N,iav x.Conf.F,iav x.Conf.D,iav x.Conf.Period,iav x.Conf.Rate,iav x.Conf.Drift,iav x.Conf.Offset,iav x.Conf.Slot,iav x.Conf.Mod,iav x.Conf.Fresh,lav iav x.Conf.Table]
@[reducible] def Ax.av (x:Ax):AV:=.agg [iav x.Conf.N,iav x.Conf.F,iav x.Conf.D,iav x.Conf.Period,iav x.Conf.Rate,iav x.Conf.Drift,iav x.Conf.Offset,iav x.Conf.Slot,iav x.Conf.Mod,iav x.Conf.Fresh,lav iav x.Conf.Table]
structure Bx where
 f_plain:Ax
 f_wide:Int
 deriving DecidableEq,Inhabited
@[reducible] def Bx.cells (x:Bx):List AV:=[iav x.f_plain.Conf.N,iav x.f_plain.Conf.F,iav x.f_plain.Conf.D,iav x.f_plain.Conf.Period,iav x.f_plain.Conf.Rate,iav x.f_plain.Conf.Drift,iav x.f_plain.Conf.Offset,iav x.f_plain.Conf.Slot,iav x.f_plain.Conf.Mod,iav x.f_plain.Conf.Fresh,lav iav x.f_plain.Conf.Table,iav x.f_wide]
@[reducible] def Bx.av (x:Bx):AV:=.agg [iav x.f_plain.Conf.N,iav x.f_plain.Conf.F,iav x.f_plain.Conf.D,iav x.f_plain.Conf.Period,iav x.f_plain.Conf.Rate,iav x.f_plain.Conf.Drift,iav x.f_plain.Conf.Offset,iav x.f_plain.Conf.Slot,iav x.f_plain.Conf.Mod,iav x.f_plain.Conf.Fresh,lav iav x.f_plain.Conf.Table,iav x.f_wide]
structure An where
 Script:Aa
 deriving DecidableEq,Inhabited
@[reducible] def An.cells (x:An):List AV:=[iav x.Script.Conf.N,iav x.Script.Conf.F,iav x.Script.Conf.D,iav x.Script.Conf.Period,iav x.Script.Conf.Rate,iav x.Script.Conf.Drift,iav x.Script.Conf.Offset,iav x.Script.Conf.Slot,iav x.Script.Conf.Mod,iav x.Script.Conf.Fresh,lav iav x.Script.Conf.Table,lav iav x.Script.Faulty,lav sav x.Script.Images,lav Am.av x.Script.Ticks]
@[reducible] def An.av (x:An):AV:=.agg [iav x.Script.Conf.N,iav x.Script.Conf.F,iav x.Script.Conf.D,iav x.Script.Conf.Period,iav x.Script.Conf.Rate,iav x.Script.Conf.Drift,iav x.Script.Conf.Offset,iav x.Script.Conf.Slot,iav x.Script.Conf.Mod,iav x.Script.Conf.Fresh,lav iav x.Script.Conf.Table,lav iav x.Script.Faulty,lav sav x.Script.Images,lav Am.av x.Script.Ticks]
structure Ad where
 Script:Aa
 f_honest:List Int
 f_rows:List (List Ac)
 f_all:Int
 deriving DecidableEq,Inhabited
@[reducible] def Ad.cells (x:Ad):List AV:=[iav x.Script.Conf.N,iav x.Script.Conf.F,iav x.Script.Conf.D,iav x.Script.Conf.Period,iav x.Script.Conf.Rate,iav x.Script.Conf.Drift,iav x.Script.Conf.Offset,iav x.Script.Conf.Slot,iav x.Script.Conf.Mod,iav x.Script.Conf.Fresh,lav iav x.Script.Conf.Table,lav iav x.Script.Faulty,lav sav x.Script.Images,lav Am.av x.Script.Ticks,lav iav x.f_honest,lav (lav Ac.av) x.f_rows,iav x.f_all]
@[reducible] def Ad.av (x:Ad):AV:=.agg [iav x.Script.Conf.N,iav x.Script.Conf.F,iav x.Script.Conf.D,iav x.Script.Conf.Period,iav x.Script.Conf.Rate,iav x.Script.Conf.Drift,iav x.Script.Conf.Offset,iav x.Script.Conf.Slot,iav x.Script.Conf.Mod,iav x.Script.Conf.Fresh,lav iav x.Script.Conf.Table,lav iav x.Script.Faulty,lav sav x.Script.Images,lav Am.av x.Script.Ticks,lav iav x.f_honest,lav (lav Ac.av) x.f_rows,iav x.f_all]
structure Al where
 From:Int
 At:Int
 deriving DecidableEq,Inhabited
@[reducible] def Al.cells (x:Al):List AV:=[iav x.From,iav x.At]
@[reducible] def Al.av (x:Al):AV:=.agg [iav x.From,iav x.At]
structure Aq where
 Clock:Int
 Anchor:Int
 Since:Int
 Pipe:List UInt8
 Age:Int
 Vec:List UInt8
 Agreed:List UInt8
 Number:Int
 Regular:Int
 Members:List UInt8
 Seen:List UInt8
 Heard:List UInt8
 Sent:List UInt8
 Out:List UInt8
 Line:List UInt8
 Ports:List Aj
 Hold:List (List UInt8)
 Log:List Al
 Diag:Ar6 Int
 deriving DecidableEq,Inhabited
@[reducible] def Aq.cells (x:Aq):List AV:=[iav x.Clock,iav x.Anchor,iav x.Since,.str x.Pipe,iav x.Age,.str x.Vec,.str x.Agreed,iav x.Number,iav x.Regular,.str x.Members,.str x.Seen,.str x.Heard,.str x.Sent,.str x.Out,.str x.Line,lav Aj.av x.Ports,lav sav x.Hold,lav Al.av x.Log,iav x.Diag.a0,iav x.Diag.a1,iav x.Diag.a2,iav x.Diag.a3,iav x.Diag.a4,iav x.Diag.a5]
@[reducible] def Aq.av (x:Aq):AV:=.agg [iav x.Clock,iav x.Anchor,iav x.Since,.str x.Pipe,iav x.Age,.str x.Vec,.str x.Agreed,iav x.Number,iav x.Regular,.str x.Members,.str x.Seen,.str x.Heard,.str x.Sent,.str x.Out,.str x.Line,lav Aj.av x.Ports,lav sav x.Hold,lav Al.av x.Log,iav x.Diag.a0,iav x.Diag.a1,iav x.Diag.a2,iav x.Diag.a3,iav x.Diag.a4,iav x.Diag.a5]
structure Dq where
 f_s:List UInt8
 f_at:Int
 deriving DecidableEq,Inhabited
@[reducible] def Dq.cells (x:Dq):List AV:=[.str x.f_s,iav x.f_at]
@[reducible] def Dq.av (x:Dq):AV:=.agg [.str x.f_s,iav x.f_at]
structure Ae where
 f_reader:Dq
 f_c:Ab
 deriving DecidableEq,Inhabited
@[reducible] def Ae.cells (x:Ae):List AV:=[.str x.f_reader.f_s,iav x.f_reader.f_at,iav x.f_c.N,iav x.f_c.F,iav x.f_c.D,iav x.f_c.Period,iav x.f_c.Rate,iav x.f_c.Drift,iav x.f_c.Offset,iav x.f_c.Slot,iav x.f_c.Mod,iav x.f_c.Fresh,lav iav x.f_c.Table]
@[reducible] def Ae.av (x:Ae):AV:=.agg [.str x.f_reader.f_s,iav x.f_reader.f_at,iav x.f_c.N,iav x.f_c.F,iav x.f_c.D,iav x.f_c.Period,iav x.f_c.Rate,iav x.f_c.Drift,iav x.f_c.Offset,iav x.f_c.Slot,iav x.f_c.Mod,iav x.f_c.Fresh,lav iav x.f_c.Table]
structure Cs where
 f_slowest:Int
 f_fastest:Int
 deriving DecidableEq,Inhabited
@[reducible] def Cs.cells (x:Cs):List AV:=[iav x.f_slowest,iav x.f_fastest]
@[reducible] def Cs.av (x:Cs):AV:=.agg [iav x.f_slowest,iav x.f_fastest]
structure E0 where
 Ticks:Int
 Last:Int
 Settled:Int
 All:Int
 Cycles:Int
 Faults:Ar5 Int
 deriving DecidableEq,Inhabited
@[reducible] def E0.cells (x:E0):List AV:=[iav x.Ticks,iav x.Last,iav x.Settled,iav x.All,iav x.Cycles,iav x.Faults.a0,iav x.Faults.a1,iav x.Faults.a2,iav x.Faults.a3,iav x.Faults.a4]
@[reducible] def E0.av (x:E0):AV:=.agg [iav x.Ticks,iav x.Last,iav x.Settled,iav x.All,iav x.Cycles,iav x.Faults.a0,iav x.Faults.a1,iav x.Faults.a2,iav x.Faults.a3,iav x.Faults.a4]
def Cx (l:List Aj):Option (List Aj):=if l.length≤Ar then some l else none
theorem Md (l:List Aj)(g:Gr):Sim (Cx l) (Gv fun r q=>q=(AV.arr 0 0 (List.length r) 3 true,[(⟨true,(List.flatMap Aj.cells r)⟩:PF.Obj)])) (LM.call 243 [.lst g (List.map Aj.av l)] []):=by
 unfold Cx
 refine Sim.guard fun h=> ?_
 have h1:(Bk 3 true (List.map Aj.av l)&&Nat.ble (List.map Aj.av l).length Ar)=true:=by
  rw[Ca (by intro _;exact⟨rfl,rfl,rfl⟩)];simpa using h
 have h2:XE 243 [.lst g (List.map Aj.av l)]=some (AV.arr 0 0 (List.map Aj.av l).length 3 true,[(⟨true,(List.map Aj.av l).flatMap AV.cells⟩:PF.Obj)]):=by
  first
  |(show(if(Bk 3 true (List.map Aj.av l)&&Nat.ble (List.map Aj.av l).length Ar)=true then some (AV.arr 0 0 (List.map Aj.av l).length 3 true,[(⟨true,(List.map Aj.av l).flatMap AV.cells⟩:PF.Obj)])else none)=_;rw[h1];rfl)
  |(show(match(if(Bk 3 true (List.map Aj.av l)&&Nat.ble (List.map Aj.av l).length Ar)=true then some (AV.arr 0 0 (List.map Aj.av l).length 3 true,[(⟨true,(List.map Aj.av l).flatMap AV.cells⟩:PF.Obj)])else none)with
   |some r=>some r
   |none=>_)=_;rw[h1];rfl)
 refine Sim.ret ⟨(AV.arr 0 0 (List.map Aj.av l).length 3 true,[(⟨true,(List.map Aj.av l).flatMap AV.cells⟩:PF.Obj)]),by rw[Rf M XE rfl];exact h2,?_⟩
 show(AV.arr 0 0 (List.map Aj.av l).length 3 true,[(⟨true,(List.map Aj.av l).flatMap AV.cells⟩:PF.Obj)])=(AV.arr 0 0 (List.length l) 3 true,[(⟨true,(List.flatMap Aj.cells l)⟩:PF.Obj)])
 have h3:(List.map Aj.av l).flatMap AV.cells=(List.flatMap Aj.cells l):=Aut (f:=Aj.cells) (g:=Aj.av) (by intro _;rfl) [] l
 rw[h3,List.length_map]
def Dv (l:List (List UInt8)):Option (List (List UInt8)):=if l.length≤Ar then some l else none
theorem N4 (l:List (List UInt8))(g:Gr):Sim (Dv l) (Gv fun r q=>q=(AV.arr 0 0 (List.length r) 1 false,[(⟨true,(List.map sav r)⟩:PF.Obj)])) (LM.call 244 [.lst g (List.map sav l)] []):=by
 unfold Dv
 refine Sim.guard fun h=> ?_
 have h1:(Bk 1 false (List.map sav l)&&Nat.ble (List.map sav l).length Ar)=true:=by
  rw[Ca (by intro _;exact⟨rfl,rfl,rfl⟩)];simpa using h
 have h2:XE 244 [.lst g (List.map sav l)]=some (AV.arr 0 0 (List.map sav l).length 1 false,[(⟨true,(List.map sav l).flatMap AV.cells⟩:PF.Obj)]):=by
  first
  |(show(if(Bk 1 false (List.map sav l)&&Nat.ble (List.map sav l).length Ar)=true then some (AV.arr 0 0 (List.map sav l).length 1 false,[(⟨true,(List.map sav l).flatMap AV.cells⟩:PF.Obj)])else none)=_;rw[h1];rfl)
  |(show(match(if(Bk 1 false (List.map sav l)&&Nat.ble (List.map sav l).length Ar)=true then some (AV.arr 0 0 (List.map sav l).length 1 false,[(⟨true,(List.map sav l).flatMap AV.cells⟩:PF.Obj)])else none)with
   |some r=>some r
   |none=>_)=_;rw[h1];rfl)
 refine Sim.ret ⟨(AV.arr 0 0 (List.map sav l).length 1 false,[(⟨true,(List.map sav l).flatMap AV.cells⟩:PF.Obj)]),by rw[Rf M XE rfl];exact h2,?_⟩
 show(AV.arr 0 0 (List.map sav l).length 1 false,[(⟨true,(List.map sav l).flatMap AV.cells⟩:PF.Obj)])=(AV.arr 0 0 (List.length l) 1 false,[(⟨true,(List.map sav l)⟩:PF.Obj)])
 have h3:(List.map sav l).flatMap AV.cells=(List.map sav l):=Aof (f:=sav) (by intro _;rfl) [] l
 rw[h3,List.length_map]
def cT (rows:List (List Ac))(node lo hi:Int):Option (List Ag):=x0.Abw rows node lo hi
instance Am4 (rows:List (List Ac))(node lo hi:Int):HS (cT rows node lo hi) (LM.call 113 [lav (lav Ac.av) rows,iav node,iav lo,iav hi] []) (fun r q=>q=(lav Ag.av r,[])):=⟨by
 intro r hr
 refine⟨_,?_,rfl⟩
 rw[Rf M XE rfl]
 show(match x0.Adb 113 113 [lav (lav Ac.av) rows,iav node,iav lo,iav hi]with
  |some r=>some r
  |none=>_)=_
 rw[x0.An7 hr]⟩
def Bi (m:Af)(r:Ah)(l:List Ag):Option Int:=x0.Bi m r l
instance oG (m:Af)(r:Ah)(l:List Ag):HS (Bi m r l) (LM.call 137 [Af.av m,Ah.av r,lav Ag.av l] []) (fun r q=>q=(iav r,[])):=⟨by
 intro e he
 refine⟨_,?_,rfl⟩
 rw[Rf M XE rfl]
 show(match x0.mV 137 137 [Af.av m,Ah.av r,lav Ag.av l]with
  |some r=>some r
  |none=>_)=_
 rw[x0.Aip he]⟩
def strings_Repeat (s:List UInt8)(c:Int):Option (List UInt8):=if 0≤c∧c≤9223372036854775807∧s.length*c.toNat≤140737488355328 then some (Lib.repeatL s c.toNat)else none
instance zJ (s:List UInt8)(c:Int):HS (strings_Repeat s c) (LM.call 242 [.str s,.int .i64 c] []) (fun r q=>q=(.str r,[])):=⟨by
 unfold strings_Repeat
 refine Sim.guard fun h=>Sim.ret ⟨(.str (Lib.repeatL s c.toNat),[]),?_,rfl⟩
 rw[Rf M XE rfl]
 show(if 0≤c∧c≤9223372036854775807∧s.length*c.toNat≤140737488355328 then some (AV.str (Lib.repeatL s c.toNat),([]:List PF.Obj))else none)=_
 rw[if_pos h]⟩
def J8 (s0:Aa)(t0:Int):Option ((Int)⊕((Bool)⊕(Unit))):=
 if t0<(List.length s0.Images:Int)then
  (idx? s0.Images t0).bind fun z0=>
  if 16000<(List.length z0:Int)then
   some (.inr (.inl false))
  else
   some (.inl (wr (t0+1)))
 else
  some (.inr (.inr ()))
def Yp (s0:Aa)(t0:Int):Option ((Bool)⊕(Unit)):=
 Ai (fun s:Int=>J8 s0 s) t0
def lG (s0:Aa)(v:Int)(e:PF.St):Prop:=e=⟨[(2,.ept (Aa.cells s0) 0),(5,iav v)],[]⟩
instance Am5 (s0:Aa)(t0:Int):HL (Yp s0 t0) LM ([2,5],[],[2,4],As2) (lG s0 t0) (rS (rE fun r=>(Ex.ret,⟨[(2,.ept (Aa.cells s0) 0),(4,.bool r)],[]⟩)) (rE fun r=>((.exit 0),⟨[(2,.ept (Aa.cells s0) 0),(4,.undef)],[]⟩))):=by unfold Yp J8;exact lf
def J5 (s3:Aa)(o2:Int)(x0:List Ba)(x2:Int)(A0:Am)(x3:Int):Option ((Int)⊕((Bool)⊕(Unit))):=
 if x3<x2 then
  (idx? x0 x3).bind fun z3=>
  if 16000<(List.length z3.Image:Int)then
   some (.inr (.inl false))
  else
   some (.inl (wr (x3+1)))
 else
  some (.inr (.inr ()))
def Zb (s3:Aa)(o2:Int)(x0:List Ba)(x2:Int)(A0:Am)(x3:Int):Option ((Bool)⊕(Unit)):=
 Ai (fun s:Int=>J5 s3 o2 x0 x2 A0 s) x3
def lH (s3:Aa)(o2:Int)(x0:List Ba)(x2:Int)(A0:Am)(v:Int)(e:PF.St):Prop:=e=⟨[(2,.ept (Aa.cells s3) 0),(6,iav o2),(95,lav Ba.av x0),(96,iav x2),(97,iav v)],[(107,⟨true,Am.cells A0⟩)]⟩
instance Ana (s3:Aa)(o2:Int)(x0:List Ba)(x2:Int)(A0:Am)(x3:Int):HL (Zb s3 o2 x0 x2 A0 x3) LM ([2,6,95,96,97],[107],[2,4,6],Arr) (lH s3 o2 x0 x2 A0 x3) (rS (rE fun r=>(Ex.ret,⟨[(2,.ept (Aa.cells s3) 0),(4,.bool r),(6,iav o2)],[(107,⟨true,Am.cells A0⟩)]⟩)) (rE fun r=>((.exit 4),⟨[(2,.ept (Aa.cells s3) 0),(4,.undef),(6,iav o2)],[(107,⟨true,Am.cells A0⟩)]⟩))):=by unfold Zb J5;exact lf
def Jv (s2:Aa)(o0:Int):Option ((Int)⊕((Bool)⊕(Unit))):=
 if o0<(List.length s2.Ticks:Int)then
  (idx? s2.Ticks o0).bind fun z2=>
  if 100<(List.length z2.Units:Int)then
   some (.inr (.inl false))
  else
   if 400<(List.length z2.Delays:Int)then
    some (.inr (.inl false))
   else
    if 100<(List.length z2.Sends:Int)then
     some (.inr (.inl false))
    else
     if 100<(List.length z2.Bursts:Int)then
      some (.inr (.inl false))
     else
      if 100<(List.length z2.Strays:Int)then
       some (.inr (.inl false))
      else
       if 100<(List.length z2.Writes:Int)then
        some (.inr (.inl false))
       else
        (Zb s2 o0 z2.Bursts (List.length z2.Bursts:Int) z2 0).bind fun r4=>
        Sum.elim
         (fun r5=>
           some (.inr (.inl r5)))
         (fun r6=>
           some (.inl (wr (o0+1))))
         r4
 else
  some (.inr (.inr ()))
def Ym (s2:Aa)(o0:Int):Option ((Bool)⊕(Unit)):=
 Ai (fun s:Int=>Jv s2 s) o0
def lN (s2:Aa)(v:Int)(e:PF.St):Prop:=e=⟨[(2,.ept (Aa.cells s2) 0),(6,iav v)],[]⟩
instance Anz (s2:Aa)(o0:Int):HL (Ym s2 o0) LM ([2,6],[],[4],Ary) (lN s2 o0) (rS (rE fun r=>(Ex.ret,⟨[(4,.bool r)],[]⟩)) (rE fun r=>((.exit 2),⟨[(4,.undef)],[]⟩))):=by unfold Ym Jv;exact lf
def aP (L0:Aa)(i0:Int):Option Bool:=
 if i0<(List.length L0.Ticks:Int)then
  some false
 else
  if 100<(List.length L0.Conf.Table:Int)then
   some false
  else
   if 100<(List.length L0.Faulty:Int)then
    some false
   else
    if 100<(List.length L0.Images:Int)then
     some false
    else
     (Yp L0 0).bind fun r0=>
     Sum.elim
      (fun r2=>
        some r2)
      (fun r3=>
        (Ym L0 0).bind fun r7=>
        Sum.elim
         (fun r8=>
           some r8)
         (fun r9=>
           some true)
         r7)
      r0
instance Asv (L0:Aa)(i0:Int):HE bav (aP L0 i0) 23 [Aa.av L0,iav i0]:=⟨by unfold aP;exact sa⟩
def J4 (rows3:List (List Ac))(i2 k0:Int):Option ((Int)⊕((Bool)⊕(Unit))):=
 (idx? rows3 i2).bind fun z2=>
 if k0<(List.length z2:Int)then
  (idx? rows3 i2).bind fun z3=>
  (idx? z3 k0).bind fun z4=>
  if 40<(List.length z4.Got:Int)then
   some (.inr (.inl false))
  else
   some (.inl (wr (k0+1)))
 else
  some (.inr (.inr ()))
def Y9 (rows3:List (List Ac))(i2 k0:Int):Option ((Bool)⊕(Unit)):=
 Ai (fun s:Int=>J4 rows3 i2 s) k0
def lS (rows3:List (List Ac))(i2 v:Int)(e:PF.St):Prop:=e=⟨[(0,lav (lav Ac.av) rows3),(5,iav i2),(6,iav v)],[]⟩
instance Anp (rows3:List (List Ac))(i2 k0:Int):HL (Y9 rows3 i2 k0) LM ([0,5,6],[],[0,4,5],Atk) (lS rows3 i2 k0) (rS (rE fun r=>(Ex.ret,⟨[(0,lav (lav Ac.av) rows3),(4,.bool r),(5,iav i2)],[]⟩)) (rE fun r=>((.exit 2),⟨[(0,lav (lav Ac.av) rows3),(4,.undef),(5,iav i2)],[]⟩))):=by unfold Y9 J4;exact lf
def J6 (rows2:List (List Ac))(i0:Int):Option ((Int)⊕((Bool)⊕(Unit))):=
 if i0<(List.length rows2:Int)then
  (idx? rows2 i0).bind fun z0=>
  if 20<(List.length z0:Int)then
   some (.inr (.inl false))
  else
   (Y9 rows2 i0 0).bind fun r0=>
   Sum.elim
    (fun r2=>
      some (.inr (.inl r2)))
    (fun r3=>
      some (.inl (wr (i0+1))))
    r0
 else
  some (.inr (.inr ()))
def Yw (rows2:List (List Ac))(i0:Int):Option ((Bool)⊕(Unit)):=
 Ai (fun s:Int=>J6 rows2 s) i0
def lI (rows2:List (List Ac))(v:Int)(e:PF.St):Prop:=e=⟨[(0,lav (lav Ac.av) rows2),(5,iav v)],[]⟩
instance Amy (rows2:List (List Ac))(i0:Int):HL (Yw rows2 i0) LM ([0,5],[],[4],Atj) (lI rows2 i0) (rS (rE fun r=>(Ex.ret,⟨[(4,.bool r)],[]⟩)) (rE fun r=>((.exit 0),⟨[(4,.undef)],[]⟩))):=by unfold Yw J6;exact lf
def bH (rows:List (List Ac))(ticks:Int):Option Bool:=
 if ticks<(List.length rows:Int)then
  some false
 else
  (Yw rows 0).bind fun r4=>
  Sum.elim
   (fun r5=>
     some r5)
   (fun r6=>
     some true)
   r4
instance Ar4 (rows:List (List Ac))(ticks:Int):HE bav (bH rows ticks) 24 [lav (lav Ac.av) rows,iav ticks]:=⟨by unfold bH;exact sa⟩
def bD (s0:Aa)(rows:List (List Ac)):Option Bool:=
 (aP s0 400).bind fun r0=>
 if r0=true then
  (bH rows 400).bind fun r2=>
  some r2
 else
  some false
instance Arp (s0:Aa)(rows:List (List Ac)):HE bav (bD s0 rows) 7 [Aa.av s0,lav (lav Ac.av) rows]:=⟨by unfold bD;exact sa⟩
def cN :Option Bool:=some true
instance An2 :HE bav cN 8 []:=⟨Sim.ret ⟨_,(Lh M XE).2 ⟨400,by kernel_rfl⟩,rfl⟩⟩
def Ed (s0:Ao)(n0:Int):Option Bool:=
 if s0.f_low≤n0 then
  some (decide (n0≤s0.f_high))
 else
  some false
instance Aa0 (s0:Ao)(n0:Int):HE bav (Ed s0 n0) 123 [Ao.av s0,iav n0]:=⟨by unfold Ed;exact sa⟩
def Rp (c0:Ab):Option Bool:=
 (Ed (Ao.mk 4 13) c0.N).bind fun r0=>
 if r0=true then
  (Ed (Ao.mk 0 4) c0.F).bind fun r2=>
  if r2=true then
   some (decide ((wr (3*c0.F))<c0.N))
  else
   some false
 else
  some false
instance Ai2 (c0:Ab):HE bav (Rp c0) 122 [Ab.av c0]:=⟨by unfold Rp;exact sa⟩
def E3 (x0:List Aw)(x2 x3:Int):Option ((Int)⊕((Bool)⊕(Unit))):=
 if x3<x2 then
  (idx? x0 x3).bind fun z0=>
  (Ed z0.f_span z0.f_n).bind fun r0=>
  if(!r0)=true then
   some (.inr (.inl false))
  else
   some (.inl (wr (x3+1)))
 else
  some (.inr (.inr ()))
def M6 (x0:List Aw)(x2 x3:Int):Option ((Bool)⊕(Unit)):=
 Ai (fun s:Int=>E3 x0 x2 s) x3
def Z6 (x0:List Aw)(x2 v:Int)(e:PF.St):Prop:= ∃g0,e=⟨[(44,.lst g0 (List.map Aw.av x0)),(45,iav x2),(46,iav v)],[]⟩∧Mg 3 g0
instance yS (x0:List Aw)(x2 x3:Int):HL (M6 x0 x2 x3) LM ([44,45,46],[],[2],Ama) (Z6 x0 x2 x3) (rS (rE fun r=>(Ex.ret,⟨[(2,.bool r)],[]⟩)) (rE fun r=>((.exit 0),⟨[(2,.undef)],[]⟩))):=by unfold M6 E3;exact lf
def Nd (c0:Ab):Option Bool:=
 (M6 [(Aw.mk c0.Period (Ao.mk (wr ((wr ((wr (6*(wr (c0.F+1))))*c0.D))+1)) 400)),(Aw.mk c0.Rate (Ao.mk 1 64)),(Aw.mk c0.Drift (Ao.mk 0 (wr (c0.Rate-1)))),(Aw.mk c0.Offset (Ao.mk 0 30000)),(Aw.mk c0.Slot (Ao.mk 1 30000)),(Aw.mk c0.Mod (Ao.mk 2 250)),(Aw.mk c0.Fresh (Ao.mk 1 100))] (List.length [(Aw.mk c0.Period (Ao.mk (wr ((wr ((wr (6*(wr (c0.F+1))))*c0.D))+1)) 400)),(Aw.mk c0.Rate (Ao.mk 1 64)),(Aw.mk c0.Drift (Ao.mk 0 (wr (c0.Rate-1)))),(Aw.mk c0.Offset (Ao.mk 0 30000)),(Aw.mk c0.Slot (Ao.mk 1 30000)),(Aw.mk c0.Mod (Ao.mk 2 250)),(Aw.mk c0.Fresh (Ao.mk 1 100))]:Int) 0).bind fun r2=>
 Sum.elim
  (fun r3=>
    some r3)
  (fun r4=>
    some true)
  r2
instance Adt (c0:Ab):HE bav (Nd c0) 124 [Ab.av c0]:=⟨by
 unfold Nd
 refine sv fun S hS hw hw8 R hR=> ?_
 simp only[hw]
 refine au ?_
 refine Sim.kl hS (ys:=List.map Aw.av [(Aw.mk c0.Period (Ao.mk (S.wr ((S.wr ((S.wr (6*(S.wr (c0.F+1))))*c0.D))+1)) 400)),(Aw.mk c0.Rate (Ao.mk 1 64)),(Aw.mk c0.Drift (Ao.mk 0 (S.wr (c0.Rate-1)))),(Aw.mk c0.Offset (Ao.mk 0 30000)),(Aw.mk c0.Slot (Ao.mk 1 30000)),(Aw.mk c0.Mod (Ao.mk 2 250)),(Aw.mk c0.Fresh (Ao.mk 1 100))]) rfl ?_
 exact fin⟩
def C6 (c2:Ab)(x0:List Int)(x2:Int)(slots:Ao)(x3:Int)(owns:Gl Int):Option ((Int×(Gl Int))⊕((Bool×(Gl Int))⊕((Gl Int)))):=
 if x3<x2 then
  (idx? x0 x3).bind fun z0=>
  if z0<0 then
   some (.inr (.inl (false,owns)))
  else
   if c2.N≤z0 then
    some (.inr (.inl (false,owns)))
   else
    if 0≤z0∧z0<(13:Nat)then
     (Gl.get? (Gl.mk owns.a0 owns.a1 owns.a2 owns.a3 owns.a4 owns.a5 owns.a6 owns.a7 owns.a8 owns.a9 owns.a10 owns.a11 owns.a12) (Int.toNat z0)).bind fun z2=>
     if 0≤z0∧z0<(13:Nat)then
      (Gl.set? owns (Int.toNat z0) (wr (z2+1))).bind fun y0=>
      some (.inl ((wr (x3+1)),y0))
     else none
    else none
 else
  some (.inr (.inr owns))
def V5 (c2:Ab)(x0:List Int)(x2:Int)(slots:Ao)(x3:Int)(owns:Gl Int):Option ((Bool×(Gl Int))⊕((Gl Int))):=
 Ai (fun s:Int×(Gl Int)=>C6 c2 x0 x2 slots s.1 s.2) (x3,owns)
def Uh (c2:Ab)(x0:List Int)(x2:Int)(slots:Ao)(v:Int×(Gl Int))(e:PF.St):Prop:=e=⟨[(1,.ept (Ab.cells c2) 0),(4,.ptr 104 0),(17,lav iav x0),(18,iav x2),(19,iav v.1)],[(104,⟨true,Gl.cells iav v.2⟩),(103,⟨true,Ao.cells slots⟩)]⟩
instance Ad7 (c2:Ab)(x0:List Int)(x2:Int)(slots:Ao)(x3:Int)(owns:Gl Int):HL (V5 c2 x0 x2 slots x3 owns) LM ([1,4,17,18,19],[103,104],[1,2,4],Akv) (Uh c2 x0 x2 slots (x3,owns)) (rS (rE fun r=>(Ex.ret,⟨[(1,.ept (Ab.cells c2) 0),(2,.bool r.1),(4,.ptr 104 0)],[(104,⟨true,Gl.cells iav r.2⟩),(103,⟨true,Ao.cells slots⟩)]⟩)) (rE fun r=>((.exit 0),⟨[(1,.ept (Ab.cells c2) 0),(2,.undef),(4,.ptr 104 0)],[(104,⟨true,Gl.cells iav r⟩),(103,⟨true,Ao.cells slots⟩)]⟩))):=by
 refine lv (Uh c2 x0 x2 slots) _ fun S hS hw hw8 R hR=> ?_
 rintro⟨x3,owns⟩ env hp he
 cases he
 show Sim (C6 c2 x0 x2 slots x3 owns) _ _
 unfold C6
 simp only[hw]
 refine au (.ite Iff.rfl (fun hc2=> ?_) fun hc2=> ?_)
 ·refine au ?_
  refine Sim.ix (by simp) (fun z0 hz0=> ?_)
  refine au ?_
  refine Sim.go (Bw _ hz0) ?_
  refine au (.ite Iff.rfl (fun hc3=> ?_) fun hc3=> ?_)
  ·exact fin
  ·refine au (.ite Iff.rfl (fun hc4=> ?_) fun hc4=> ?_)
   ·exact fin
   ·refine au ?_
    first|refine Sim.ite Iff.rfl (fun hb=> ?_) (fun _=>Sim.no)|refine Sim.guard (fun hb=> ?_)
    refine au ?_
    refine Sim.opt (f:=iav) (by have hb':(Int.toNat z0)<13:=(by omega);generalize (Int.toNat z0)=j at hb' ⊢;rcases j with _|_|_|_|_|_|_|_|_|_|_|_|_|j<;>first|rfl|exact absurd hb' (by omega)) (fun z2 _=> ?_)
    refine au ?_
    first|refine Sim.ite Iff.rfl (fun hb2=> ?_) (fun _=>Sim.no)|refine Sim.guard (fun hb2=> ?_)
    refine au ?_
    refine Sim.opt (f:=fun y0=>[iav y0.a0,iav y0.a1,iav y0.a2,iav y0.a3,iav y0.a4,iav y0.a5,iav y0.a6,iav y0.a7,iav y0.a8,iav y0.a9,iav y0.a10,iav y0.a11,iav y0.a12]) (by have hb':(Int.toNat z0)<13:=(by omega);generalize (Int.toNat z0)=j at hb' ⊢;rcases j with _|_|_|_|_|_|_|_|_|_|_|_|_|j<;>first|rfl|exact absurd hb' (by omega)) (fun y0 _=> ?_)
    exact fin
 ·exact fin
def Er (len:Nat)(x4:Int)(owns2:Gl Int)(slots2:Ao)(x5:Int):Option ((Int)⊕((Bool)⊕(Unit))):=
 if x5<x4 then
  if 0≤x5∧x5<((len:Nat):Int)then
   (Gl.get? (Gl.mk owns2.a0 owns2.a1 owns2.a2 owns2.a3 owns2.a4 owns2.a5 owns2.a6 owns2.a7 owns2.a8 owns2.a9 owns2.a10 owns2.a11 owns2.a12) (Int.toNat x5)).bind fun z3=>
   if z3=0 then
    some (.inr (.inl false))
   else
    some (.inl (wr (x5+1)))
  else none
 else
  some (.inr (.inr ()))
def Vm (len:Nat)(x4:Int)(owns2:Gl Int)(slots2:Ao)(x5:Int):Option ((Bool)⊕(Unit)):=
 Ai (fun s:Int=>Er len x4 owns2 slots2 s) x5
def T1 (len:Nat)(x4:Int)(owns2:Gl Int)(slots2:Ao)(v:Int)(e:PF.St):Prop:=e=⟨[(39,.arr 104 0 len 1 false),(40,iav x4),(41,iav v)],[(104,⟨true,Gl.cells iav owns2⟩),(103,⟨true,Ao.cells slots2⟩)]⟩
instance Acr (len:Nat)(x4:Int)(owns2:Gl Int)(slots2:Ao)(x5:Int):HL (Vm len x4 owns2 slots2 x5) LM ([39,40,41],[103,104],[2],Ah4) (T1 len x4 owns2 slots2 x5) (rS (rE fun r=>(Ex.ret,⟨[(2,.bool r)],[(104,⟨true,Gl.cells iav owns2⟩),(103,⟨true,Ao.cells slots2⟩)]⟩)) (rE fun r=>((.exit 2),⟨[(2,.undef)],[(104,⟨true,Gl.cells iav owns2⟩),(103,⟨true,Ao.cells slots2⟩)]⟩))):=by
 refine lv (T1 len x4 owns2 slots2) _ fun S hS hw hw8 R hR=> ?_
 rintro x5 env hp he
 cases he
 show Sim (Er len x4 owns2 slots2 x5) _ _
 unfold Er
 simp only[hw]
 refine au (.ite Iff.rfl (fun hc5=> ?_) fun hc5=> ?_)
 ·refine au ?_
  first|refine Sim.ite Iff.rfl (fun _=> ?_) (fun _=>Sim.no)|refine Sim.guard (fun _=> ?_)
  refine au ?_
  refine Sim.opt (f:=iav) (by generalize (Int.toNat x5)=j;rcases j with _|_|_|_|_|_|_|_|_|_|_|_|_|j<;>first|rfl|exact(Acs (by simp only[List.length_cons,List.length_nil];omega)).trans rfl|exact(eK _ (by simp) _ _ (by simp only[List.length_cons,List.length_nil];omega)).trans rfl) (fun z3 _=> ?_)
  exact fin
 ·exact fin
def Sb (c0:Ab):Option Bool:=
 (Ed (Ao.mk 1 32) (List.length c0.Table:Int)).bind fun r0=>
 if(!r0)=true then
  some false
 else
  (V5 c0 c0.Table (List.length c0.Table:Int) (Ao.mk 1 32) 0 (Gl.mk 0 0 0 0 0 0 0 0 0 0 0 0 0)).bind fun r2=>
  Sum.elim
   (fun r3=>
     some r3.1)
   (fun r4=>
     if 0≤c0.N∧c0.N≤(13:Nat)then
      (Vm ((Int.toNat c0.N)-0) ((((Int.toNat c0.N)-0):Nat):Int) r4 (Ao.mk 1 32) 0).bind fun r5=>
      Sum.elim
       (fun r6=>
         some r6)
       (fun r7=>
         some true)
       r5
     else none)
   r2
instance Ahk (c0:Ab):HE bav (Sb c0) 125 [Ab.av c0]:=⟨by unfold Sb;exact sa⟩
def Bs (c0:Ab):Option Int:=
 (Rp c0).bind fun r0=>
 if(!r0)=true then
  some 7
 else
  (Ed (Ao.mk 1 4) c0.D).bind fun r2=>
  if(!r2)=true then
   some 10
  else
   (Nd c0).bind fun r3=>
   if(!r3)=true then
    some 8
   else
    (Sb c0).bind fun r4=>
    if(!r4)=true then
     some 11
    else
     some 0
instance Aiy (c0:Ab):HE iav (Bs c0) 66 [Ab.av c0]:=⟨by unfold Bs;exact sa⟩
def Lk (c0:Ab):Option (Ax×Bool):=
 (Bs c0).bind fun r0=>
 some ((Ax.mk c0),(decide (r0=0)))
instance Apx (c0:Ab):HS (Lk c0) (LM.call 120 [Ab.av c0] []) fun r q=>q=(.tup [Ax.av r.1,.bool r.2],[]):=⟨by unfold Lk;exact sa⟩
def Dw (p0:Ax)(slot:Int):Option Int:=
 some (wr (p0.Conf.Offset+(wr (slot*p0.Conf.Slot))))
instance rO (p0:Ax)(slot:Int):HE iav (Dw p0 slot) 238 [Ax.av p0,iav slot]:=⟨by unfold Dw;exact sa⟩
def Gb (p0:Ax)(slot:Int):Option Int:=
 (Dw p0 slot).bind fun r0=>
 some (wr (r0+(wr (Int.tdiv p0.Conf.Slot 2))))
instance qX (p0:Ax)(slot:Int):HE iav (Gb p0 slot) 246 [Ax.av p0,iav slot]:=⟨by unfold Gb;exact sa⟩
def Fi (p0:Ax):Option Int:=
 (Gb p0 (wr ((List.length p0.Conf.Table:Int)-1))).bind fun r0=>
 some r0
instance tP (p0:Ax):HE iav (Fi p0) 224 [Ax.av p0]:=⟨by unfold Fi;exact sa⟩
def C3 (p0:Ax):Option Int:=
 some (wr (p0.Conf.Rate-p0.Conf.Drift))
instance nB (p0:Ax):HE iav (C3 p0) 225 [Ax.av p0]:=⟨by unfold C3;exact sa⟩
def G8 (p0:Ax):Option Int:=
 (Fi p0).bind fun r0=>
 (C3 p0).bind fun r2=>
 (C3 p0).bind fun r3=>
 if r3=0 then none else
 some (wr ((wr ((wr (Int.tdiv (wr ((wr ((wr ((wr (2*p0.Conf.Drift))*r0))+r2))-1)) r3))+p0.Conf.Rate))+(wr ((wr (p0.Conf.D+1))*p0.Conf.Drift))))
instance rH (p0:Ax):HE iav (G8 p0) 181 [Ax.av p0]:=⟨by unfold G8;exact sa⟩
def Jq (s0:Bx):Option Bool:=
 some (decide ((wr (2*s0.f_wide))<s0.f_plain.Conf.Slot))
instance rD (s0:Bx):HE bav (Jq s0) 182 [Bx.av s0]:=⟨by unfold Jq;exact sa⟩
def Kz (s0:Bx):Option Bool:=
 (Fi s0.f_plain).bind fun r0=>
 (C3 s0.f_plain).bind fun r2=>
 some (decide ((wr ((wr (r0+(wr (s0.f_plain.Conf.D*s0.f_plain.Conf.Rate))))+s0.f_wide))≤(wr ((wr (s0.f_plain.Conf.Period-1))*r2))))
instance sI (s0:Bx):HE bav (Kz s0) 183 [Bx.av s0]:=⟨by unfold Kz;exact sa⟩
def Hm (p0:Ax):Option Int:=
 some (wr (p0.Conf.Rate+p0.Conf.Drift))
instance mD (p0:Ax):HE iav (Hm p0) 226 [Ax.av p0]:=⟨by unfold Hm;exact sa⟩
def Js (s0:Bx):Option Bool:=
 (Hm s0.f_plain).bind fun r0=>
 some (decide ((wr (s0.f_plain.Conf.Period*r0))<32768))
instance rU (s0:Bx):HE bav (Js s0) 184 [Bx.av s0]:=⟨by unfold Js;exact sa⟩
def Pj (c0:Ab):Option Int:=
 (Lk c0).bind fun r0=>
 if(!r0.2)=true then
  (Bs c0).bind fun r2=>
  some r2
 else
  (G8 r0.1).bind fun r3=>
  (Jq (Bx.mk r0.1 r3)).bind fun r4=>
  if(!r4)=true then
   some 8
  else
   (Kz (Bx.mk r0.1 r3)).bind fun r5=>
   if(!r5)=true then
    some 8
   else
    (Js (Bx.mk r0.1 r3)).bind fun r6=>
    if(!r6)=true then
     some 8
    else
     some 0
instance Afz (c0:Ab):HE iav (Pj c0) 114 [Ab.av c0]:=⟨by unfold Pj;exact sa⟩
def Fo (n0 low high:Int):Option Int:=
 if n0<low then
  some low
 else
  if high<low then
   some low
  else
   if high<n0 then
    some high
   else
    some n0
instance Amz (n0 low high:Int):HE iav (Fo n0 low high) 178 [iav n0,iav low,iav high]:=⟨by unfold Fo;exact sa⟩
def E7 (c0:Ab):Option Int:=
 (Fo c0.N 0 13).bind fun r0=>
 some r0
instance Aed (c0:Ab):HE iav (E7 c0) 110 [Ab.av c0]:=⟨by unfold E7;exact sa⟩
def Fp (c0:Ab)(n0:Int):Option Bool:=
 if 0≤n0 then
  (E7 c0).bind fun r0=>
  some (decide (n0<r0))
 else
  some false
instance Anc (c0:Ab)(n0:Int):HE bav (Fp c0 n0) 95 [Ab.av c0,iav n0]:=⟨by unfold Fp;exact sa⟩
def A9 (s2:List Int)(v2 x0 x2:Int):Option ((Int)⊕((Int)⊕(Unit))):=
 if x2<x0 then
  (idx? s2 x2).bind fun z0=>
  if v2=z0 then
   some (.inr (.inl x2))
  else
   some (.inl (wr (x2+1)))
 else
  some (.inr (.inr ()))
def Bn (s2:List Int)(v2 x0 x2:Int):Option ((Int)⊕(Unit)):=
 Ai (fun s:Int=>A9 s2 v2 x0 s) x2
def F5 (s2:List Int)(v2 x0 v:Int)(e:PF.St):Prop:=e=⟨[(0,lav iav s2),(1,iav v2),(7,iav x0),(8,iav v)],[]⟩
instance R2 (s2:List Int)(v2 x0 x2:Int):HL (Bn s2 v2 x0 x2) LM ([0,1,7,8],[],[4],kA) (F5 s2 v2 x0 x2) (rS (rE fun r=>(Ex.ret,⟨[(4,iav r)],[]⟩)) (rE fun r=>((.exit 0),⟨[(4,.undef)],[]⟩))):=by unfold Bn A9;exact lf
def Bp (s0:List Int)(v0:Int):Option Int:=
 (Bn s0 v0 (List.length s0:Int) 0).bind fun r0=>
 Sum.elim
  (fun r2=>
    some r2)
  (fun r3=>
    some (-1))
  r0
instance Td (s0:List Int)(v0:Int):HE iav (Bp s0 v0) 222 [lav iav s0,iav v0]:=⟨by unfold Bp;exact sa⟩
def Au (s0:List Int)(v0:Int):Option Bool:=
 (Bp s0 v0).bind fun r0=>
 some (decide (0≤r0))
instance Qr (s0:List Int)(v0:Int):HE bav (Au s0 v0) 179 [lav iav s0,iav v0]:=⟨by unfold Au;exact sa⟩
def Dm (s2:Aa)(x0:List Int)(x2 x3:Int):Option ((Int)⊕((Bool)⊕(Unit))):=
 if x3<x2 then
  (idx? x0 x3).bind fun z0=>
  (Fp s2.Conf z0).bind fun r0=>
  if(!r0)=true then
   some (.inr (.inl false))
  else
   if 0≤x3∧x3≤((List.length s2.Faulty):Nat)then
    (Au (List.take (Int.toNat x3) s2.Faulty) z0).bind fun r2=>
    if r2=true then
     some (.inr (.inl false))
    else
     some (.inl (wr (x3+1)))
   else none
 else
  some (.inr (.inr ()))
def P5 (s2:Aa)(x0:List Int)(x2 x3:Int):Option ((Bool)⊕(Unit)):=
 Ai (fun s:Int=>Dm s2 x0 x2 s) x3
def Qh (s2:Aa)(x0:List Int)(x2 v:Int)(e:PF.St):Prop:=e=⟨[(1,.ept (Aa.cells s2) 0),(6,lav iav x0),(7,iav x2),(8,iav v)],[]⟩
instance wF (s2:Aa)(x0:List Int)(x2 x3:Int):HL (P5 s2 x0 x2 x3) LM ([1,6,7,8],[],[2],Amj) (Qh s2 x0 x2 x3) (rS (rE fun r=>(Ex.ret,⟨[(2,.bool r)],[]⟩)) (rE fun r=>((.exit 0),⟨[(2,.undef)],[]⟩))):=by
 refine lv (Qh s2 x0 x2) _ fun S hS hw hw8 R hR=> ?_
 rintro x3 env hp he
 cases he
 show Sim (Dm s2 x0 x2 x3) _ _
 unfold Dm
 simp only[hw]
 refine au (.ite Iff.rfl (fun hc=> ?_) fun hc=> ?_)
 ·refine au ?_
  refine Sim.ix (by simp) (fun z0 hz0=> ?_)
  refine au ?_
  refine Sim.go (Bw _ hz0) ?_
  refine au (.hc hR ?_)
  rintro r0 q rfl
  refine au (.iteB (fun hc2=> ?_) fun hc2=> ?_)
  ·exact fin
  ·refine au ?_
   first|(refine Sim.goB (Ue (by intro _;rfl) _) ?_)|skip
   refine au ?_
   refine Sim.kn hS (m:=(List.length s2.Faulty)) (by simp) ?_
   refine au ?_
   first|refine Sim.ite Iff.rfl (fun _=> ?_) (fun _=>Sim.no)|refine Sim.guard (fun _=> ?_)
   refine au ?_
   refine Sim.kl hS (ys:=List.map iav (List.take (Int.toNat x3) s2.Faulty)) (by simp only[PF.cut,List.map_drop,List.map_take]) ?_
   exact fin
 ·exact fin
def Ph (s0:Aa):Option Bool:=
 (P5 s0 s0.Faulty (List.length s0.Faulty:Int) 0).bind fun r3=>
 Sum.elim
  (fun r4=>
    some r4)
  (fun r5=>
    some true)
  r3
instance Abe (s0:Aa):HE bav (Ph s0) 115 [Aa.av s0]:=⟨by unfold Ph;exact sa⟩
def Nf (i0:List UInt8):Option Bool:=
 some (decide ((List.length i0:Int)≤8000))
instance wY (i0:List UInt8):HE bav (Nf i0) 117 [.str i0]:=⟨by unfold Nf;exact sa⟩
def Pf (s0:Ay):Option Bool:=
 if 0≤s0.Delay then
  some (decide (s0.Delay≤65535))
 else
  some false
instance Aaa (s0:Ay):HE bav (Pf s0) 185 [Ay.av s0]:=⟨by unfold Pf;exact sa⟩
def Kg (n0:Int):Option Bool:=
 if 0≤n0 then
  some (decide (n0≤65535))
 else
  some false
instance vP (n0:Int):HE bav (Kg n0) 228 [iav n0]:=⟨by unfold Kg;exact sa⟩
def Dg (x0:List Int)(x2 x3:Int):Option ((Int)⊕((Bool)⊕(Unit))):=
 if x3<x2 then
  (idx? x0 x3).bind fun z0=>
  (Kg z0).bind fun r0=>
  if(!r0)=true then
   some (.inr (.inl false))
  else
   some (.inl (wr (x3+1)))
 else
  some (.inr (.inr ()))
def L8 (x0:List Int)(x2 x3:Int):Option ((Bool)⊕(Unit)):=
 Ai (fun s:Int=>Dg x0 x2 s) x3
def U0 (x0:List Int)(x2 v:Int)(e:PF.St):Prop:=e=⟨[(1,.fn 228 []),(7,lav iav x0),(8,iav x2),(9,iav v)],[]⟩
instance pS (x0:List Int)(x2 x3:Int):HL (L8 x0 x2 x3) LM ([1,7,8,9],[],[4],Aj3) (U0 x0 x2 x3) (rS (rE fun r=>(Ex.ret,⟨[(4,.bool r)],[]⟩)) (rE fun r=>((.exit 0),⟨[(4,.undef)],[]⟩))):=by unfold L8 Dg;exact lf
def Ky (l0:List Int):Option Bool:=
 (L8 l0 (List.length l0:Int) 0).bind fun r2=>
 Sum.elim
  (fun r3=>
    some r3)
  (fun r4=>
    some true)
  r2
instance vN (l0:List Int):HE bav (Ky l0) 227 [lav iav l0,.fn 228 []]:=⟨by unfold Ky;exact sa⟩
def H2 (l0:List Int)(most:Int):Option Bool:=
 if(List.length l0:Int)≤most then
  (Ky l0).bind fun r0=>
  some r0
 else
  some false
instance yN (l0:List Int)(most:Int):HE bav (H2 l0 most) 186 [lav iav l0,iav most]:=⟨by unfold H2;exact sa⟩
def Pz (t0:Am):Option Bool:=
 some (decide (40<(mmL true (List.length t0.Sends:Int) [(List.length t0.Bursts:Int),(List.length t0.Strays:Int),(List.length t0.Writes:Int)])))
instance Afl (t0:Am):HE bav (Pz t0) 188 [Am.av t0]:=⟨by unfold Pz;exact sa⟩
def Kc (s0:Ay)(o0:Ab):Option (Bool×Ab):=
 (Fp o0 s0.From).bind fun r0=>
 if r0=true then
  (Fp o0 s0.To).bind fun r2=>
  some (r2,o0)
 else
  some (false,o0)
instance xN (s0:Ay)(o0:Ab):HS (Kc s0 o0) (LM.call 229 [Ay.av s0,.ptr 0 0] [⟨true,Ab.cells o0⟩]) fun r q=>q=(.bool r.1,[⟨true,Ab.cells r.2⟩]):=⟨by unfold Kc;exact sa⟩
def Cb (x0:List Ay)(x2 x3:Int)(o2:Ab):Option ((Int×Ab)⊕((Bool×Ab)⊕(Ab))):=
 if x3<x2 then
  (idx? x0 x3).bind fun z0=>
  (Kc z0 o2).bind fun r0=>
  if(!r0.1)=true then
   some (.inr (.inl (false,r0.2)))
  else
   some (.inl ((wr (x3+1)),r0.2))
 else
  some (.inr (.inr o2))
def Hw (x0:List Ay)(x2 x3:Int)(o2:Ab):Option ((Bool×Ab)⊕(Ab)):=
 Ai (fun s:Int×Ab=>Cb x0 x2 s.1 s.2) (x3,o2)
def Q0 (x0:List Ay)(x2:Int)(v:Int×Ab)(e:PF.St):Prop:=e=⟨[(1,.fn 229 [.ptr 0 0]),(7,lav Ay.av x0),(8,iav x2),(9,iav v.1)],[(0,⟨true,Ab.cells v.2⟩)]⟩
instance gF (x0:List Ay)(x2 x3:Int)(o2:Ab):HL (Hw x0 x2 x3 o2) LM ([1,7,8,9],[],[4],oW) (Q0 x0 x2 (x3,o2)) (rS (rE fun r=>(Ex.ret,⟨[(4,.bool r.1)],[(0,⟨true,Ab.cells r.2⟩)]⟩)) (rE fun r=>((.exit 0),⟨[(4,.undef)],[(0,⟨true,Ab.cells r⟩)]⟩))):=by unfold Hw Cb;exact lf
def D6 (l0:List Ay)(o0:Ab):Option (Bool×Ab):=
 (Hw l0 (List.length l0:Int) 0 o0).bind fun r2=>
 Sum.elim
  (fun r3=>
    some (r3.1,r3.2))
  (fun r4=>
    some (true,r4))
  r2
instance kZ (l0:List Ay)(o0:Ab):HS (D6 l0 o0) (LM.call 187 [lav Ay.av l0,.fn 229 [.ptr 0 0]] [⟨true,Ab.cells o0⟩]) fun r q=>q=(.bool r.1,[⟨true,Ab.cells r.2⟩]):=⟨by unfold D6;exact sa⟩
def Nu (b0:Ba)(o0:Ab):Option (Bool×Ab):=
 (Fp o0 b0.Node).bind fun r0=>
 some (r0,o0)
instance zC (b0:Ba)(o0:Ab):HS (Nu b0 o0) (LM.call 231 [Ba.av b0,.ptr 0 0] [⟨true,Ab.cells o0⟩]) fun r q=>q=(.bool r.1,[⟨true,Ab.cells r.2⟩]):=⟨by unfold Nu;exact sa⟩
def B5 (x0:List Ba)(x2 x3:Int)(o2:Ab):Option ((Int×Ab)⊕((Bool×Ab)⊕(Ab))):=
 if x3<x2 then
  (idx? x0 x3).bind fun z0=>
  (Nu z0 o2).bind fun r0=>
  if(!r0.1)=true then
   some (.inr (.inl (false,r0.2)))
  else
   some (.inl ((wr (x3+1)),r0.2))
 else
  some (.inr (.inr o2))
def Hg (x0:List Ba)(x2 x3:Int)(o2:Ab):Option ((Bool×Ab)⊕(Ab)):=
 Ai (fun s:Int×Ab=>B5 x0 x2 s.1 s.2) (x3,o2)
def P8 (x0:List Ba)(x2:Int)(v:Int×Ab)(e:PF.St):Prop:=e=⟨[(1,.fn 231 [.ptr 0 0]),(7,lav Ba.av x0),(8,iav x2),(9,iav v.1)],[(0,⟨true,Ab.cells v.2⟩)]⟩
instance fB (x0:List Ba)(x2 x3:Int)(o2:Ab):HL (Hg x0 x2 x3 o2) LM ([1,7,8,9],[],[4],wW) (P8 x0 x2 (x3,o2)) (rS (rE fun r=>(Ex.ret,⟨[(4,.bool r.1)],[(0,⟨true,Ab.cells r.2⟩)]⟩)) (rE fun r=>((.exit 0),⟨[(4,.undef)],[(0,⟨true,Ab.cells r⟩)]⟩))):=by unfold Hg B5;exact lf
def Fa (l0:List Ba)(o0:Ab):Option (Bool×Ab):=
 (Hg l0 (List.length l0:Int) 0 o0).bind fun r2=>
 Sum.elim
  (fun r3=>
    some (r3.1,r3.2))
  (fun r4=>
    some (true,r4))
  r2
instance gR (l0:List Ba)(o0:Ab):HS (Fa l0 o0) (LM.call 230 [lav Ba.av l0,.fn 231 [.ptr 0 0]] [⟨true,Ab.cells o0⟩]) fun r q=>q=(.bool r.1,[⟨true,Ab.cells r.2⟩]):=⟨by unfold Fa;exact sa⟩
def Nt (w0:Bd)(o0:Ab):Option (Bool×Ab):=
 (Fp o0 w0.Node).bind fun r0=>
 some (r0,o0)
instance zL (w0:Bd)(o0:Ab):HS (Nt w0 o0) (LM.call 232 [Bd.av w0,.ptr 0 0] [⟨true,Ab.cells o0⟩]) fun r q=>q=(.bool r.1,[⟨true,Ab.cells r.2⟩]):=⟨by unfold Nt;exact sa⟩
def B0 (x0:List Bd)(x2 x3:Int)(o2:Ab):Option ((Int×Ab)⊕((Bool×Ab)⊕(Ab))):=
 if x3<x2 then
  (idx? x0 x3).bind fun z0=>
  (Nt z0 o2).bind fun r0=>
  if(!r0.1)=true then
   some (.inr (.inl (false,r0.2)))
  else
   some (.inl ((wr (x3+1)),r0.2))
 else
  some (.inr (.inr o2))
def Hh (x0:List Bd)(x2 x3:Int)(o2:Ab):Option ((Bool×Ab)⊕(Ab)):=
 Ai (fun s:Int×Ab=>B0 x0 x2 s.1 s.2) (x3,o2)
def Qd (x0:List Bd)(x2:Int)(v:Int×Ab)(e:PF.St):Prop:=e=⟨[(1,.fn 232 [.ptr 0 0]),(7,lav Bd.av x0),(8,iav x2),(9,iav v.1)],[(0,⟨true,Ab.cells v.2⟩)]⟩
instance fR (x0:List Bd)(x2 x3:Int)(o2:Ab):HL (Hh x0 x2 x3 o2) LM ([1,7,8,9],[],[4],wV) (Qd x0 x2 (x3,o2)) (rS (rE fun r=>(Ex.ret,⟨[(4,.bool r.1)],[(0,⟨true,Ab.cells r.2⟩)]⟩)) (rE fun r=>((.exit 0),⟨[(4,.undef)],[(0,⟨true,Ab.cells r⟩)]⟩))):=by unfold Hh B0;exact lf
def E4 (l0:List Bd)(o0:Ab):Option (Bool×Ab):=
 (Hh l0 (List.length l0:Int) 0 o0).bind fun r2=>
 Sum.elim
  (fun r3=>
    some (r3.1,r3.2))
  (fun r4=>
    some (true,r4))
  r2
instance jO (l0:List Bd)(o0:Ab):HS (E4 l0 o0) (LM.call 191 [lav Bd.av l0,.fn 232 [.ptr 0 0]] [⟨true,Ab.cells o0⟩]) fun r q=>q=(.bool r.1,[⟨true,Ab.cells r.2⟩]):=⟨by unfold E4;exact sa⟩
def Nj (c0:Ab)(t0:Am):Option Bool:=
 (D6 t0.Sends c0).bind fun r0=>
 if r0.1=true then
  (D6 t0.Strays r0.2).bind fun r2=>
  if r2.1=true then
   (Fa t0.Bursts r2.2).bind fun r3=>
   if r3.1=true then
    (E4 t0.Writes r3.2).bind fun r4=>
    some r4.1
   else
    some false
  else
   some false
 else
  some false
instance Adm (c0:Ab)(t0:Am):HE bav (Nj c0 t0) 189 [Ab.av c0,Am.av t0]:=⟨by unfold Nj;exact sa⟩
def Nr (s0:Ay):Option Bool:=
 some (decide ((List.length s0.Bytes:Int)≤40))
instance xY (s0:Ay):HE bav (Nr s0) 233 [Ay.av s0]:=⟨by unfold Nr;exact sa⟩
def Nh (b0:Ba):Option Bool:=
 some (decide ((List.length b0.Image:Int)≤8000))
instance wT (b0:Ba):HE bav (Nh b0) 234 [Ba.av b0]:=⟨by unfold Nh;exact sa⟩
def Bu (x0:List Ay)(x2 x3:Int):Option ((Int)⊕((Bool)⊕(Unit))):=
 if x3<x2 then
  (idx? x0 x3).bind fun z0=>
  (Nr z0).bind fun r0=>
  if(!r0)=true then
   some (.inr (.inl false))
  else
   some (.inl (wr (x3+1)))
 else
  some (.inr (.inr ()))
def F0 (x0:List Ay)(x2 x3:Int):Option ((Bool)⊕(Unit)):=
 Ai (fun s:Int=>Bu x0 x2 s) x3
def N6 (x0:List Ay)(x2 v:Int)(e:PF.St):Prop:=e=⟨[(1,.fn 233 []),(7,lav Ay.av x0),(8,iav x2),(9,iav v)],[]⟩
instance dD (x0:List Ay)(x2 x3:Int):HL (F0 x0 x2 x3) LM ([1,7,8,9],[],[4],oW) (N6 x0 x2 x3) (rS (rE fun r=>(Ex.ret,⟨[(4,.bool r)],[]⟩)) (rE fun r=>((.exit 0),⟨[(4,.undef)],[]⟩))):=by unfold F0 Bu;exact lf
def Db (l0:List Ay):Option Bool:=
 (F0 l0 (List.length l0:Int) 0).bind fun r2=>
 Sum.elim
  (fun r3=>
    some r3)
  (fun r4=>
    some true)
  r2
instance fQ (l0:List Ay):HE bav (Db l0) 187 [lav Ay.av l0,.fn 233 []]:=⟨by unfold Db;exact sa⟩
def Bq (x0:List Ba)(x2 x3:Int):Option ((Int)⊕((Bool)⊕(Unit))):=
 if x3<x2 then
  (idx? x0 x3).bind fun z0=>
  (Nh z0).bind fun r0=>
  if(!r0)=true then
   some (.inr (.inl false))
  else
   some (.inl (wr (x3+1)))
 else
  some (.inr (.inr ()))
def E5 (x0:List Ba)(x2 x3:Int):Option ((Bool)⊕(Unit)):=
 Ai (fun s:Int=>Bq x0 x2 s) x3
def Ny (x0:List Ba)(x2 v:Int)(e:PF.St):Prop:=e=⟨[(1,.fn 234 []),(7,lav Ba.av x0),(8,iav x2),(9,iav v)],[]⟩
instance cI (x0:List Ba)(x2 x3:Int):HL (E5 x0 x2 x3) LM ([1,7,8,9],[],[4],wW) (Ny x0 x2 x3) (rS (rE fun r=>(Ex.ret,⟨[(4,.bool r)],[]⟩)) (rE fun r=>((.exit 0),⟨[(4,.undef)],[]⟩))):=by unfold E5 Bq;exact lf
def D3 (l0:List Ba):Option Bool:=
 (E5 l0 (List.length l0:Int) 0).bind fun r2=>
 Sum.elim
  (fun r3=>
    some r3)
  (fun r4=>
    some true)
  r2
instance eF (l0:List Ba):HE bav (D3 l0) 230 [lav Ba.av l0,.fn 234 []]:=⟨by unfold D3;exact sa⟩
def Nl (t0:Am):Option Bool:=
 (Db t0.Sends).bind fun r0=>
 if r0=true then
  (Db t0.Strays).bind fun r2=>
  if r2=true then
   (D3 t0.Bursts).bind fun r3=>
   some r3
  else
   some false
 else
  some false
instance Adg (t0:Am):HE bav (Nl t0) 190 [Am.av t0]:=⟨by unfold Nl;exact sa⟩
def O8 (w0:Bd):Option Bool:=
 some (decide ((List.length w0.Text:Int)≤16))
instance Aae (w0:Bd):HE bav (O8 w0) 192 [Bd.av w0]:=⟨by unfold O8;exact sa⟩
def Bv (x0:List Ay)(x2 x3:Int):Option ((Int)⊕((Bool)⊕(Unit))):=
 if x3<x2 then
  (idx? x0 x3).bind fun z0=>
  (Pf z0).bind fun r0=>
  if(!r0)=true then
   some (.inr (.inl false))
  else
   some (.inl (wr (x3+1)))
 else
  some (.inr (.inr ()))
def Fy (x0:List Ay)(x2 x3:Int):Option ((Bool)⊕(Unit)):=
 Ai (fun s:Int=>Bv x0 x2 s) x3
def N3 (x0:List Ay)(x2 v:Int)(e:PF.St):Prop:=e=⟨[(1,.fn 185 []),(7,lav Ay.av x0),(8,iav x2),(9,iav v)],[]⟩
instance cK (x0:List Ay)(x2 x3:Int):HL (Fy x0 x2 x3) LM ([1,7,8,9],[],[4],oW) (N3 x0 x2 x3) (rS (rE fun r=>(Ex.ret,⟨[(4,.bool r)],[]⟩)) (rE fun r=>((.exit 0),⟨[(4,.undef)],[]⟩))):=by unfold Fy Bv;exact lf
def Da (l0:List Ay):Option Bool:=
 (Fy l0 (List.length l0:Int) 0).bind fun r2=>
 Sum.elim
  (fun r3=>
    some r3)
  (fun r4=>
    some true)
  r2
instance fN (l0:List Ay):HE bav (Da l0) 187 [lav Ay.av l0,.fn 185 []]:=⟨by unfold Da;exact sa⟩
def Bo (x0:List Bd)(x2 x3:Int):Option ((Int)⊕((Bool)⊕(Unit))):=
 if x3<x2 then
  (idx? x0 x3).bind fun z0=>
  (O8 z0).bind fun r0=>
  if(!r0)=true then
   some (.inr (.inl false))
  else
   some (.inl (wr (x3+1)))
 else
  some (.inr (.inr ()))
def E9 (x0:List Bd)(x2 x3:Int):Option ((Bool)⊕(Unit)):=
 Ai (fun s:Int=>Bo x0 x2 s) x3
def Nz (x0:List Bd)(x2 v:Int)(e:PF.St):Prop:=e=⟨[(1,.fn 192 []),(7,lav Bd.av x0),(8,iav x2),(9,iav v)],[]⟩
instance cJ (x0:List Bd)(x2 x3:Int):HL (E9 x0 x2 x3) LM ([1,7,8,9],[],[4],wV) (Nz x0 x2 x3) (rS (rE fun r=>(Ex.ret,⟨[(4,.bool r)],[]⟩)) (rE fun r=>((.exit 0),⟨[(4,.undef)],[]⟩))):=by unfold E9 Bo;exact lf
def D2 (l0:List Bd):Option Bool:=
 (E9 l0 (List.length l0:Int) 0).bind fun r2=>
 Sum.elim
  (fun r3=>
    some r3)
  (fun r4=>
    some true)
  r2
instance eC (l0:List Bd):HE bav (D2 l0) 191 [lav Bd.av l0,.fn 192 []]:=⟨by unfold D2;exact sa⟩
def P3 (c0:Ab)(t0:Am):Option Int:=
 (H2 t0.Units c0.N).bind fun r0=>
 if(!r0)=true then
  some 2
 else
  (H2 t0.Delays (wr (c0.N*c0.N))).bind fun r2=>
  if(!r2)=true then
   some 2
  else
   (Da t0.Sends).bind fun r3=>
   if(!r3)=true then
    some 2
   else
    (Da t0.Strays).bind fun r4=>
    if(!r4)=true then
     some 2
    else
     (Pz t0).bind fun r5=>
     if r5=true then
      some 9
     else
      (Nj c0 t0).bind fun r6=>
      if(!r6)=true then
       some 7
      else
       (Nl t0).bind fun r7=>
       if(!r7)=true then
        some 6
       else
        (D2 t0.Writes).bind fun r8=>
        if(!r8)=true then
         some 15
        else
         some 0
instance Af0 (c0:Ab)(t0:Am):HE iav (P3 c0 t0) 118 [Ab.av c0,Am.av t0]:=⟨by unfold P3;exact sa⟩
def Ct (x0:List (List UInt8))(x2 x3:Int):Option ((Int)⊕((Bool)⊕(Unit))):=
 if x3<x2 then
  (idx? x0 x3).bind fun z0=>
  (Nf z0).bind fun r0=>
  if(!r0)=true then
   some (.inr (.inl false))
  else
   some (.inl (wr (x3+1)))
 else
  some (.inr (.inr ()))
def Jj (x0:List (List UInt8))(x2 x3:Int):Option ((Bool)⊕(Unit)):=
 Ai (fun s:Int=>Ct x0 x2 s) x3
def Sc (x0:List (List UInt8))(x2 v:Int)(e:PF.St):Prop:=e=⟨[(1,.fn 117 []),(7,lav sav x0),(8,iav x2),(9,iav v)],[]⟩
instance lA (x0:List (List UInt8))(x2 x3:Int):HL (Jj x0 x2 x3) LM ([1,7,8,9],[],[4],Ajj) (Sc x0 x2 x3) (rS (rE fun r=>(Ex.ret,⟨[(4,.bool r)],[]⟩)) (rE fun r=>((.exit 0),⟨[(4,.undef)],[]⟩))):=by unfold Jj Ct;exact lf
def Hn (l0:List (List UInt8)):Option Bool:=
 (Jj l0 (List.length l0:Int) 0).bind fun r2=>
 Sum.elim
  (fun r3=>
    some r3)
  (fun r4=>
    some true)
  r2
instance mF (l0:List (List UInt8)):HE bav (Hn l0) 116 [lav sav l0,.fn 117 []]:=⟨by unfold Hn;exact sa⟩
def E1 (s2:Aa)(x0:List Am)(x2 x3:Int):Option ((Int)⊕((Int)⊕(Unit))):=
 if x3<x2 then
  (idx? x0 x3).bind fun z0=>
  (P3 s2.Conf z0).bind fun r4=>
  if r4≠0 then
   some (.inr (.inl r4))
  else
   some (.inl (wr (x3+1)))
 else
  some (.inr (.inr ()))
def My (s2:Aa)(x0:List Am)(x2 x3:Int):Option ((Int)⊕(Unit)):=
 Ai (fun s:Int=>E1 s2 x0 x2 s) x3
def Zv (s2:Aa)(x0:List Am)(x2 v:Int)(e:PF.St):Prop:=e=⟨[(1,.ept (Aa.cells s2) 0),(36,lav Am.av x0),(37,iav x2),(38,iav v)],[]⟩
instance xB (s2:Aa)(x0:List Am)(x2 x3:Int):HL (My s2 x0 x2 x3) LM ([1,36,37,38],[],[2],Asz) (Zv s2 x0 x2 x3) (rS (rE fun r=>(Ex.ret,⟨[(2,iav r)],[]⟩)) (rE fun r=>((.exit 0),⟨[(2,.undef)],[]⟩))):=by unfold My E1;exact lf
def G2 (s0:Aa):Option Int:=
 (Pj s0.Conf).bind fun r0=>
 if r0≠0 then
  some r0
 else
  (Ph s0).bind fun r2=>
  if(!r2)=true then
   some 7
  else
   if s0.Conf.N<(List.length s0.Images:Int)then
    some 6
   else
    if 2000<(List.length s0.Ticks:Int)then
     some 6
    else
     (Hn s0.Images).bind fun r3=>
     if(!r3)=true then
      some 6
     else
      (My s0 s0.Ticks (List.length s0.Ticks:Int) 0).bind fun r5=>
      Sum.elim
       (fun r6=>
         some r6)
       (fun r7=>
         some 0)
       r5
instance Acg (s0:Aa):HE iav (G2 s0) 62 [Aa.av s0]:=⟨by unfold G2;exact sa⟩
def Lc (s0:Aa)(node:Int):Option Bool:=
 (Au s0.Faulty node).bind fun r0=>
 some r0
instance Aa9 (s0:Aa)(node:Int):HE bav (Lc s0 node) 111 [Aa.av s0,iav node]:=⟨by unfold Lc;exact sa⟩
def Dp (s2:Aa)(x0:Int)(out:List Int)(x2:Int):Option (((List Int)×Int)⊕((List Int))):=
 if x2<x0 then
  (Lc s2 x2).bind fun r2=>
  if(!r2)=true then
   if List.length out+List.length [x2]≤Ar then
    some (.inl ((out++[x2]),(wr (x2+1))))
   else none
  else
   some (.inl (out,(wr (x2+1))))
 else
  some (.inr out)
def Qb (s2:Aa)(x0:Int)(out:List Int)(x2:Int):Option ((List Int)):=
 Ai (fun s:(List Int)×Int=>Dp s2 x0 s.1 s.2) (out,x2)
def Qk (s2:Aa)(x0:Int)(v:(List Int)×Int)(e:PF.St):Prop:= ∃g0,e=⟨[(1,.ept (Aa.cells s2) 0),(3,.lst g0 (List.map iav v.1)),(7,iav x0),(8,iav v.2)],[]⟩∧Mg 1 g0
instance wN (s2:Aa)(x0:Int)(out:List Int)(x2:Int):HL (Qb s2 x0 out x2) LM ([1,3,7,8],[],[3],Ati) (Qk s2 x0 (out,x2)) (fun r (q:Ex×PF.St)=> ∃g0',q=((.exit 0),⟨[(3,.lst g0' (List.map iav r))],[]⟩)∧Mg 1 g0'):=by
 refine lv (Qk s2 x0) _ fun S hS hw hw8 R hR=> ?_
 rintro⟨out,x2⟩ env hp ⟨g0,he,hg0⟩
 cases he
 show Sim (Dp s2 x0 out x2) _ _
 unfold Dp
 simp only[hw]
 refine au (.ite Iff.rfl (fun hc=> ?_) fun hc=> ?_)
 ·refine au (.hc hR ?_)
  rintro r2 q rfl
  refine au (.iteB (fun hc2=> ?_) fun hc2=> ?_)
  ·refine au ?_
   refine Sim.kl hS (ys:=List.map iav [x2]) rfl ?_
   refine au ?_
   first|(refine Sim.goB (Cj (by intro _;rfl) hg0 _) ?_)|skip
   refine au ?_
   first|(refine Sim.goB (Ca (by intro _;exact⟨rfl,rfl,rfl⟩) _) ?_)|skip
   refine au ?_
   first|refine Sim.ite (by simp) (fun _=> ?_) (fun _=>Sim.no)|refine Sim.guard (fun _=> ?_)
   exact fin
  ·exact fin
 ·exact fin
def Jb (s0:Aa):Option ((List Int)):=
 (E7 s0.Conf).bind fun r0=>
 (Qb s0 r0 ([]:List Int) 0).bind fun r3=>
 some r3
instance Aax (s0:Aa):HE (lav iav) (Jb s0) 58 [Aa.av s0]:=⟨by unfold Jb;exact sa⟩
def Jn (r0:An)(t0:Int):Option Bool:=
 (idx? r0.Script.Ticks t0).bind fun z0=>
 if(List.length z0.Bursts:Int)=0 then
  (idx? r0.Script.Ticks t0).bind fun z2=>
  some (decide ((List.length z2.Strays:Int)=0))
 else
  some false
instance rT (r0:An)(t0:Int):HE bav (Jn r0 t0) 193 [An.av r0,iav t0]:=⟨by unfold Jn;exact sa⟩
def Q4 (s0:Aa)(t0:Int):Option (Am×Bool):=
 if t0<0 then
  some ((Am.mk ([]:List Int) ([]:List Int) ([]:List Ay) ([]:List Ba) ([]:List Ay) ([]:List Bd)),false)
 else
  if(List.length s0.Ticks:Int)≤t0 then
   some ((Am.mk ([]:List Int) ([]:List Int) ([]:List Ay) ([]:List Ba) ([]:List Ay) ([]:List Bd)),false)
  else
   (idx? s0.Ticks t0).bind fun z0=>
   some (z0,true)
instance Anb (s0:Aa)(t0:Int):HS (Q4 s0 t0) (LM.call 247 [Aa.av s0,iav t0] []) fun r q=>q=(.tup [Am.av r.1,.bool r.2],[]):=⟨by unfold Q4;exact sa⟩
def Ek (l0:List Int)(place usual:Int):Option Int:=
 if place<(List.length l0:Int)then
  (idx? l0 place).bind fun z0=>
  some z0
 else
  some usual
instance rC (l0:List Int)(place usual:Int):HE iav (Ek l0 place usual) 248 [lav iav l0,iav place,iav usual]:=⟨by unfold Ek;exact sa⟩
def Mw (s0:Aa)(t0 node:Int):Option Int:=
 (Q4 s0 t0).bind fun r0=>
 if(!r0.2)=true then
  some 0
 else
  (Fp s0.Conf node).bind fun r2=>
  if(!r2)=true then
   some 0
  else
   (Ek r0.1.Units node s0.Conf.Rate).bind fun r3=>
   some r3
instance Abn (s0:Aa)(t0 node:Int):HE iav (Mw s0 t0 node) 235 [Aa.av s0,iav t0,iav node]:=⟨by unfold Mw;exact sa⟩
def Fs (r0:An)(t0 node:Int):Option Bool:=
 (Mw r0.Script t0 node).bind fun r2=>
 if(wr (r0.Script.Conf.Rate-r0.Script.Conf.Drift))≤r2 then
  some (decide (r2≤(wr (r0.Script.Conf.Rate+r0.Script.Conf.Drift))))
 else
  some false
instance qO (r0:An)(t0 node:Int):HE bav (Fs r0 t0 node) 194 [An.av r0,iav t0,iav node]:=⟨by unfold Fs;exact sa⟩
def M1 (s0:Aa)(t0 from0 to0:Int):Option Int:=
 (Q4 s0 t0).bind fun r0=>
 if(!r0.2)=true then
  some 0
 else
  (Fp s0.Conf from0).bind fun r2=>
  if(!r2)=true then
   some 0
  else
   (Fp s0.Conf to0).bind fun r3=>
   if(!r3)=true then
    some 0
   else
    (E7 s0.Conf).bind fun r4=>
    (Ek r0.1.Delays (wr ((wr (from0*r4))+to0)) s0.Conf.D).bind fun r5=>
    some r5
instance Ach (s0:Aa)(t0 from0 to0:Int):HE iav (M1 s0 t0 from0 to0) 236 [Aa.av s0,iav t0,iav from0,iav to0]:=⟨by unfold M1;exact sa⟩
def C9 (t2 from2:Int)(r2:An)(x0:List Int)(x2 x3:Int):Option ((Int)⊕((Bool)⊕(Unit))):=
 if x3<x2 then
  (idx? x0 x3).bind fun z0=>
  (M1 r2.Script t2 from2 z0).bind fun r3=>
  if r3<1 then
   some (.inr (.inl false))
  else
   if r2.Script.Conf.D<r3 then
    some (.inr (.inl false))
   else
    some (.inl (wr (x3+1)))
 else
  some (.inr (.inr ()))
def K7 (t2 from2:Int)(r2:An)(x0:List Int)(x2 x3:Int):Option ((Bool)⊕(Unit)):=
 Ai (fun s:Int=>C9 t2 from2 r2 x0 x2 s) x3
def T4 (t2 from2:Int)(r2:An)(x0:List Int)(x2 v:Int)(e:PF.St):Prop:=e=⟨[(1,iav t2),(2,iav from2),(4,.ept (An.cells r2) 0),(12,lav iav x0),(13,iav x2),(14,iav v)],[]⟩
instance nU (t2 from2:Int)(r2:An)(x0:List Int)(x2 x3:Int):HL (K7 t2 from2 r2 x0 x2 x3) LM ([1,2,4,12,13,14],[],[8],Ahw) (T4 t2 from2 r2 x0 x2 x3) (rS (rE fun r=>(Ex.ret,⟨[(8,.bool r)],[]⟩)) (rE fun r=>((.exit 0),⟨[(8,.undef)],[]⟩))):=by unfold K7 C9;exact lf
def Jm (r0:An)(t0 from0:Int)(others:List Int):Option Bool:=
 (K7 t0 from0 r0 others (List.length others:Int) 0).bind fun r4=>
 Sum.elim
  (fun r5=>
    some r5)
  (fun r6=>
    some true)
  r4
instance rN (r0:An)(t0 from0:Int)(others:List Int):HE bav (Jm r0 t0 from0 others) 195 [An.av r0,iav t0,iav from0,lav iav others]:=⟨by unfold Jm;exact sa⟩
def Co (t2:Int)(r4:An)(honest x0:List Int)(x2 x3:Int):Option ((Int)⊕((Bool)⊕(Unit))):=
 if x3<x2 then
  (idx? x0 x3).bind fun z0=>
  (Fs r4 t2 z0).bind fun r5=>
  if(!r5)=true then
   some (.inr (.inl false))
  else
   (Jm r4 t2 z0 honest).bind fun r6=>
   if(!r6)=true then
    some (.inr (.inl false))
   else
    some (.inl (wr (x3+1)))
 else
  some (.inr (.inr ()))
def Ik (t2:Int)(r4:An)(honest x0:List Int)(x2 x3:Int):Option ((Bool)⊕(Unit)):=
 Ai (fun s:Int=>Co t2 r4 honest x0 x2 s) x3
def U2 (t2:Int)(r4:An)(honest x0:List Int)(x2 v:Int)(e:PF.St):Prop:=e=⟨[(1,iav t2),(2,.ept (An.cells r4) 0),(5,lav iav honest),(15,lav iav x0),(16,iav x2),(17,iav v)],[]⟩
instance qM (t2:Int)(r4:An)(honest x0:List Int)(x2 x3:Int):HL (Ik t2 r4 honest x0 x2 x3) LM ([1,2,5,15,16,17],[],[4],Ajl) (U2 t2 r4 honest x0 x2 x3) (rS (rE fun r=>(Ex.ret,⟨[(4,.bool r)],[]⟩)) (rE fun r=>((.exit 0),⟨[(4,.undef)],[]⟩))):=by unfold Ik Co;exact lf
def H7 (r0:An)(t0:Int):Option Bool:=
 (Jn r0 t0).bind fun r2=>
 if(!r2)=true then
  some false
 else
  (Jb r0.Script).bind fun r3=>
  (Ik t0 r0 r3 r3 (List.length r3:Int) 0).bind fun r7=>
  Sum.elim
   (fun r8=>
     some r8)
   (fun r9=>
     some true)
   r7
instance vV (r0:An)(t0:Int):HE bav (H7 r0 t0) 119 [An.av r0,iav t0]:=⟨by unfold H7;exact sa⟩
def Cl (r2:An)(t0:Int):Option ((Int)⊕Int):=
 if 0≤t0 then
  (H7 r2 t0).bind fun r3=>
  if r3=true then
   some (.inl (wr (t0-1)))
  else
   some (.inr t0)
 else
  some (.inr t0)
def Il (r2:An)(t0:Int):Option Int:=
 Ai (fun s:Int=>Cl r2 s) t0
def Uz (r2:An)(v:Int)(e:PF.St):Prop:=e=⟨[(1,.ept (An.cells r2) 0),(3,iav v)],[]⟩
instance rB (r2:An)(t0:Int):HL (Il r2 t0) LM ([1,3],[],[3],Atf) (Uz r2 t0) (rE fun r=>((.exit 0),⟨[(3,iav r)],[]⟩)):=by unfold Il Cl;exact lf
def Ec (r0:An):Option Int:=
 (Il r0 (wr ((List.length r0.Script.Ticks:Int)-1))).bind fun r4=>
 some r4
instance vX (r0:An):HE iav (Ec r0) 63 [An.av r0]:=⟨by unfold Ec;exact sa⟩
def S2 (c0:Ab):Option Int:=
 (Bs c0).bind fun r0=>
 if r0≠0 then
  some 0
 else
  some (wr (3*(wr (c0.F+1))))
instance Aft (c0:Ab):HE iav (S2 c0) 196 [Ab.av c0]:=⟨by unfold S2;exact sa⟩
def Hb (c0:Ab):Option Int:=
 (S2 c0).bind fun r0=>
 some (wr (r0*(max c0.D 0)))
instance Afp (c0:Ab):HE iav (Hb c0) 121 [Ab.av c0]:=⟨by unfold Hb;exact sa⟩
def Kx (c0:Ab):Option Int:=
 (Lk c0).bind fun r0=>
 if(!r0.2)=true then
  some 0
 else
  (Hb c0).bind fun r2=>
  some (wr ((wr (1+(wr (4*r2))))+(wr (2*c0.Period))))
instance Ade (c0:Ab):HE iav (Kx c0) 64 [Ab.av c0]:=⟨by unfold Kx;exact sa⟩
def Uj (c0:Ab):Option Int:=
 (Lk c0).bind fun r0=>
 if(!r0.2)=true then
  some 0
 else
  (Kx c0).bind fun r2=>
  some (wr (r2+(wr (4*c0.Period))))
instance Am1 (c0:Ab):HE iav (Uj c0) 65 [Ab.av c0]:=⟨by unfold Uj;exact sa⟩
def Mn (s0:Aa):Option Int:=
 (G2 s0).bind fun r0=>
 if r0≠0 then
  some 0
 else
  (Ec (An.mk s0)).bind fun r2=>
  (Uj s0.Conf).bind fun r3=>
  some (wr (r2+r3))
instance Afs (s0:Aa):HE iav (Mn s0) 30 [Aa.av s0]:=⟨by unfold Mn;exact sa⟩
def Li (s0:Aa):Option Int:=
 (G2 s0).bind fun r0=>
 if r0≠0 then
  some r0
 else
  if s0.Conf.F<(List.length s0.Faulty:Int)then
   some 7
  else
   some 0
instance Aag (s0:Aa):HE iav (Li s0) 57 [Aa.av s0]:=⟨by unfold Li;exact sa⟩
def G5 (rows2:List (List Ac))(s2:Aa)(x0:List (List Ac))(x2:Int)(x4:Ad)(x3:Int):Option ((Int)⊕((Int×Ad)⊕(Unit))):=
 if x3<x2 then
  (idx? x0 x3).bind fun z0=>
  if(List.length z0:Int)≠s2.Conf.N then
   some (.inr (.inl (2,(Ad.mk (Aa.mk (Ab.mk 0 0 0 0 0 0 0 0 0 0 ([]:List Int)) ([]:List Int) ([]:List (List UInt8)) ([]:List Am)) ([]:List Int) ([]:List (List Ac)) 0))))
  else
   some (.inl (wr (x3+1)))
 else
  some (.inr (.inr ()))
def Q1 (rows2:List (List Ac))(s2:Aa)(x0:List (List Ac))(x2:Int)(x4:Ad)(x3:Int):Option ((Int×Ad)⊕(Unit)):=
 Ai (fun s:Int=>G5 rows2 s2 x0 x2 x4 s) x3
def cX (rows2:List (List Ac))(s2:Aa)(x0:List (List Ac))(x2:Int)(x4:Ad)(v:Int)(e:PF.St):Prop:= ∃g0,∃g2,∃g3,∃g4,∃g5,∃g6,e=⟨[(1,lav (lav Ac.av) rows2),(2,.ept (Aa.cells s2) 0),(4,.ptr 104 0),(22,lav (lav Ac.av) x0),(23,iav x2),(24,iav v)],[(104,⟨true,[iav x4.Script.Conf.N,iav x4.Script.Conf.F,iav x4.Script.Conf.D,iav x4.Script.Conf.Period,iav x4.Script.Conf.Rate,iav x4.Script.Conf.Drift,iav x4.Script.Conf.Offset,iav x4.Script.Conf.Slot,iav x4.Script.Conf.Mod,iav x4.Script.Conf.Fresh,.lst g0 (List.map iav x4.Script.Conf.Table),.lst g2 (List.map iav x4.Script.Faulty),.lst g3 (List.map sav x4.Script.Images),.lst g4 (List.map Am.av x4.Script.Ticks),.lst g5 (List.map iav x4.f_honest),.lst g6 (List.map (lav Ac.av) x4.f_rows),iav x4.f_all]⟩)]⟩∧Mg 1 g0∧Mg 1 g2∧Mg 1 g3∧Mg 6 g4∧Mg 1 g5∧Mg 1 g6
instance Aey (rows2:List (List Ac))(s2:Aa)(x0:List (List Ac))(x2:Int)(x4:Ad)(x3:Int):HL (Q1 rows2 s2 x0 x2 x4 x3) LM ([1,2,4,22,23,24],[104],[1,2,4,5],Ar8) (cX rows2 s2 x0 x2 x4 x3) (rS (fun r (q:Ex×PF.St)=> ∃g0',∃g1',∃g2',∃g3',∃g4',∃g5',q=(Ex.ret,⟨[(1,lav (lav Ac.av) rows2),(2,.ept (Aa.cells s2) 0),(4,.ptr 104 0),(5,iav r.1)],[(104,⟨true,[iav r.2.Script.Conf.N,iav r.2.Script.Conf.F,iav r.2.Script.Conf.D,iav r.2.Script.Conf.Period,iav r.2.Script.Conf.Rate,iav r.2.Script.Conf.Drift,iav r.2.Script.Conf.Offset,iav r.2.Script.Conf.Slot,iav r.2.Script.Conf.Mod,iav r.2.Script.Conf.Fresh,.lst g0' (List.map iav r.2.Script.Conf.Table),.lst g1' (List.map iav r.2.Script.Faulty),.lst g2' (List.map sav r.2.Script.Images),.lst g3' (List.map Am.av r.2.Script.Ticks),.lst g4' (List.map iav r.2.f_honest),.lst g5' (List.map (lav Ac.av) r.2.f_rows),iav r.2.f_all]⟩)]⟩)∧Mg 1 g0'∧Mg 1 g1'∧Mg 1 g2'∧Mg 6 g3'∧Mg 1 g4'∧Mg 1 g5') (fun r (q:Ex×PF.St)=> ∃g0',∃g1',∃g2',∃g3',∃g4',∃g5',q=((.exit 0),⟨[(1,lav (lav Ac.av) rows2),(2,.ept (Aa.cells s2) 0),(4,.ptr 104 0),(5,.undef)],[(104,⟨true,[iav x4.Script.Conf.N,iav x4.Script.Conf.F,iav x4.Script.Conf.D,iav x4.Script.Conf.Period,iav x4.Script.Conf.Rate,iav x4.Script.Conf.Drift,iav x4.Script.Conf.Offset,iav x4.Script.Conf.Slot,iav x4.Script.Conf.Mod,iav x4.Script.Conf.Fresh,.lst g0' (List.map iav x4.Script.Conf.Table),.lst g1' (List.map iav x4.Script.Faulty),.lst g2' (List.map sav x4.Script.Images),.lst g3' (List.map Am.av x4.Script.Ticks),.lst g4' (List.map iav x4.f_honest),.lst g5' (List.map (lav Ac.av) x4.f_rows),iav x4.f_all]⟩)]⟩)∧Mg 1 g0'∧Mg 1 g1'∧Mg 1 g2'∧Mg 6 g3'∧Mg 1 g4'∧Mg 1 g5')):=by unfold Q1 G5;exact lf
def Rc (s0:Aa)(rows:List (List Ac)):Option (Ad×Int):=
 (Li s0).bind fun r0=>
 if r0≠0 then
  some ((Ad.mk (Aa.mk (Ab.mk 0 0 0 0 0 0 0 0 0 0 ([]:List Int)) ([]:List Int) ([]:List (List UInt8)) ([]:List Am)) ([]:List Int) ([]:List (List Ac)) 0),r0)
 else
  if(List.length rows:Int)≠(List.length s0.Ticks:Int)then
   some ((Ad.mk (Aa.mk (Ab.mk 0 0 0 0 0 0 0 0 0 0 ([]:List Int)) ([]:List Int) ([]:List (List UInt8)) ([]:List Am)) ([]:List Int) ([]:List (List Ac)) 0),2)
  else
   (Q1 rows s0 rows (List.length rows:Int) (Ad.mk (Aa.mk (Ab.mk 0 0 0 0 0 0 0 0 0 0 ([]:List Int)) ([]:List Int) ([]:List (List UInt8)) ([]:List Am)) ([]:List Int) ([]:List (List Ac)) 0) 0).bind fun r2=>
   Sum.elim
    (fun r3=>
      some (r3.2,r3.1))
    (fun r4=>
      (Jb s0).bind fun r5=>
      (Mn s0).bind fun r6=>
      some ((Ad.mk s0 r5 rows (max 0 r6)),0))
    r2
instance Ag0 (s0:Aa)(rows:List (List Ac)):HS (Rc s0 rows) (LM.call 26 [Aa.av s0,lav (lav Ac.av) rows] []) fun r q=>q=(.tup [Ad.av r.1,iav r.2],[]):=⟨by
 unfold Rc
 refine sv fun S hS hw hw8 R hR=> ?_
 refine au (.hc hR ?_)
 rintro r0 q rfl
 refine au (.ite Iff.rfl (fun hc=> ?_) fun hc=> ?_)
 ·exact fin
 ·refine au ?_
  refine Sim.ki hS (m:=(List.length rows:Int)) (by simp) ?_
  refine au ?_
  refine Sim.ki hS (m:=(List.length s0.Ticks:Int)) (by simp) ?_
  refine au (.ite Iff.rfl (fun hc2=> ?_) fun hc2=> ?_)
  ·exact fin
  ·refine au ?_
   refine Sim.ki hS (m:=(List.length rows:Int)) (by simp) ?_
   refine au ?_
   refine Sim.hl hR kp pz ?_
   rintro r2 q hr
   rcases r2 with r3|r4
   ·obtain⟨g7,g8,g9,g10,g11,g12,rfl,hg7,hg8,hg9,hg10,hg11,hg12⟩:=hr
    exact fin
   ·obtain⟨g13,g14,g15,g16,g17,g18,rfl,hg13,hg14,hg15,hg16,hg17,hg18⟩:=hr
    exact fin⟩
def Dc (rows:List (List Ac))(t0 node:Int):Option Ac:=
 if t0<0 then
  some (Ac.mk false false 0 0 ([]:List UInt8) 0 ([]:List Ag))
 else
  if(List.length rows:Int)≤t0 then
   some (Ac.mk false false 0 0 ([]:List UInt8) 0 ([]:List Ag))
  else
   if node<0 then
    some (Ac.mk false false 0 0 ([]:List UInt8) 0 ([]:List Ag))
   else
    (idx? rows t0).bind fun z0=>
    if(List.length z0:Int)≤node then
     some (Ac.mk false false 0 0 ([]:List UInt8) 0 ([]:List Ag))
    else
     (idx? rows t0).bind fun z2=>
     (idx? z2 node).bind fun z3=>
     some z3
instance qR (rows:List (List Ac))(t0 node:Int):HE Ac.av (Dc rows t0 node) 112 [lav (lav Ac.av) rows,iav t0,iav node]:=⟨by unfold Dc;exact sa⟩
def Cq (rows2:List (List Ac))(node2:Int)(c2:Ab)(out:List Int)(t0:Int):Option (((List Int)×Int)⊕((List Int))):=
 if t0≤(wr ((List.length rows2:Int)-c2.Period))then
  (Dc rows2 t0 node2).bind fun r2=>
  if r2.Pulse=true then
   if List.length out+List.length [t0]≤Ar then
    some (.inl ((out++[t0]),(wr (t0+1))))
   else none
  else
   some (.inl (out,(wr (t0+1))))
 else
  some (.inr out)
def P6 (rows2:List (List Ac))(node2:Int)(c2:Ab)(out:List Int)(t0:Int):Option ((List Int)):=
 Ai (fun s:(List Int)×Int=>Cq rows2 node2 c2 s.1 s.2) (out,t0)
def Qj (rows2:List (List Ac))(node2:Int)(c2:Ab)(v:(List Int)×Int)(e:PF.St):Prop:= ∃g0,e=⟨[(1,lav (lav Ac.av) rows2),(2,iav node2),(4,.ept (Ab.cells c2) 0),(9,.lst g0 (List.map iav v.1)),(10,iav v.2)],[]⟩∧Mg 1 g0
instance wG (rows2:List (List Ac))(node2:Int)(c2:Ab)(out:List Int)(t0:Int):HL (P6 rows2 node2 c2 out t0) LM ([1,2,4,9,10],[],[9],Atv) (Qj rows2 node2 c2 (out,t0)) (fun r (q:Ex×PF.St)=> ∃g0',q=((.exit 0),⟨[(9,.lst g0' (List.map iav r))],[]⟩)∧Mg 1 g0'):=by
 refine lv (Qj rows2 node2 c2) _ fun S hS hw hw8 R hR=> ?_
 rintro⟨out,t0⟩ env hp ⟨g0,he,hg0⟩
 cases he
 show Sim (Cq rows2 node2 c2 out t0) _ _
 unfold Cq
 simp only[hw]
 refine au ?_
 refine Sim.ki hS (m:=(List.length rows2:Int)) (by simp) ?_
 refine au (.ite Iff.rfl (fun hc2=> ?_) fun hc2=> ?_)
 ·refine au (.hc hR ?_)
  rintro r2 q rfl
  refine au (.iteB (fun hc3=> ?_) fun hc3=> ?_)
  ·refine au ?_
   refine Sim.kl hS (ys:=List.map iav [t0]) rfl ?_
   refine au ?_
   first|(refine Sim.goB (Cj (by intro _;rfl) hg0 _) ?_)|skip
   refine au ?_
   first|(refine Sim.goB (Ca (by intro _;exact⟨rfl,rfl,rfl⟩) _) ?_)|skip
   refine au ?_
   first|refine Sim.ite (by simp) (fun _=> ?_) (fun _=>Sim.no)|refine Sim.guard (fun _=> ?_)
   exact fin
  ·exact fin
 ·exact fin
def Lb (c0:Ab)(rows:List (List Ac))(node from0:Int):Option ((List Int)):=
 (Bs c0).bind fun r0=>
 if r0≠0 then
  some ([]:List Int)
 else
  (P6 rows node c0 ([]:List Int) (max from0 0)).bind fun r3=>
  some r3
instance Abh (c0:Ab)(rows:List (List Ac))(node from0:Int):HE (lav iav) (Lb c0 rows node from0) 59 [Ab.av c0,lav (lav Ac.av) rows,iav node,iav from0]:=⟨by unfold Lb;exact sa⟩
def Bl (r0:Ad):Option Int:=
 (idx? r0.f_honest 0).bind fun z0=>
 some z0
instance wC (r0:Ad):HE iav (Bl r0) 60 [Ad.av r0]:=⟨by unfold Bl;exact sa⟩
def bA (width:Int):Option Bool:=
 if 1≤width then
  some (decide (width≤4))
 else
  some false
instance Aoy (width:Int):HE bav (bA width) 239 [iav width]:=⟨by unfold bA;exact sa⟩
def Ju (s2:List UInt8)(at2 x0 n0 x2:Int):Option ((Int×Int)⊕Int):=
 if x2<x0 then
  (idx? s2 (wr (at2+x2))).bind fun b0=>
  if(wr (8*x2))<0 then none else
  some (.inl ((orI .i64 n0 (Auu .i64 (wr (UInt8.toNat b0:Int)) (wr (8*x2)))),(wr (x2+1))))
 else
  some (.inr n0)
def Za (s2:List UInt8)(at2 x0 n0 x2:Int):Option Int:=
 Ai (fun s:Int×Int=>Ju s2 at2 x0 s.1 s.2) (n0,x2)
def Zm (s2:List UInt8)(at2 x0:Int)(v:Int×Int)(e:PF.St):Prop:=e=⟨[(0,.str s2),(1,iav at2),(8,iav v.1),(29,iav x0),(30,iav v.2)],[]⟩
instance Ano (s2:List UInt8)(at2 x0 n0 x2:Int):HL (Za s2 at2 x0 n0 x2) LM ([0,1,8,29,30],[],[8],Ahi) (Zm s2 at2 x0 (n0,x2)) (rE fun r=>((.exit 0),⟨[(8,iav r)],[]⟩)):=by
 refine lv (Zm s2 at2 x0) _ fun S hS hw hw8 R hR=> ?_
 rintro⟨n0,x2⟩ env hp he
 cases he
 show Sim (Ju s2 at2 x0 n0 x2) _ _
 unfold Ju
 simp only[hw]
 refine au (.ite Iff.rfl (fun hc5=> ?_) fun hc5=> ?_)
 ·refine au ?_
  refine Sim.ix rfl (fun b0 hb0=> ?_)
  refine au ?_
  refine Sim.go hb0 ?_
  exact fin
 ·exact fin
def cG (s0:List UInt8)(at0 width:Int):Option (Int×Int):=
 (bA width).bind fun r0=>
 if(!r0)=true then
  some (0,2)
 else
  if at0<0 then
   some (0,2)
  else
   if(List.length s0:Int)<at0 then
    some (0,5)
   else
    if(wr ((List.length s0:Int)-at0))<width then
     some (0,5)
    else
     (Za s0 at0 width 0 0).bind fun r2=>
     some (r2,0)
instance Ar9 (s0:List UInt8)(at0 width:Int):HS (cG s0 at0 width) (LM.call 205 [.str s0,iav at0,iav width] []) fun r q=>q=(.tup [iav r.1,iav r.2],[]):=⟨by unfold cG;exact sa⟩
def Mm (c0:Ab):Option Int:=
 (Bs c0).bind fun r0=>
 if r0≠0 then
  some 0
 else
  some (wr (8+c0.N))
instance Ang (c0:Ab):HE iav (Mm c0) 155 [Ab.av c0]:=⟨by unfold Mm;exact sa⟩
def Jp (n0 by0:Int):Option Int:=
 if by0<1 then
  some 0
 else
  if by0=0 then none else
  if(Int.tmod n0 by0)<0 then
   some (wr ((Int.tmod n0 by0)+by0))
  else
   some (Int.tmod n0 by0)
instance Asl (n0 by0:Int):HE iav (Jp n0 by0) 199 [iav n0,iav by0]:=⟨by unfold Jp;exact sa⟩
def aJ (n0:Int):Option Int:=
 (Jp n0 65536).bind fun r0=>
 some r0
instance Aqv (n0:Int):HE iav (aJ n0) 240 [iav n0]:=⟨by unfold aJ;exact sa⟩
def Ri (n0:Int):Option Int:=
 (aJ n0).bind fun r0=>
 some r0
instance Aoe (n0:Int):HE iav (Ri n0) 206 [iav n0]:=⟨by unfold Ri;exact sa⟩
def Bz (x0 x3:Ar6 Int)(x2:Int)(d2:Ar6 Int):Option ((Int×(Ar6 Int))⊕((Ar6 Int))):=
 if x2<6 then
  if 0≤x2∧x2<(6:Nat)then
   (Ar6.get? (Ar6.mk x0.a0 x0.a1 x0.a2 x0.a3 x0.a4 x0.a5) (Int.toNat x2)).bind fun z0=>
   (Fo z0 0 65535).bind fun r0=>
   if 0≤x2∧x2<(6:Nat)then
    (Ar6.set? d2 (Int.toNat x2) r0).bind fun y0=>
    some (.inl ((wr (x2+1)),y0))
   else none
  else none
 else
  some (.inr d2)
def Jk (x0 x3:Ar6 Int)(x2:Int)(d2:Ar6 Int):Option ((Ar6 Int)):=
 Ai (fun s:Int×(Ar6 Int)=>Bz x0 x3 s.1 s.2) (x2,d2)
def K2 (x0 x3:Ar6 Int)(v:Int×(Ar6 Int))(e:PF.St):Prop:=e=⟨[(1,.ptr 101 0),(2,.ptr 102 0),(5,Ar6.av iav x0),(6,iav v.1)],[(102,⟨true,Ar6.cells iav x3⟩),(101,⟨true,Ar6.cells iav v.2⟩)]⟩
instance kY (x0 x3:Ar6 Int)(x2:Int)(d2:Ar6 Int):HL (Jk x0 x3 x2 d2) LM ([1,2,5,6],[101,102],[1,2],Ag1) (K2 x0 x3 (x2,d2)) (rE fun r=>((.exit 0),⟨[(1,.ptr 101 0),(2,.ptr 102 0)],[(102,⟨true,Ar6.cells iav x3⟩),(101,⟨true,Ar6.cells iav r⟩)]⟩)):=by
 refine lv (K2 x0 x3) _ fun S hS hw hw8 R hR=> ?_
 rintro⟨x2,d2⟩ env hp he
 cases he
 show Sim (Bz x0 x3 x2 d2) _ _
 unfold Bz
 simp only[hw]
 refine au (.ite Iff.rfl (fun hc=> ?_) fun hc=> ?_)
 ·refine au ?_
  first|refine Sim.ite Iff.rfl (fun hb=> ?_) (fun _=>Sim.no)|refine Sim.guard (fun hb=> ?_)
  refine au ?_
  refine Sim.opt (f:=iav) (by have hb':(Int.toNat x2)<6:=(by omega);generalize (Int.toNat x2)=j at hb' ⊢;rcases j with _|_|_|_|_|_|j<;>first|rfl|exact absurd hb' (by omega)) (fun z0 _=> ?_)
  refine au (.hc hR ?_)
  rintro r0 q rfl
  refine au ?_
  first|refine Sim.ite Iff.rfl (fun hb2=> ?_) (fun _=>Sim.no)|refine Sim.guard (fun hb2=> ?_)
  refine au ?_
  refine Sim.opt (f:=fun y0=>[iav y0.a0,iav y0.a1,iav y0.a2,iav y0.a3,iav y0.a4,iav y0.a5]) (by have hb':(Int.toNat x2)<6:=(by omega);generalize (Int.toNat x2)=j at hb' ⊢;rcases j with _|_|_|_|_|_|j<;>first|rfl|exact absurd hb' (by omega)) (fun y0 _=> ?_)
  exact fin
 ·exact fin
def Hl (d0:Ar6 Int):Option ((Ar6 Int)):=
 (Jk d0 (Ar6.mk 0 0 0 0 0 0) 0 d0).bind fun r2=>
 some r2
instance nP (d0:Ar6 Int):HS (Hl d0) (LM.call 241 [Ar6.av iav d0] []) fun r q=>q=(Ar6.av iav r,[]):=⟨by unfold Hl;exact sa⟩
def Rn (d0:Ar6 Int):Option ((Ar6 Int)):=
 (Hl d0).bind fun r0=>
 some r0
instance Agh (d0:Ar6 Int):HS (Rn d0) (LM.call 207 [Ar6.av iav d0] []) fun r q=>q=(Ar6.av iav r,[]):=⟨by unfold Rn;exact sa⟩
def Cz (marks2:List UInt8)(at2:List Int)(len:Nat)(x0 x2:Int)(x3:List Int):Option ((Int×(List Int))⊕((List Int))):=
 if x2<x0 then
  if 0≤x2∧x2<((len:Nat):Int)then
   (mod? x3 (Int.toNat x2) (fun _=>48)).bind fun l0=>
   if x2<(List.length marks2:Int)then
    (idx? marks2 x2).bind fun b0=>
    if(UInt8.toNat b0:Int)=49 then
     if 0≤x2∧x2<((len:Nat):Int)then
      (mod? l0 (Int.toNat x2) (fun _=>49)).bind fun l2=>
      some (.inl ((wr (x2+1)),l2))
     else none
    else
     (Au at2 x2).bind fun r2=>
     if r2=true then
      if 0≤x2∧x2<((len:Nat):Int)then
       (mod? l0 (Int.toNat x2) (fun _=>49)).bind fun l3=>
       some (.inl ((wr (x2+1)),l3))
      else none
     else
      some (.inl ((wr (x2+1)),l0))
   else
    (Au at2 x2).bind fun r3=>
    if r3=true then
     if 0≤x2∧x2<((len:Nat):Int)then
      (mod? l0 (Int.toNat x2) (fun _=>49)).bind fun l4=>
      some (.inl ((wr (x2+1)),l4))
     else none
    else
     some (.inl ((wr (x2+1)),l0))
  else none
 else
  some (.inr x3)
def S7 (marks2:List UInt8)(at2:List Int)(len:Nat)(x0 x2:Int)(x3:List Int):Option ((List Int)):=
 Ai (fun s:Int×(List Int)=>Cz marks2 at2 len x0 s.1 s.2) (x2,x3)
def Wi (marks2:List UInt8)(at2:List Int)(len:Nat)(x0:Int)(v:Int×(List Int))(e:PF.St):Prop:=e=⟨[(0,.str marks2),(2,lav iav at2),(7,.arr 111 0 len 1 false),(13,iav x0),(14,iav v.1)],[(111,⟨true,(List.map Qp v.2)⟩)]⟩
instance Afn (marks2:List UInt8)(at2:List Int)(len:Nat)(x0 x2:Int)(x3:List Int):HL (S7 marks2 at2 len x0 x2 x3) LM ([0,2,7,13,14],[111],[7],Ahe) (Wi marks2 at2 len x0 (x2,x3)) (rE fun r=>((.exit 0),⟨[(7,.arr 111 0 len 1 false)],[(111,⟨true,(List.map Qp r)⟩)]⟩)):=by
 refine lv (Wi marks2 at2 len x0) _ fun S hS hw hw8 R hR=> ?_
 rintro⟨x2,x3⟩ env hp he
 cases he
 show Sim (Cz marks2 at2 len x0 x2 x3) _ _
 unfold Cz
 simp only[hw]
 refine au (.ite Iff.rfl (fun hc=> ?_) fun hc=> ?_)
 ·refine au ?_
  first|refine Sim.ite Iff.rfl (fun _=> ?_) (fun _=>Sim.no)|refine Sim.guard (fun _=> ?_)
  refine au ?_
  refine Sim.opt (Gp (u:=(fun _=>48)) (m:=(Int.toNat x2)) (by omega) (fun _=>rfl)) (fun l0 _=> ?_)
  refine au (.ite Iff.rfl (fun hc2=> ?_) fun hc2=> ?_)
  ·refine au ?_
   refine Sim.ix rfl (fun b0 hb0=> ?_)
   refine au ?_
   refine Sim.go hb0 ?_
   refine au (.ite Iff.rfl (fun hc3=> ?_) fun hc3=> ?_)
   ·refine au ?_
    first|refine Sim.ite Iff.rfl (fun _=> ?_) (fun _=>Sim.no)|refine Sim.guard (fun _=> ?_)
    refine au ?_
    refine Sim.opt (Gp (u:=(fun _=>49)) (m:=(Int.toNat x2)) (by omega) (fun _=>rfl)) (fun l2 _=> ?_)
    exact fin
   ·refine au (.hc hR ?_)
    rintro r2 q rfl
    refine au (.iteB (fun hc4=> ?_) fun hc4=> ?_)
    ·refine au ?_
     first|refine Sim.ite Iff.rfl (fun _=> ?_) (fun _=>Sim.no)|refine Sim.guard (fun _=> ?_)
     refine au ?_
     refine Sim.opt (Gp (u:=(fun _=>49)) (m:=(Int.toNat x2)) (by omega) (fun _=>rfl)) (fun l3 _=> ?_)
     exact fin
    ·exact fin
  ·refine au (.hc hR ?_)
   rintro r3 q rfl
   refine au (.iteB (fun hc5=> ?_) fun hc5=> ?_)
   ·refine au ?_
    first|refine Sim.ite Iff.rfl (fun _=> ?_) (fun _=>Sim.no)|refine Sim.guard (fun _=> ?_)
    refine au ?_
    refine Sim.opt (Gp (u:=(fun _=>49)) (m:=(Int.toNat x2)) (by omega) (fun _=>rfl)) (fun l4 _=> ?_)
    exact fin
   ·exact fin
 ·exact fin
def Kt (marks:List UInt8)(n0:Int)(at0:List Int):Option ((List UInt8)):=
 (Fo n0 0 64).bind fun r0=>
 if 0≤r0∧r0≤Ar then
  (S7 marks at0 (Int.toNat r0) (((Int.toNat r0):Nat):Int) 0 (List.replicate (Int.toNat r0) 0)).bind fun r4=>
  (sub? r4 0 (Int.toNat r0)).bind fun y0=>
  some (Pg y0)
 else none
instance Ams (marks:List UInt8)(n0:Int)(at0:List Int):HE sav (Kt marks n0 at0) 212 [.str marks,iav n0,lav iav at0]:=⟨by
 unfold Kt
 refine sv fun S hS hw hw8 R hR=> ?_
 refine au (.hc hR ?_)
 rintro r0 q rfl
 refine au ?_
 first|refine Sim.ite Iff.rfl (fun _=> ?_) (fun _=>Sim.no)|refine Sim.guard (fun _=> ?_)
 refine au ?_
 refine Sim.kl hS (Ye (f:=Qp) 0 _ rfl _) ?_
 refine au ?_
 refine Sim.hl hR kp pz ?_
 rintro r4 q rfl
 refine au ?_
 refine Sim.sub (f:=Qp) rfl (fun y0 hy0=> ?_)
 refine au ?_
 refine Sim.go (by rw[hy0];exact V1 _) ?_
 exact fin⟩
def J9 (c0:Ab)(marks:List UInt8)(nodes:List Int):Option ((List UInt8)):=
 (Kt marks c0.N nodes).bind fun r0=>
 some r0
instance Afe (c0:Ab)(marks:List UInt8)(nodes:List Int):HE sav (J9 c0 marks nodes) 201 [Ab.av c0,.str marks,lav iav nodes]:=⟨by unfold J9;exact sa⟩
def R9 (c0:Ab):Option ((List UInt8)):=
 (Hb c0).bind fun r0=>
 (strings_Repeat ([48]:List UInt8) r0).bind fun r2=>
 some r2
instance Aik (c0:Ab):HE sav (R9 c0) 208 [Ab.av c0]:=⟨by unfold R9;exact sa⟩
def Em (last2:Int)(len len2:Nat)(x0 x2:Int)(x3:List Int):Option ((Int×(List Int))⊕((List Int))):=
 if x2<x0 then
  if 0≤x2∧x2<((len2:Nat):Int)then
   (x3[(Int.toNat x2)]?).bind fun z0=>
   if z0<48 then
    if 0≤x2∧x2<((len:Nat):Int)then
     (mod? x3 (Int.toNat x2) (fun _=>48)).bind fun l0=>
     some (.inl ((wr (x2+1)),l0))
    else none
   else
    if last2<z0 then
     if 0≤x2∧x2<((len:Nat):Int)then
      (mod? x3 (Int.toNat x2) (fun _=>48)).bind fun l2=>
      some (.inl ((wr (x2+1)),l2))
     else none
    else
     some (.inl ((wr (x2+1)),x3))
  else none
 else
  some (.inr x3)
def Vp (last2:Int)(len len2:Nat)(x0 x2:Int)(x3:List Int):Option ((List Int)):=
 Ai (fun s:Int×(List Int)=>Em last2 len len2 x0 s.1 s.2) (x2,x3)
def Ts (last2:Int)(len len2:Nat)(x0:Int)(v:Int×(List Int))(e:PF.St):Prop:=e=⟨[(1,Qp last2),(5,.arr 109 0 len 1 false),(10,.arr 109 0 len2 1 false),(11,iav x0),(12,iav v.1)],[(109,⟨true,(List.map Qp v.2)⟩)]⟩
instance Aef (last2:Int)(len len2:Nat)(x0 x2:Int)(x3:List Int):HL (Vp last2 len len2 x0 x2 x3) LM ([1,5,10,11,12],[109],[5],Ai0) (Ts last2 len len2 x0 (x2,x3)) (rE fun r=>((.exit 0),⟨[(5,.arr 109 0 len 1 false)],[(109,⟨true,(List.map Qp r)⟩)]⟩)):=by
 refine lv (Ts last2 len len2 x0) _ fun S hS hw hw8 R hR=> ?_
 rintro⟨x2,x3⟩ env hp he
 cases he
 show Sim (Em last2 len len2 x0 x2 x3) _ _
 unfold Em
 simp only[hw]
 refine au (.ite Iff.rfl (fun hc=> ?_) fun hc=> ?_)
 ·refine au ?_
  first|refine Sim.ite Iff.rfl (fun _=> ?_) (fun _=>Sim.no)|refine Sim.guard (fun _=> ?_)
  refine au ?_
  refine Sim.opt (uG (f:=Qp) (m:=(Int.toNat x2)) (fun _=>rfl) (by omega)) (fun z0 _=> ?_)
  refine au (.ite Iff.rfl (fun hc2=> ?_) fun hc2=> ?_)
  ·refine au ?_
   first|refine Sim.ite Iff.rfl (fun _=> ?_) (fun _=>Sim.no)|refine Sim.guard (fun _=> ?_)
   refine au ?_
   refine Sim.opt (Gp (u:=(fun _=>48)) (m:=(Int.toNat x2)) (by omega) (fun _=>rfl)) (fun l0 _=> ?_)
   exact fin
  ·refine au (.ite Iff.rfl (fun hc3=> ?_) fun hc3=> ?_)
   ·refine au ?_
    first|refine Sim.ite Iff.rfl (fun _=> ?_) (fun _=>Sim.no)|refine Sim.guard (fun _=> ?_)
    refine au ?_
    refine Sim.opt (Gp (u:=(fun _=>48)) (m:=(Int.toNat x2)) (by omega) (fun _=>rfl)) (fun l2 _=> ?_)
    exact fin
   ·exact fin
 ·exact fin
def Om (s0:List UInt8)(last:Int):Option ((List UInt8)):=
 if List.length s0≤Ar then
  (Vp last (List.length s0) (List.length s0) (((List.length s0):Nat):Int) 0 (Hf s0)).bind fun r0=>
  (sub? r0 0 (List.length s0)).bind fun y0=>
  some (Pg y0)
 else none
instance Alw (s0:List UInt8)(last:Int):HE sav (Om s0 last) 209 [.str s0,Qp last]:=⟨by
 unfold Om
 refine sv fun S hS hw hw8 R hR=> ?_
 refine au ?_
 first|refine Sim.ite Iff.rfl (fun _=> ?_) (fun _=>Sim.no)|refine Sim.guard (fun _=> ?_)
 refine au ?_
 refine Sim.kl hS (Akw s0) ?_
 refine au ?_
 refine Sim.hl hR kp pz ?_
 rintro r0 q rfl
 refine au ?_
 refine Sim.sub (f:=Qp) rfl (fun y0 hy0=> ?_)
 refine au ?_
 refine Sim.go (by rw[hy0];exact V1 _) ?_
 exact fin⟩
def Qu (s0:List UInt8)(most:Int):Option ((List UInt8)):=
 if 0≤(min (List.length s0:Int) most)∧(min (List.length s0:Int) most)≤((List.length s0):Nat)then
  some (List.take (Int.toNat (min (List.length s0:Int) most)) s0)
 else none
instance Asi (s0:List UInt8)(most:Int):HE sav (Qu s0 most) 210 [.str s0,iav most]:=⟨by unfold Qu;exact sa⟩
def Y2 (s0:List UInt8)(n0 last:Int):Option ((List UInt8)):=
 if(List.length s0:Int)≠n0 then
  some ([]:List UInt8)
 else
  (Om s0 last).bind fun r0=>
  some r0
instance Ark (s0:List UInt8)(n0 last:Int):HE sav (Y2 s0 n0 last) 211 [.str s0,iav n0,Qp last]:=⟨by unfold Y2;exact sa⟩
def Eu (c2:Ab)(len:Nat)(x0 x2:Int)(x3:List Aj):Option ((Int×(List Aj))⊕((List Aj))):=
 if x2<x0 then
  if 0≤x2∧x2<((len:Nat):Int)then
   (mod? x3 (Int.toNat x2) (fun w0=>(Aj.mk w0.Text w0.Cycle c2.Fresh))).bind fun l0=>
   some (.inl ((wr (x2+1)),l0))
  else none
 else
  some (.inr x3)
def Vl (c2:Ab)(len:Nat)(x0 x2:Int)(x3:List Aj):Option ((List Aj)):=
 Ai (fun s:Int×(List Aj)=>Eu c2 len x0 s.1 s.2) (x2,x3)
def Tr (c2:Ab)(len:Nat)(x0:Int)(v:Int×(List Aj))(e:PF.St):Prop:=e=⟨[(1,.ept (Ab.cells c2) 0),(3,.arr 110 0 len 3 true),(12,iav x0),(13,iav v.1)],[(110,⟨true,(List.flatMap Aj.cells v.2)⟩)]⟩
instance Abs (c2:Ab)(len:Nat)(x0 x2:Int)(x3:List Aj):HL (Vl c2 len x0 x2 x3) LM ([1,3,12,13],[110],[3],Aiu) (Tr c2 len x0 (x2,x3)) (rE fun r=>((.exit 0),⟨[(3,.arr 110 0 len 3 true)],[(110,⟨true,(List.flatMap Aj.cells r)⟩)]⟩)):=by
 refine lv (Tr c2 len x0) _ fun S hS hw hw8 R hR=> ?_
 rintro⟨x2,x3⟩ env hp he
 cases he
 show Sim (Eu c2 len x0 x2 x3) _ _
 unfold Eu
 simp only[hw]
 refine au (.ite Iff.rfl (fun hc2=> ?_) fun hc2=> ?_)
 ·refine au ?_
  first|refine Sim.ite Iff.rfl (fun _=> ?_) (fun _=>Sim.no)|refine Sim.guard (fun _=> ?_)
  refine au ?_
  refine Sim.opt (tU (u:=(fun w0=>(Aj.mk w0.Text w0.Cycle c2.Fresh))) (k:=2) (e:=3) (m:=(Int.toNat x2)) (fun _=>rfl) (by omega) (by simp) (fun _=>rfl)) (fun l0 _=> ?_)
  exact fin
 ·exact fin
def R6 (c0:Ab):Option ((List Aj)):=
 (Bs c0).bind fun r0=>
 if r0≠0 then
  some ([]:List Aj)
 else
  if 0≤c0.N∧c0.N≤Ar then
   (Vl c0 (Int.toNat c0.N) (((Int.toNat c0.N):Nat):Int) 0 (List.replicate (Int.toNat c0.N) (Aj.mk ([]:List UInt8) 0 0))).bind fun r2=>
   (sub? r2 0 (Int.toNat c0.N)).bind fun l2=>
   some l2
  else none
instance Ag2 (c0:Ab):HE (lav Aj.av) (R6 c0) 215 [Ab.av c0]:=⟨by
 unfold R6
 refine sv fun S hS hw hw8 R hR=> ?_
 refine au (.hc hR ?_)
 rintro r0 q rfl
 refine au (.ite Iff.rfl (fun hc=> ?_) fun hc=> ?_)
 ·exact fin
 ·refine au ?_
  first|refine Sim.ite Iff.rfl (fun _=> ?_) (fun _=>Sim.no)|refine Sim.guard (fun _=> ?_)
  refine au ?_
  refine Sim.kl hS (Au7 (f:=Aj.cells) (Aj.mk ([]:List UInt8) 0 0) _ rfl _) ?_
  refine au ?_
  refine Sim.hl hR kp pz ?_
  rintro r2 q rfl
  refine au ?_
  refine Sim.opt (vK (g:=Aj.av) (e:=3) (b:=0) (fun _=>rfl) (fun _=>rfl) (fun _=>rfl) (by decide) (by omega)) (fun l2 _=> ?_)
  exact fin⟩
def Sv (s0:List UInt8):Option ((List UInt8)):=
 (Qu s0 40).bind fun r0=>
 some r0
instance Af1 (s0:List UInt8):HE sav (Sv s0) 217 [.str s0]:=⟨by unfold Sv;exact sa⟩
def Sy (c0:Ab):Option Int:=
 (Bs c0).bind fun r0=>
 if r0≠0 then
  some 0
 else
  some (wr (c0.N*c0.D))
instance Af9 (c0:Ab):HE iav (Sy c0) 245 [Ab.av c0]:=⟨by unfold Sy;exact sa⟩
def Sa (c0:Ab):Option ((List (List UInt8))):=
 (Sy c0).bind fun r0=>
 if 0≤r0∧r0≤Ar then
  (sub? (List.replicate (Int.toNat r0) ([]:List UInt8)) 0 (Int.toNat r0)).bind fun l0=>
  some l0
 else none
instance Ako (c0:Ab):HE (lav sav) (Sa c0) 218 [Ab.av c0]:=⟨by
 unfold Sa
 refine sv fun S hS hw hw8 R hR=> ?_
 refine au (.hc hR ?_)
 rintro r0 q rfl
 refine au ?_
 first|refine Sim.ite Iff.rfl (fun _=> ?_) (fun _=>Sim.no)|refine Sim.guard (fun _=> ?_)
 refine au ?_
 refine Sim.kl hS (Ye (f:=sav) ([]:List UInt8) _ rfl _) ?_
 refine au ?_
 refine Sim.opt (cV (f:=sav) (b:=0) (fun _=>⟨rfl,rfl⟩) (by omega)) (fun l0 _=> ?_)
 exact fin⟩
def Fh (c2:Ab)(x0:List Al)(x2:Int)(out:List Al)(x3:Int):Option (((List Al)×Int)⊕((List Al))):=
 if x3<x2 then
  (idx? x0 x3).bind fun z0=>
  if z0.From<0 then
   some (.inl (out,(wr (x3+1))))
  else
   if c2.N≤z0.From then
    some (.inl (out,(wr (x3+1))))
   else
    (Ri z0.At).bind fun r0=>
    if List.length out+List.length [(Al.mk z0.From r0)]≤Ar then
     some (.inl ((out++[(Al.mk z0.From r0)]),(wr (x3+1))))
    else none
 else
  some (.inr out)
def Xo (c2:Ab)(x0:List Al)(x2:Int)(out:List Al)(x3:Int):Option ((List Al)):=
 Ai (fun s:(List Al)×Int=>Fh c2 x0 x2 s.1 s.2) (out,x3)
def Wd (c2:Ab)(x0:List Al)(x2:Int)(v:(List Al)×Int)(e:PF.St):Prop:= ∃g0,e=⟨[(2,.ept (Ab.cells c2) 0),(5,.lst g0 (List.map Al.av v.1)),(13,lav Al.av x0),(14,iav x2),(15,iav v.2)],[]⟩∧Mg 2 g0
instance Agb (c2:Ab)(x0:List Al)(x2:Int)(out:List Al)(x3:Int):HL (Xo c2 x0 x2 out x3) LM ([2,5,13,14,15],[],[5],Ain) (Wd c2 x0 x2 (out,x3)) (fun r (q:Ex×PF.St)=> ∃g0',q=((.exit 0),⟨[(5,.lst g0' (List.map Al.av r))],[]⟩)∧Mg 2 g0'):=by
 refine lv (Wd c2 x0 x2) _ fun S hS hw hw8 R hR=> ?_
 rintro⟨out,x3⟩ env hp ⟨g0,he,hg0⟩
 cases he
 show Sim (Fh c2 x0 x2 out x3) _ _
 unfold Fh
 simp only[hw]
 refine au (.ite Iff.rfl (fun hc=> ?_) fun hc=> ?_)
 ·refine au ?_
  refine Sim.ix (by simp) (fun z0 hz0=> ?_)
  refine au ?_
  refine Sim.go (Bw _ hz0) ?_
  refine au (.ite Iff.rfl (fun hc2=> ?_) fun hc2=> ?_)
  ·exact fin
  ·refine au (.ite Iff.rfl (fun hc3=> ?_) fun hc3=> ?_)
   ·exact fin
   ·refine au (.hc hR ?_)
    rintro r0 q rfl
    refine au ?_
    refine Sim.kl hS (ys:=List.map Al.av [(Al.mk z0.From r0)]) rfl ?_
    refine au ?_
    first|(refine Sim.goB (Cj (by intro _;rfl) hg0 _) ?_)|skip
    refine au ?_
    first|(refine Sim.goB (Ca (by intro _;exact⟨rfl,rfl,rfl⟩) _) ?_)|skip
    refine au ?_
    first|refine Sim.ite (by simp) (fun _=> ?_) (fun _=>Sim.no)|refine Sim.guard (fun _=> ?_)
    exact fin
 ·exact fin
def Un (c0:Ab)(l0:List Al):Option ((List Al)):=
 if 0≤(max 0 (wr ((List.length l0:Int)-64)))∧(max 0 (wr ((List.length l0:Int)-64)))≤((List.length l0):Nat)then
  (Xo c0 (List.drop (Int.toNat (max 0 (wr ((List.length l0:Int)-64)))) l0) (List.length (List.drop (Int.toNat (max 0 (wr ((List.length l0:Int)-64)))) l0):Int) ([]:List Al) 0).bind fun r2=>
  some r2
 else none
instance Ann (c0:Ab)(l0:List Al):HE (lav Al.av) (Un c0 l0) 219 [Ab.av c0,lav Al.av l0]:=⟨by
 unfold Un
 refine sv fun S hS hw hw8 R hR=> ?_
 simp only[hw]
 refine au ?_
 refine Sim.ki hS (m:=(List.length l0:Int)) (by simp) ?_
 refine au ?_
 first|(refine Sim.goB (Ue (by intro _;rfl) _) ?_)|skip
 refine au ?_
 refine Sim.kn hS (m:=(List.length l0)) (by simp) ?_
 refine au ?_
 first|refine Sim.ite Iff.rfl (fun _=> ?_) (fun _=>Sim.no)|refine Sim.guard (fun _=> ?_)
 refine au ?_
 refine Sim.kl hS (ys:=List.map Al.av (List.drop (Int.toNat (max 0 (S.wr ((List.length l0:Int)-64)))) l0)) (by simp only[PF.cut,List.map_drop,List.map_take]) ?_
 exact fin⟩
def Sj (L0:Ab)(o0:Aq):Option Aq:=
 (Ri o0.Clock).bind fun r0=>
 (Ri o0.Anchor).bind fun r2=>
 (Fo o0.Since 0 L0.Period).bind fun r3=>
 (Hb L0).bind fun r4=>
 (Fo o0.Age 0 r4).bind fun r5=>
 (Jp o0.Number L0.Mod).bind fun r6=>
 (Fo o0.Regular 0 2).bind fun r7=>
 (Rn o0.Diag).bind fun r8=>
 some (Aq.mk r0 r2 r3 o0.Pipe r5 o0.Vec o0.Agreed r6 r7 o0.Members o0.Seen o0.Heard o0.Sent o0.Out o0.Line o0.Ports o0.Hold o0.Log r8)
instance Afy (L0:Ab)(o0:Aq):HS (Sj L0 o0) (LM.call 157 [Ab.av L0,.ptr 0 0] [⟨true,Aq.cells o0⟩]) fun r q=>q=(.tup [],[⟨true,Aq.cells r⟩]):=⟨by unfold Sj;exact sa⟩
def Yx (L0:Ab)(o0:Aq):Option Aq:=
 (R9 L0).bind fun r0=>
 if List.length o0.Pipe+List.length r0≤9223372036854775807 then
  (Hb L0).bind fun r2=>
  (Qu (o0.Pipe++r0) r2).bind fun r3=>
  (Om r3 53).bind fun r4=>
  (Mm L0).bind fun r5=>
  (Y2 o0.Vec r5 53).bind fun r6=>
  (Mm L0).bind fun r7=>
  (Y2 o0.Agreed r7 49).bind fun r8=>
  (J9 L0 o0.Members ([]:List Int)).bind fun r9=>
  (J9 L0 o0.Seen ([]:List Int)).bind fun r10=>
  (Kt o0.Heard (List.length L0.Table:Int) ([]:List Int)).bind fun r11=>
  (Kt o0.Sent (List.length L0.Table:Int) ([]:List Int)).bind fun r12=>
  (Qu o0.Out 16).bind fun r13=>
  (Qu o0.Line 16).bind fun r14=>
  some (Aq.mk o0.Clock o0.Anchor o0.Since r4 o0.Age r6 r8 o0.Number o0.Regular r9 r10 r11 r12 r13 r14 o0.Ports o0.Hold o0.Log o0.Diag)
 else none
instance Am8 (L0:Ab)(o0:Aq):HS (Yx L0 o0) (LM.call 158 [Ab.av L0,.ptr 0 0] [⟨true,Aq.cells o0⟩]) fun r q=>q=(.tup [],[⟨true,Aq.cells r⟩]):=⟨by unfold Yx;exact sa⟩
def So (p0:Aj)(o0:Ab):Option (Aj×Ab):=
 (Qu p0.Text 16).bind fun r0=>
 (Jp p0.Cycle o0.Mod).bind fun r2=>
 (Fo p0.Age 0 o0.Fresh).bind fun r3=>
 some ((Aj.mk r0 r2 r3),o0)
instance Aff (p0:Aj)(o0:Ab):HS (So p0 o0) (LM.call 214 [Aj.av p0,.ptr 0 0] [⟨true,Ab.cells o0⟩]) fun r q=>q=(Aj.av r.1,[⟨true,Ab.cells r.2⟩]):=⟨by unfold So;exact sa⟩
def Cd (len:Nat)(x0:List Aj)(x2 x3:Int)(o2:Ab)(x4:List Aj):Option ((Int×Ab×(List Aj))⊕(Ab×(List Aj))):=
 if x3<x2 then
  (idx? x0 x3).bind fun z0=>
  (So z0 o2).bind fun r2=>
  if 0≤x3∧x3<((len:Nat):Int)then
   (mod? x4 (Int.toNat x3) (fun _=>r2.1)).bind fun l2=>
   some (.inl ((wr (x3+1)),r2.2,l2))
  else none
 else
  some (.inr (o2,x4))
def K6 (len:Nat)(x0:List Aj)(x2 x3:Int)(o2:Ab)(x4:List Aj):Option (Ab×(List Aj)):=
 Ai (fun s:Int×Ab×(List Aj)=>Cd len x0 x2 s.1 s.2.1 s.2.2) (x3,o2,x4)
def Ml (len:Nat)(x0:List Aj)(x2:Int)(v:Int×Ab×(List Aj))(e:PF.St):Prop:=e=⟨[(2,.fn 214 [.ptr 0 0]),(9,.arr 1720 0 len 3 true),(19,lav Aj.av x0),(20,iav x2),(21,iav v.1)],[(0,⟨true,Ab.cells v.2.1⟩),(1720,⟨true,(List.flatMap Aj.cells v.2.2)⟩)]⟩
instance mK (len:Nat)(x0:List Aj)(x2 x3:Int)(o2:Ab)(x4:List Aj):HL (K6 len x0 x2 x3 o2 x4) LM ([2,9,19,20,21],[1720,1721,1722,1723],[9],Ahz) (Ml len x0 x2 (x3,o2,x4)) (rE fun r=>((.exit 0),⟨[(9,.arr 1720 0 len 3 true)],[(0,⟨true,Ab.cells r.1⟩),(1720,⟨true,(List.flatMap Aj.cells r.2)⟩)]⟩)):=by
 refine lv (Ml len x0 x2) _ fun S hS hw hw8 R hR=> ?_
 rintro⟨x3,o2,x4⟩ env hp he
 cases he
 show Sim (Cd len x0 x2 x3 o2 x4) _ _
 unfold Cd
 simp only[hw]
 refine au (.ite Iff.rfl (fun hc2=> ?_) fun hc2=> ?_)
 ·refine au ?_
  refine Sim.ix (by simp) (fun z0 hz0=> ?_)
  refine au ?_
  refine Sim.go (Bw _ hz0) ?_
  refine au (.hc hR ?_)
  rintro r2 q rfl
  refine au ?_
  first|refine Sim.ite Iff.rfl (fun _=> ?_) (fun _=>Sim.no)|refine Sim.guard (fun _=> ?_)
  refine au ?_
  refine Sim.opt (tU (u:=(fun _=>r2.1)) (k:=0) (e:=3) (m:=(Int.toNat x3)) (fun _=>rfl) (by omega) (by simp) (fun _=>rfl)) (fun l2 _=> ?_)
  exact fin
 ·exact fin
def Hc (l0:List Aj)(n0:Int)(other:List Aj)(o0:Ab):Option ((List Aj)×Ab):=
 if(List.length l0:Int)≠n0 then
  some (other,o0)
 else
  (Cx l0).bind fun r0=>
  (K6 (List.length r0) l0 (List.length l0:Int) 0 o0 r0).bind fun r3=>
  (sub? r3.2 0 (List.length r0)).bind fun l3=>
  some (l3,r3.1)
instance rK (l0:List Aj)(n0:Int)(other:List Aj)(o0:Ab):HS (Hc l0 n0 other o0) (LM.call 213 [lav Aj.av l0,iav n0,.fn 214 [.ptr 0 0],lav Aj.av other] [⟨true,Ab.cells o0⟩]) fun r q=>q=(lav Aj.av r.1,[⟨true,Ab.cells r.2⟩]):=⟨by
 unfold Hc
 refine sv fun S hS hw hw8 R hR=> ?_
 refine au ?_
 refine Sim.ki hS (m:=(List.length l0:Int)) (by simp) ?_
 refine au (.ite Iff.rfl (fun hc=> ?_) fun hc=> ?_)
 ·exact fin
 ·refine au (cE hR (Md l0 .no) fun r0=> ?_)
  refine au ?_
  refine Sim.kfl (Flat.ren (Flat.fm (fun _=>Flat.of rfl) _) _) ?_
  refine au ?_
  refine Sim.ki hS (m:=(List.length l0:Int)) (by simp) ?_
  refine au ?_
  refine Sim.hl hR kp pz ?_
  rintro r3 q rfl
  refine au ?_
  refine Sim.opt (vK (g:=Aj.av) (e:=3) (b:=0) (fun _=>rfl) (fun _=>rfl) (fun _=>rfl) (by decide) (by omega)) (fun l3 _=> ?_)
  exact fin⟩
def Cy (len:Nat)(x0:List (List UInt8))(x2 x3:Int)(x4:List (List UInt8)):Option ((Int×(List (List UInt8)))⊕((List (List UInt8)))):=
 if x3<x2 then
  (idx? x0 x3).bind fun z0=>
  (Sv z0).bind fun r2=>
  if 0≤x3∧x3<((len:Nat):Int)then
   (mod? x4 (Int.toNat x3) (fun _=>r2)).bind fun l2=>
   some (.inl ((wr (x3+1)),l2))
  else none
 else
  some (.inr x4)
def Nv (len:Nat)(x0:List (List UInt8))(x2 x3:Int)(x4:List (List UInt8)):Option ((List (List UInt8))):=
 Ai (fun s:Int×(List (List UInt8))=>Cy len x0 x2 s.1 s.2) (x3,x4)
def N2 (len:Nat)(x0:List (List UInt8))(x2:Int)(v:Int×(List (List UInt8)))(e:PF.St):Prop:=e=⟨[(2,.fn 217 []),(9,.arr 1720 0 len 1 false),(19,lav sav x0),(20,iav x2),(21,iav v.1)],[(1720,⟨true,(List.map sav v.2)⟩)]⟩
instance rQ (len:Nat)(x0:List (List UInt8))(x2 x3:Int)(x4:List (List UInt8)):HL (Nv len x0 x2 x3 x4) LM ([2,9,19,20,21],[1720,1721,1722,1723],[9],Al9) (N2 len x0 x2 (x3,x4)) (rE fun r=>((.exit 0),⟨[(9,.arr 1720 0 len 1 false)],[(1720,⟨true,(List.map sav r)⟩)]⟩)):=by
 refine lv (N2 len x0 x2) _ fun S hS hw hw8 R hR=> ?_
 rintro⟨x3,x4⟩ env hp he
 cases he
 show Sim (Cy len x0 x2 x3 x4) _ _
 unfold Cy
 simp only[hw]
 refine au (.ite Iff.rfl (fun hc2=> ?_) fun hc2=> ?_)
 ·refine au ?_
  refine Sim.ix (by simp) (fun z0 hz0=> ?_)
  refine au ?_
  refine Sim.go (Bw _ hz0) ?_
  refine au (.hc hR ?_)
  rintro r2 q rfl
  refine au ?_
  first|refine Sim.ite Iff.rfl (fun _=> ?_) (fun _=>Sim.no)|refine Sim.guard (fun _=> ?_)
  refine au ?_
  refine Sim.opt (Gp (u:=(fun _=>r2)) (m:=(Int.toNat x3)) (by omega) (fun _=>rfl)) (fun l2 _=> ?_)
  exact fin
 ·exact fin
def Ix (l0:List (List UInt8))(n0:Int)(other:List (List UInt8)):Option ((List (List UInt8))):=
 if(List.length l0:Int)≠n0 then
  some other
 else
  (Dv l0).bind fun r0=>
  (Nv (List.length r0) l0 (List.length l0:Int) 0 r0).bind fun r3=>
  (sub? r3 0 (List.length r0)).bind fun l3=>
  some l3
instance wL (l0:List (List UInt8))(n0:Int)(other:List (List UInt8)):HE (lav sav) (Ix l0 n0 other) 216 [lav sav l0,iav n0,.fn 217 [],lav sav other]:=⟨by
 unfold Ix
 refine sv fun S hS hw hw8 R hR=> ?_
 refine au ?_
 refine Sim.ki hS (m:=(List.length l0:Int)) (by simp) ?_
 refine au (.ite Iff.rfl (fun hc=> ?_) fun hc=> ?_)
 ·exact fin
 ·refine au (cE hR (N4 l0 .no) fun r0=> ?_)
  refine au ?_
  refine Sim.kfl (Flat.ren (Flat.map (fun _=>rfl) _) _) ?_
  refine au ?_
  refine Sim.ki hS (m:=(List.length l0:Int)) (by simp) ?_
  refine au ?_
  refine Sim.hl hR kp pz ?_
  rintro r3 q rfl
  refine au ?_
  refine Sim.opt (cV (f:=sav) (b:=0) (fun _=>⟨rfl,rfl⟩) (by omega)) (fun l3 _=> ?_)
  exact fin⟩
def Yy (c0:Ab)(o0:Aq):Option Aq:=
 (R6 c0).bind fun r0=>
 (Hc o0.Ports c0.N r0 c0).bind fun r2=>
 (Sa r2.2).bind fun r3=>
 (Ix o0.Hold (wr (r2.2.N*r2.2.D)) r3).bind fun r4=>
 (Un r2.2 o0.Log).bind fun r5=>
 some (Aq.mk o0.Clock o0.Anchor o0.Since o0.Pipe o0.Age o0.Vec o0.Agreed o0.Number o0.Regular o0.Members o0.Seen o0.Heard o0.Sent o0.Out o0.Line r2.1 r4 r5 o0.Diag)
instance Am9 (c0:Ab)(o0:Aq):HS (Yy c0 o0) (LM.call 159 [Ab.av c0,.ptr 0 0] [⟨true,Aq.cells o0⟩]) fun r q=>q=(.tup [],[⟨true,Aq.cells r⟩]):=⟨by unfold Yy;exact sa⟩
def Xj (c0:Ab)(m0:Aq):Option Aq:=
 (Bs c0).bind fun r0=>
 if r0≠0 then
  some (Aq.mk 0 0 0 ([]:List UInt8) 0 ([]:List UInt8) ([]:List UInt8) 0 0 ([]:List UInt8) ([]:List UInt8) ([]:List UInt8) ([]:List UInt8) ([]:List UInt8) ([]:List UInt8) ([]:List Aj) ([]:List (List UInt8)) ([]:List Al) (Ar6.mk 0 0 0 0 0 0))
 else
  (Sj c0 m0).bind fun r2=>
  (Yx c0 r2).bind fun r3=>
  (Yy c0 r3).bind fun r4=>
  some r4
instance Aod (c0:Ab)(m0:Aq):HE Aq.av (Xj c0 m0) 94 [Ab.av c0,Aq.av m0]:=⟨by unfold Xj;exact sa⟩
def A8 (o0:Ae):Option (Int×Ae):=
 (cG o0.f_reader.f_s o0.f_reader.f_at 1).bind fun r0=>
 if r0.2≠0 then
  some (0,(Ae.mk (Dq.mk o0.f_reader.f_s (wr (o0.f_reader.f_at+1))) o0.f_c))
 else
  some (r0.1,(Ae.mk (Dq.mk o0.f_reader.f_s (wr (o0.f_reader.f_at+1))) o0.f_c))
instance rG (o0:Ae):HS (A8 o0) (LM.call 152 [.ptr 0 0] [⟨true,Ae.cells o0⟩]) fun r q=>q=(iav r.1,[⟨true,Ae.cells r.2⟩]):=⟨by unfold A8;exact sa⟩
def Ci (o0:Ae):Option (Int×Ae):=
 (A8 o0).bind fun r0=>
 (A8 r0.2).bind fun r2=>
 some ((wr (r0.1+(wr (256*r2.1)))),r2.2)
instance rL (o0:Ae):HS (Ci o0) (LM.call 151 [.ptr 0 0] [⟨true,Ae.cells o0⟩]) fun r q=>q=(iav r.1,[⟨true,Ae.cells r.2⟩]):=⟨by unfold Ci;exact sa⟩
def Cr (o0:Ae)(o2:Aq):Option (Ae×Aq):=
 (Ci o0).bind fun r0=>
 (Ci r0.2).bind fun r2=>
 (Ci r2.2).bind fun r3=>
 (A8 r3.2).bind fun r4=>
 (A8 r4.2).bind fun r5=>
 (A8 r5.2).bind fun r6=>
 some (r6.2,(Aq.mk r0.1 r2.1 r3.1 o2.Pipe r4.1 o2.Vec o2.Agreed r5.1 r6.1 o2.Members o2.Seen o2.Heard o2.Sent o2.Out o2.Line o2.Ports o2.Hold o2.Log o2.Diag))
instance lC (o0:Ae)(o2:Aq):HG (Cr o0 o2) LM 91 (fun a hs=> ∃g0,∃g2,∃g3,a=[.ptr 0 0,.ptr 1 0]∧hs=[⟨true,Ae.cells o0⟩,⟨true,[iav o2.Clock,iav o2.Anchor,iav o2.Since,.str o2.Pipe,iav o2.Age,.str o2.Vec,.str o2.Agreed,iav o2.Number,iav o2.Regular,.str o2.Members,.str o2.Seen,.str o2.Heard,.str o2.Sent,.str o2.Out,.str o2.Line,.lst g0 (List.map Aj.av o2.Ports),.lst g2 (List.map sav o2.Hold),.lst g3 (List.map Al.av o2.Log),iav o2.Diag.a0,iav o2.Diag.a1,iav o2.Diag.a2,iav o2.Diag.a3,iav o2.Diag.a4,iav o2.Diag.a5]⟩]∧Mg 3 g0∧Mg 1 g2∧Mg 2 g3) fun r q=> ∃g0,∃g1,∃g2,q=(.tup [],[⟨true,Ae.cells r.1⟩,⟨true,[iav r.2.Clock,iav r.2.Anchor,iav r.2.Since,.str r.2.Pipe,iav r.2.Age,.str r.2.Vec,.str r.2.Agreed,iav r.2.Number,iav r.2.Regular,.str r.2.Members,.str r.2.Seen,.str r.2.Heard,.str r.2.Sent,.str r.2.Out,.str r.2.Line,.lst g0 (List.map Aj.av r.2.Ports),.lst g1 (List.map sav r.2.Hold),.lst g2 (List.map Al.av r.2.Log),iav r.2.Diag.a0,iav r.2.Diag.a1,iav r.2.Diag.a2,iav r.2.Diag.a3,iav r.2.Diag.a4,iav r.2.Diag.a5]⟩])∧Mg 3 g0∧Mg 1 g1∧Mg 2 g2:=⟨by
 rintro _ _ ⟨g0,g2,g3,rfl,rfl,hg0,hg2,hg3⟩
 unfold Cr
 refine sv fun S hS hw hw8 R hR=> ?_
 exact fin⟩
def Cn (len:Nat)(x0 x2:Int)(x3:List Int)(o2:Ae):Option ((Int×(List Int)×Ae)⊕((List Int)×Ae)):=
 if x2<x0 then
  (A8 o2).bind fun r0=>
  if 0≤x2∧x2<((len:Nat):Int)then
   (mod? x3 (Int.toNat x2) (fun _=>(w8 r0.1))).bind fun l0=>
   some (.inl ((wr (x2+1)),l0,r0.2))
  else none
 else
  some (.inr (x3,o2))
def Ih (len:Nat)(x0 x2:Int)(x3:List Int)(o2:Ae):Option ((List Int)×Ae):=
 Ai (fun s:Int×(List Int)×Ae=>Cn len x0 s.1 s.2.1 s.2.2) (x2,x3,o2)
def Np (len:Nat)(x0:Int)(v:Int×(List Int)×Ae)(e:PF.St):Prop:=e=⟨[(0,.ptr 0 0),(5,.arr 108 0 len 1 false),(10,iav x0),(11,iav v.1)],[(108,⟨true,(List.map Qp v.2.1)⟩),(0,⟨true,Ae.cells v.2.2⟩)]⟩
instance oF (len:Nat)(x0 x2:Int)(x3:List Int)(o2:Ae):HL (Ih len x0 x2 x3 o2) LM ([0,5,10,11],[108],[5],Amo) (Np len x0 (x2,x3,o2)) (rE fun r=>((.exit 0),⟨[(5,.arr 108 0 len 1 false)],[(108,⟨true,(List.map Qp r.1)⟩),(0,⟨true,Ae.cells r.2⟩)]⟩)):=by
 refine lv (Np len x0) _ fun S hS hw hw8 R hR=> ?_
 rintro⟨x2,x3,o2⟩ env hp he
 cases he
 show Sim (Cn len x0 x2 x3 o2) _ _
 unfold Cn
 simp only[hw,hw8]
 refine au (.ite Iff.rfl (fun hc=> ?_) fun hc=> ?_)
 ·refine au (.hc hR ?_)
  rintro r0 q rfl
  refine au ?_
  first|refine Sim.ite Iff.rfl (fun _=> ?_) (fun _=>Sim.no)|refine Sim.guard (fun _=> ?_)
  refine au ?_
  refine Sim.opt (Gp (u:=(fun _=>(S.w8 r0.1))) (m:=(Int.toNat x2)) (by omega) (fun _=>rfl)) (fun l0 _=> ?_)
  exact fin
 ·exact fin
def Bm (n0:Int)(o0:Ae):Option ((List UInt8)×Ae):=
 if 0≤n0∧n0≤Ar then
  (Ih (Int.toNat n0) (((Int.toNat n0):Nat):Int) 0 (List.replicate (Int.toNat n0) 0) o0).bind fun r2=>
  (sub? r2.1 0 (Int.toNat n0)).bind fun y0=>
  some ((Pg y0),r2.2)
 else none
instance tN (n0:Int)(o0:Ae):HS (Bm n0 o0) (LM.call 153 [.ptr 0 0,iav n0] [⟨true,Ae.cells o0⟩]) fun r q=>q=(.str r.1,[⟨true,Ae.cells r.2⟩]):=⟨by
 unfold Bm
 refine sv fun S hS hw hw8 R hR=> ?_
 refine au ?_
 first|refine Sim.ite Iff.rfl (fun _=> ?_) (fun _=>Sim.no)|refine Sim.guard (fun _=> ?_)
 refine au ?_
 refine Sim.kl hS (Ye (f:=Qp) 0 _ rfl _) ?_
 refine au ?_
 refine Sim.hl hR kp pz ?_
 rintro r2 q rfl
 refine au ?_
 refine Sim.sub (f:=Qp) rfl (fun y0 hy0=> ?_)
 refine au ?_
 refine Sim.go (by rw[hy0];exact V1 _) ?_
 exact fin⟩
def Dd (n0:Int)(o0:Ae):Option ((List UInt8)×Ae):=
 (A8 o0).bind fun r0=>
 if(Int.tmod r0.1 2)=0 then
  some (([]:List UInt8),r0.2)
 else
  (Bm n0 r0.2).bind fun r2=>
  some (r2.1,r2.2)
instance oK (n0:Int)(o0:Ae):HS (Dd n0 o0) (LM.call 154 [.ptr 0 0,iav n0] [⟨true,Ae.cells o0⟩]) fun r q=>q=(.str r.1,[⟨true,Ae.cells r.2⟩]):=⟨by unfold Dd;exact sa⟩
def C5 (most:Int)(o0:Ae):Option ((List UInt8)×Ae):=
 (A8 o0).bind fun r0=>
 if(wr (most+1))=0 then none else
 (Bm (Int.tmod r0.1 (wr (most+1))) r0.2).bind fun r2=>
 some (r2.1,r2.2)
instance rP (most:Int)(o0:Ae):HS (C5 most o0) (LM.call 156 [.ptr 0 0,iav most] [⟨true,Ae.cells o0⟩]) fun r q=>q=(.str r.1,[⟨true,Ae.cells r.2⟩]):=⟨by unfold C5;exact sa⟩
def F4 (o0:Ae)(o2:Aq):Option (Ae×Aq):=
 (Hb o0.f_c).bind fun r0=>
 (Bm r0 o0).bind fun r2=>
 (Mm r2.2.f_c).bind fun r3=>
 (Dd r3 r2.2).bind fun r4=>
 (Mm r4.2.f_c).bind fun r5=>
 (Dd r5 r4.2).bind fun r6=>
 (Bm r6.2.f_c.N r6.2).bind fun r7=>
 (Bm r7.2.f_c.N r7.2).bind fun r8=>
 (Bm (List.length r8.2.f_c.Table:Int) r8.2).bind fun r9=>
 (Bm (List.length r9.2.f_c.Table:Int) r9.2).bind fun r10=>
 (C5 16 r10.2).bind fun r11=>
 (C5 16 r11.2).bind fun r12=>
 some (r12.2,(Aq.mk o2.Clock o2.Anchor o2.Since r2.1 o2.Age r4.1 r6.1 o2.Number o2.Regular r7.1 r8.1 r9.1 r10.1 r11.1 r12.1 o2.Ports o2.Hold o2.Log o2.Diag))
instance qN (o0:Ae)(o2:Aq):HG (F4 o0 o2) LM 92 (fun a hs=> ∃g0,∃g2,∃g3,a=[.ptr 0 0,.ptr 1 0]∧hs=[⟨true,Ae.cells o0⟩,⟨true,[iav o2.Clock,iav o2.Anchor,iav o2.Since,.str o2.Pipe,iav o2.Age,.str o2.Vec,.str o2.Agreed,iav o2.Number,iav o2.Regular,.str o2.Members,.str o2.Seen,.str o2.Heard,.str o2.Sent,.str o2.Out,.str o2.Line,.lst g0 (List.map Aj.av o2.Ports),.lst g2 (List.map sav o2.Hold),.lst g3 (List.map Al.av o2.Log),iav o2.Diag.a0,iav o2.Diag.a1,iav o2.Diag.a2,iav o2.Diag.a3,iav o2.Diag.a4,iav o2.Diag.a5]⟩]∧Mg 3 g0∧Mg 1 g2∧Mg 2 g3) fun r q=> ∃g0,∃g1,∃g2,q=(.tup [],[⟨true,Ae.cells r.1⟩,⟨true,[iav r.2.Clock,iav r.2.Anchor,iav r.2.Since,.str r.2.Pipe,iav r.2.Age,.str r.2.Vec,.str r.2.Agreed,iav r.2.Number,iav r.2.Regular,.str r.2.Members,.str r.2.Seen,.str r.2.Heard,.str r.2.Sent,.str r.2.Out,.str r.2.Line,.lst g0 (List.map Aj.av r.2.Ports),.lst g1 (List.map sav r.2.Hold),.lst g2 (List.map Al.av r.2.Log),iav r.2.Diag.a0,iav r.2.Diag.a1,iav r.2.Diag.a2,iav r.2.Diag.a3,iav r.2.Diag.a4,iav r.2.Diag.a5]⟩])∧Mg 3 g0∧Mg 1 g1∧Mg 2 g2:=⟨by
 rintro _ _ ⟨g0,g2,g3,rfl,rfl,hg0,hg2,hg3⟩
 unfold F4
 refine sv fun S hS hw hw8 R hR=> ?_
 exact fin⟩
def B7 (x0 x2:Int)(o3:Ae)(o4:Aq):Option ((Int×Ae×Aq)⊕(Ae×Aq)):=
 if x2<x0 then
  (C5 16 o3).bind fun r0=>
  (A8 r0.2).bind fun r2=>
  (A8 r2.2).bind fun r3=>
  if List.length o4.Ports+List.length [(Aj.mk r0.1 r2.1 r3.1)]≤Ar then
   some (.inl ((wr (x2+1)),r3.2,(Aq.mk o4.Clock o4.Anchor o4.Since o4.Pipe o4.Age o4.Vec o4.Agreed o4.Number o4.Regular o4.Members o4.Seen o4.Heard o4.Sent o4.Out o4.Line (o4.Ports++[(Aj.mk r0.1 r2.1 r3.1)]) o4.Hold o4.Log o4.Diag)))
  else none
 else
  some (.inr (o3,o4))
def G7 (x0 x2:Int)(o3:Ae)(o4:Aq):Option (Ae×Aq):=
 Ai (fun s:Int×Ae×Aq=>B7 x0 s.1 s.2.1 s.2.2) (x2,o3,o4)
def Ld (x0:Int)(v:Int×Ae×Aq)(e:PF.St):Prop:= ∃g4,∃g5,∃g6,e=⟨[(0,.ptr 0 0),(1,.ptr 1 0),(12,iav x0),(13,iav v.1)],[(0,⟨true,Ae.cells v.2.1⟩),(1,⟨true,[iav v.2.2.Clock,iav v.2.2.Anchor,iav v.2.2.Since,.str v.2.2.Pipe,iav v.2.2.Age,.str v.2.2.Vec,.str v.2.2.Agreed,iav v.2.2.Number,iav v.2.2.Regular,.str v.2.2.Members,.str v.2.2.Seen,.str v.2.2.Heard,.str v.2.2.Sent,.str v.2.2.Out,.str v.2.2.Line,.lst g4 (List.map Aj.av v.2.2.Ports),.lst g5 (List.map sav v.2.2.Hold),.lst g6 (List.map Al.av v.2.2.Log),iav v.2.2.Diag.a0,iav v.2.2.Diag.a1,iav v.2.2.Diag.a2,iav v.2.2.Diag.a3,iav v.2.2.Diag.a4,iav v.2.2.Diag.a5]⟩)]⟩∧Mg 3 g4∧Mg 1 g5∧Mg 2 g6
instance lJ (x0 x2:Int)(o3:Ae)(o4:Aq):HL (G7 x0 x2 o3 o4) LM ([0,1,12,13],[],[0,1],As9) (Ld x0 (x2,o3,o4)) (fun r (q:Ex×PF.St)=> ∃g0',∃g1',∃g2',q=((.exit 0),⟨[(0,.ptr 0 0),(1,.ptr 1 0)],[(0,⟨true,Ae.cells r.1⟩),(1,⟨true,[iav r.2.Clock,iav r.2.Anchor,iav r.2.Since,.str r.2.Pipe,iav r.2.Age,.str r.2.Vec,.str r.2.Agreed,iav r.2.Number,iav r.2.Regular,.str r.2.Members,.str r.2.Seen,.str r.2.Heard,.str r.2.Sent,.str r.2.Out,.str r.2.Line,.lst g0' (List.map Aj.av r.2.Ports),.lst g1' (List.map sav r.2.Hold),.lst g2' (List.map Al.av r.2.Log),iav r.2.Diag.a0,iav r.2.Diag.a1,iav r.2.Diag.a2,iav r.2.Diag.a3,iav r.2.Diag.a4,iav r.2.Diag.a5]⟩)]⟩)∧Mg 3 g0'∧Mg 1 g1'∧Mg 2 g2'):=by
 refine lv (Ld x0) _ fun S hS hw hw8 R hR=> ?_
 rintro⟨x2,o3,o4⟩ env hp ⟨g4,g5,g6,he,hg4,hg5,hg6⟩
 cases he
 show Sim (B7 x0 x2 o3 o4) _ _
 unfold B7
 simp only[hw]
 refine au (.ite Iff.rfl (fun hc=> ?_) fun hc=> ?_)
 ·refine au (.hc hR ?_)
  rintro r0 q rfl
  refine au (.hc hR ?_)
  rintro r2 q rfl
  refine au (.hc hR ?_)
  rintro r3 q rfl
  refine au ?_
  refine Sim.kl hS rfl ?_
  refine au ?_
  refine Sim.kl hS (ys:=List.map Aj.av [(Aj.mk r0.1 r2.1 r3.1)]) rfl ?_
  refine au ?_
  first|(refine Sim.goB (Cj (by intro _;rfl) hg4 _) ?_)|skip
  refine au ?_
  first|(refine Sim.goB (Ca (by intro _;exact⟨rfl,rfl,rfl⟩) _) ?_)|skip
  refine au ?_
  first|refine Sim.ite (by simp) (fun _=> ?_) (fun _=>Sim.no)|refine Sim.guard (fun _=> ?_)
  exact fin
 ·exact fin
def B9 (x3 x4:Int)(o5:Ae)(o6:Aq):Option ((Int×Ae×Aq)⊕(Ae×Aq)):=
 if x4<x3 then
  (C5 40 o5).bind fun r5=>
  if List.length o6.Hold+List.length [r5.1]≤Ar then
   some (.inl ((wr (x4+1)),r5.2,(Aq.mk o6.Clock o6.Anchor o6.Since o6.Pipe o6.Age o6.Vec o6.Agreed o6.Number o6.Regular o6.Members o6.Seen o6.Heard o6.Sent o6.Out o6.Line o6.Ports (o6.Hold++[r5.1]) o6.Log o6.Diag)))
  else none
 else
  some (.inr (o5,o6))
def Gz (x3 x4:Int)(o5:Ae)(o6:Aq):Option (Ae×Aq):=
 Ai (fun s:Int×Ae×Aq=>B9 x3 s.1 s.2.1 s.2.2) (x4,o5,o6)
def Lf (x3:Int)(v:Int×Ae×Aq)(e:PF.St):Prop:= ∃g10,∃g11,∃g12,e=⟨[(0,.ptr 0 0),(1,.ptr 1 0),(51,iav x3),(52,iav v.1)],[(0,⟨true,Ae.cells v.2.1⟩),(1,⟨true,[iav v.2.2.Clock,iav v.2.2.Anchor,iav v.2.2.Since,.str v.2.2.Pipe,iav v.2.2.Age,.str v.2.2.Vec,.str v.2.2.Agreed,iav v.2.2.Number,iav v.2.2.Regular,.str v.2.2.Members,.str v.2.2.Seen,.str v.2.2.Heard,.str v.2.2.Sent,.str v.2.2.Out,.str v.2.2.Line,.lst g10 (List.map Aj.av v.2.2.Ports),.lst g11 (List.map sav v.2.2.Hold),.lst g12 (List.map Al.av v.2.2.Log),iav v.2.2.Diag.a0,iav v.2.2.Diag.a1,iav v.2.2.Diag.a2,iav v.2.2.Diag.a3,iav v.2.2.Diag.a4,iav v.2.2.Diag.a5]⟩)]⟩∧Mg 3 g10∧Mg 1 g11∧Mg 2 g12
instance lW (x3 x4:Int)(o5:Ae)(o6:Aq):HL (Gz x3 x4 o5 o6) LM ([0,1,51,52],[],[0,1],Asr) (Lf x3 (x4,o5,o6)) (fun r (q:Ex×PF.St)=> ∃g0',∃g1',∃g2',q=((.exit 2),⟨[(0,.ptr 0 0),(1,.ptr 1 0)],[(0,⟨true,Ae.cells r.1⟩),(1,⟨true,[iav r.2.Clock,iav r.2.Anchor,iav r.2.Since,.str r.2.Pipe,iav r.2.Age,.str r.2.Vec,.str r.2.Agreed,iav r.2.Number,iav r.2.Regular,.str r.2.Members,.str r.2.Seen,.str r.2.Heard,.str r.2.Sent,.str r.2.Out,.str r.2.Line,.lst g0' (List.map Aj.av r.2.Ports),.lst g1' (List.map sav r.2.Hold),.lst g2' (List.map Al.av r.2.Log),iav r.2.Diag.a0,iav r.2.Diag.a1,iav r.2.Diag.a2,iav r.2.Diag.a3,iav r.2.Diag.a4,iav r.2.Diag.a5]⟩)]⟩)∧Mg 3 g0'∧Mg 1 g1'∧Mg 2 g2'):=by
 refine lv (Lf x3) _ fun S hS hw hw8 R hR=> ?_
 rintro⟨x4,o5,o6⟩ env hp ⟨g10,g11,g12,he,hg10,hg11,hg12⟩
 cases he
 show Sim (B9 x3 x4 o5 o6) _ _
 unfold B9
 simp only[hw]
 refine au (.ite Iff.rfl (fun hc2=> ?_) fun hc2=> ?_)
 ·refine au (.hc hR ?_)
  rintro r5 q rfl
  refine au ?_
  refine Sim.kl hS rfl ?_
  refine au ?_
  refine Sim.kl hS (ys:=List.map sav [r5.1]) rfl ?_
  refine au ?_
  first|(refine Sim.goB (Cj (by intro _;rfl) hg11 _) ?_)|skip
  refine au ?_
  first|(refine Sim.goB (Ca (by intro _;exact⟨rfl,rfl,rfl⟩) _) ?_)|skip
  refine au ?_
  first|refine Sim.ite (by simp) (fun _=> ?_) (fun _=>Sim.no)|refine Sim.guard (fun _=> ?_)
  exact fin
 ·exact fin
def B6 (x5 x6:Int)(o7:Ae)(o8:Aq):Option ((Int×Ae×Aq)⊕(Ae×Aq)):=
 if x6<x5 then
  (A8 o7).bind fun r8=>
  if o7.f_c.N=r8.2.f_c.N then
   if r8.2.f_c.N=0 then none else
   (Ci r8.2).bind fun r9=>
   if List.length o8.Log+List.length [(Al.mk (Int.tmod r8.1 r8.2.f_c.N) r9.1)]≤Ar then
    some (.inl ((wr (x6+1)),r9.2,(Aq.mk o8.Clock o8.Anchor o8.Since o8.Pipe o8.Age o8.Vec o8.Agreed o8.Number o8.Regular o8.Members o8.Seen o8.Heard o8.Sent o8.Out o8.Line o8.Ports o8.Hold (o8.Log++[(Al.mk (Int.tmod r8.1 r8.2.f_c.N) r9.1)]) o8.Diag)))
   else none
  else none
 else
  some (.inr (o7,o8))
def Ha (x5 x6:Int)(o7:Ae)(o8:Aq):Option (Ae×Aq):=
 Ai (fun s:Int×Ae×Aq=>B6 x5 s.1 s.2.1 s.2.2) (x6,o7,o8)
def Lr (x5:Int)(v:Int×Ae×Aq)(e:PF.St):Prop:= ∃g16,∃g17,∃g18,e=⟨[(0,.ptr 0 0),(1,.ptr 1 0),(73,iav x5),(74,iav v.1)],[(0,⟨true,Ae.cells v.2.1⟩),(1,⟨true,[iav v.2.2.Clock,iav v.2.2.Anchor,iav v.2.2.Since,.str v.2.2.Pipe,iav v.2.2.Age,.str v.2.2.Vec,.str v.2.2.Agreed,iav v.2.2.Number,iav v.2.2.Regular,.str v.2.2.Members,.str v.2.2.Seen,.str v.2.2.Heard,.str v.2.2.Sent,.str v.2.2.Out,.str v.2.2.Line,.lst g16 (List.map Aj.av v.2.2.Ports),.lst g17 (List.map sav v.2.2.Hold),.lst g18 (List.map Al.av v.2.2.Log),iav v.2.2.Diag.a0,iav v.2.2.Diag.a1,iav v.2.2.Diag.a2,iav v.2.2.Diag.a3,iav v.2.2.Diag.a4,iav v.2.2.Diag.a5]⟩)]⟩∧Mg 3 g16∧Mg 1 g17∧Mg 2 g18
instance lK (x5 x6:Int)(o7:Ae)(o8:Aq):HL (Ha x5 x6 o7 o8) LM ([0,1,73,74],[],[0,1],As0) (Lr x5 (x6,o7,o8)) (fun r (q:Ex×PF.St)=> ∃g0',∃g1',∃g2',q=((.exit 4),⟨[(0,.ptr 0 0),(1,.ptr 1 0)],[(0,⟨true,Ae.cells r.1⟩),(1,⟨true,[iav r.2.Clock,iav r.2.Anchor,iav r.2.Since,.str r.2.Pipe,iav r.2.Age,.str r.2.Vec,.str r.2.Agreed,iav r.2.Number,iav r.2.Regular,.str r.2.Members,.str r.2.Seen,.str r.2.Heard,.str r.2.Sent,.str r.2.Out,.str r.2.Line,.lst g0' (List.map Aj.av r.2.Ports),.lst g1' (List.map sav r.2.Hold),.lst g2' (List.map Al.av r.2.Log),iav r.2.Diag.a0,iav r.2.Diag.a1,iav r.2.Diag.a2,iav r.2.Diag.a3,iav r.2.Diag.a4,iav r.2.Diag.a5]⟩)]⟩)∧Mg 3 g0'∧Mg 1 g1'∧Mg 2 g2'):=by
 refine lv (Lr x5) _ fun S hS hw hw8 R hR=> ?_
 rintro⟨x6,o7,o8⟩ env hp ⟨g16,g17,g18,he,hg16,hg17,hg18⟩
 cases he
 show Sim (B6 x5 x6 o7 o8) _ _
 unfold B6
 simp only[hw]
 refine au (.ite Iff.rfl (fun hc3=> ?_) fun hc3=> ?_)
 ·refine au (.hc hR ?_)
  rintro r8 q rfl
  refine au ?_
  first|refine Sim.ite Iff.rfl (fun _=> ?_) (fun _=>Sim.no)|refine Sim.guard (fun _=> ?_)
  refine au ?_
  refine Sim.ite Iff.rfl (fun _=>Sim.no) (fun hc4=> ?_)
  refine au (.hc hR ?_)
  rintro r9 q rfl
  refine au ?_
  refine Sim.kl hS rfl ?_
  refine au ?_
  refine Sim.kl hS (ys:=List.map Al.av [(Al.mk (Int.tmod r8.1 r8.2.f_c.N) r9.1)]) rfl ?_
  refine au ?_
  first|(refine Sim.goB (Cj (by intro _;rfl) hg18 _) ?_)|skip
  refine au ?_
  first|(refine Sim.goB (Ca (by intro _;exact⟨rfl,rfl,rfl⟩) _) ?_)|skip
  refine au ?_
  first|refine Sim.ite (by simp) (fun _=> ?_) (fun _=>Sim.no)|refine Sim.guard (fun _=> ?_)
  exact fin
 ·exact fin
def B8 (x7:Int)(o9:Ae)(o10:Aq):Option ((Int×Ae×Aq)⊕(Ae×Aq)):=
 if x7<6 then
  (Ci o9).bind fun r11=>
  if 0≤x7∧x7<(6:Nat)then
   (Ar6.set? o10.Diag (Int.toNat x7) r11.1).bind fun y0=>
   some (.inl ((wr (x7+1)),r11.2,(Aq.mk o10.Clock o10.Anchor o10.Since o10.Pipe o10.Age o10.Vec o10.Agreed o10.Number o10.Regular o10.Members o10.Seen o10.Heard o10.Sent o10.Out o10.Line o10.Ports o10.Hold o10.Log y0)))
  else none
 else
  some (.inr (o9,o10))
def G3 (x7:Int)(o9:Ae)(o10:Aq):Option (Ae×Aq):=
 Ai (fun s:Int×Ae×Aq=>B8 s.1 s.2.1 s.2.2) (x7,o9,o10)
def Lo (v:Int×Ae×Aq)(e:PF.St):Prop:= ∃g22,∃g23,∃g24,e=⟨[(0,.ptr 0 0),(1,.ptr 1 0),(103,iav v.1)],[(0,⟨true,Ae.cells v.2.1⟩),(1,⟨true,[iav v.2.2.Clock,iav v.2.2.Anchor,iav v.2.2.Since,.str v.2.2.Pipe,iav v.2.2.Age,.str v.2.2.Vec,.str v.2.2.Agreed,iav v.2.2.Number,iav v.2.2.Regular,.str v.2.2.Members,.str v.2.2.Seen,.str v.2.2.Heard,.str v.2.2.Sent,.str v.2.2.Out,.str v.2.2.Line,.lst g22 (List.map Aj.av v.2.2.Ports),.lst g23 (List.map sav v.2.2.Hold),.lst g24 (List.map Al.av v.2.2.Log),iav v.2.2.Diag.a0,iav v.2.2.Diag.a1,iav v.2.2.Diag.a2,iav v.2.2.Diag.a3,iav v.2.2.Diag.a4,iav v.2.2.Diag.a5]⟩)]⟩∧Mg 3 g22∧Mg 1 g23∧Mg 2 g24
instance lR (x7:Int)(o9:Ae)(o10:Aq):HL (G3 x7 o9 o10) LM ([0,1,103],[],[],Art) (Lo (x7,o9,o10)) (fun r (q:Ex×PF.St)=> ∃g0',∃g1',∃g2',q=((.exit 6),⟨[],[(0,⟨true,Ae.cells r.1⟩),(1,⟨true,[iav r.2.Clock,iav r.2.Anchor,iav r.2.Since,.str r.2.Pipe,iav r.2.Age,.str r.2.Vec,.str r.2.Agreed,iav r.2.Number,iav r.2.Regular,.str r.2.Members,.str r.2.Seen,.str r.2.Heard,.str r.2.Sent,.str r.2.Out,.str r.2.Line,.lst g0' (List.map Aj.av r.2.Ports),.lst g1' (List.map sav r.2.Hold),.lst g2' (List.map Al.av r.2.Log),iav r.2.Diag.a0,iav r.2.Diag.a1,iav r.2.Diag.a2,iav r.2.Diag.a3,iav r.2.Diag.a4,iav r.2.Diag.a5]⟩)]⟩)∧Mg 3 g0'∧Mg 1 g1'∧Mg 2 g2'):=by
 refine lv Lo _ fun S hS hw hw8 R hR=> ?_
 rintro⟨x7,o9,o10⟩ env hp ⟨g22,g23,g24,he,hg22,hg23,hg24⟩
 cases he
 show Sim (B8 x7 o9 o10) _ _
 unfold B8
 simp only[hw]
 refine au (.ite Iff.rfl (fun hc5=> ?_) fun hc5=> ?_)
 ·refine au (.hc hR ?_)
  rintro r11 q rfl
  refine au ?_
  first|refine Sim.ite Iff.rfl (fun hb=> ?_) (fun _=>Sim.no)|refine Sim.guard (fun hb=> ?_)
  refine au ?_
  refine Sim.opt (f:=fun y0=>[iav o10.Clock,iav o10.Anchor,iav o10.Since,.str o10.Pipe,iav o10.Age,.str o10.Vec,.str o10.Agreed,iav o10.Number,iav o10.Regular,.str o10.Members,.str o10.Seen,.str o10.Heard,.str o10.Sent,.str o10.Out,.str o10.Line,.lst g22 (List.map Aj.av o10.Ports),.lst g23 (List.map sav o10.Hold),.lst g24 (List.map Al.av o10.Log),iav y0.a0,iav y0.a1,iav y0.a2,iav y0.a3,iav y0.a4,iav y0.a5]) (by have hb':(Int.toNat x7)<6:=(by omega);generalize (Int.toNat x7)=j at hb' ⊢;rcases j with _|_|_|_|_|_|j<;>first|rfl|exact absurd hb' (by omega)) (fun y0 _=> ?_)
  exact fin
 ·exact fin
def Gj (o0:Ae)(o2:Aq):Option (Ae×Aq):=
 (G7 o0.f_c.N 0 o0 o2).bind fun r4=>
 (Gz (wr (r4.1.f_c.N*r4.1.f_c.D)) 0 r4.1 r4.2).bind fun r6=>
 (A8 r6.1).bind fun r7=>
 (Ha (Int.tmod r7.1 65) 0 r7.2 r6.2).bind fun r10=>
 (G3 0 r10.1 r10.2).bind fun r12=>
 some (r12.1,r12.2)
instance oE (o0:Ae)(o2:Aq):HG (Gj o0 o2) LM 93 (fun a hs=> ∃g0,∃g2,∃g3,a=[.ptr 0 0,.ptr 1 0]∧hs=[⟨true,Ae.cells o0⟩,⟨true,[iav o2.Clock,iav o2.Anchor,iav o2.Since,.str o2.Pipe,iav o2.Age,.str o2.Vec,.str o2.Agreed,iav o2.Number,iav o2.Regular,.str o2.Members,.str o2.Seen,.str o2.Heard,.str o2.Sent,.str o2.Out,.str o2.Line,.lst g0 (List.map Aj.av o2.Ports),.lst g2 (List.map sav o2.Hold),.lst g3 (List.map Al.av o2.Log),iav o2.Diag.a0,iav o2.Diag.a1,iav o2.Diag.a2,iav o2.Diag.a3,iav o2.Diag.a4,iav o2.Diag.a5]⟩]∧Mg 3 g0∧Mg 1 g2∧Mg 2 g3) fun r q=> ∃g0,∃g1,∃g2,q=(.tup [],[⟨true,Ae.cells r.1⟩,⟨true,[iav r.2.Clock,iav r.2.Anchor,iav r.2.Since,.str r.2.Pipe,iav r.2.Age,.str r.2.Vec,.str r.2.Agreed,iav r.2.Number,iav r.2.Regular,.str r.2.Members,.str r.2.Seen,.str r.2.Heard,.str r.2.Sent,.str r.2.Out,.str r.2.Line,.lst g0 (List.map Aj.av r.2.Ports),.lst g1 (List.map sav r.2.Hold),.lst g2 (List.map Al.av r.2.Log),iav r.2.Diag.a0,iav r.2.Diag.a1,iav r.2.Diag.a2,iav r.2.Diag.a3,iav r.2.Diag.a4,iav r.2.Diag.a5]⟩])∧Mg 3 g0∧Mg 1 g1∧Mg 2 g2:=⟨by
 rintro _ _ ⟨g0,g2,g3,rfl,rfl,hg0,hg2,hg3⟩
 unfold Gj
 refine sv fun S hS hw hw8 R hR=> ?_
 simp only[hw]
 refine au ?_
 refine Sim.hl hR kp pz ?_
 rintro r4 q ⟨g7,g8,g9,rfl,hg7,hg8,hg9⟩
 refine au ?_
 refine Sim.hl hR kp pz ?_
 rintro r6 q ⟨g13,g14,g15,rfl,hg13,hg14,hg15⟩
 refine au (.hc hR ?_)
 rintro r7 q rfl
 refine au ?_
 refine Sim.hl hR kp pz ?_
 rintro r10 q ⟨g19,g20,g21,rfl,hg19,hg20,hg21⟩
 refine au ?_
 refine Sim.hl hR kp pz ?_
 rintro r12 q ⟨g25,g26,g27,rfl,hg25,hg26,hg27⟩
 exact fin⟩
def Oe (c0:Ab)(s0:List UInt8):Option Aq:=
 (Bs c0).bind fun r0=>
 if r0≠0 then
  some (Aq.mk 0 0 0 ([]:List UInt8) 0 ([]:List UInt8) ([]:List UInt8) 0 0 ([]:List UInt8) ([]:List UInt8) ([]:List UInt8) ([]:List UInt8) ([]:List UInt8) ([]:List UInt8) ([]:List Aj) ([]:List (List UInt8)) ([]:List Al) (Ar6.mk 0 0 0 0 0 0))
 else
  (Cr (Ae.mk (Dq.mk s0 0) c0) (Aq.mk 0 0 0 ([]:List UInt8) 0 ([]:List UInt8) ([]:List UInt8) 0 0 ([]:List UInt8) ([]:List UInt8) ([]:List UInt8) ([]:List UInt8) ([]:List UInt8) ([]:List UInt8) ([]:List Aj) ([]:List (List UInt8)) ([]:List Al) (Ar6.mk 0 0 0 0 0 0))).bind fun r2=>
  (F4 r2.1 r2.2).bind fun r3=>
  (Gj r3.1 r3.2).bind fun r4=>
  (Xj c0 r4.2).bind fun r5=>
  some r5
instance Ai3 (c0:Ab)(s0:List UInt8):HE Aq.av (Oe c0 s0) 45 [Ab.av c0,.str s0]:=⟨by
 unfold Oe
 refine sv fun S hS hw hw8 R hR=> ?_
 refine au (.hc hR ?_)
 rintro r0 q rfl
 refine au (.ite Iff.rfl (fun hc=> ?_) fun hc=> ?_)
 ·exact fin
 ·refine au ?_
  refine Sim.hg hR pz ?_
  rintro r2 q ⟨g0,g2,g3,rfl,hg0,hg2,hg3⟩
  refine au ?_
  refine Sim.hg hR pz ?_
  rintro r3 q ⟨g4,g5,g6,rfl,hg4,hg5,hg6⟩
  refine au ?_
  refine Sim.hg hR pz ?_
  rintro r4 q ⟨g7,g8,g9,rfl,hg7,hg8,hg9⟩
  exact fin⟩
def Gx (l0:List (List UInt8))(place:Int)(usual:List UInt8):Option ((List UInt8)):=
 if place<(List.length l0:Int)then
  (idx? l0 place).bind fun z0=>
  some z0
 else
  some usual
instance lL (l0:List (List UInt8))(place:Int)(usual:List UInt8):HE sav (Gx l0 place usual) 96 [lav sav l0,iav place,.str usual]:=⟨by unfold Gx;exact sa⟩
def M8 (s0:Aa)(node:Int):Option ((List UInt8)):=
 (Fp s0.Conf node).bind fun r0=>
 if(!r0)=true then
  some ([]:List UInt8)
 else
  (Gx s0.Images node ([]:List UInt8)).bind fun r2=>
  some r2
instance Acy (s0:Aa)(node:Int):HE sav (M8 s0 node) 46 [Aa.av s0,iav node]:=⟨by unfold M8;exact sa⟩
def G9 (i3 s3:Int)(t2:Aa)(x4:List Am)(x5 x6:Int)(x7:List Ba)(x8:Int)(r3:Am)(A2:List UInt8)(x9:Int):Option (((List UInt8)×Int)⊕((List UInt8))):=
 if x9<x8 then
  (idx? x7 x9).bind fun z2=>
  if z2.Node=i3 then
   (Oe t2.Conf z2.Image).bind fun r4=>
   some (.inl (r4.Out,(wr (x9+1))))
  else
   some (.inl (A2,(wr (x9+1))))
 else
  some (.inr A2)
def Qt (i3 s3:Int)(t2:Aa)(x4:List Am)(x5 x6:Int)(x7:List Ba)(x8:Int)(r3:Am)(A2:List UInt8)(x9:Int):Option ((List UInt8)):=
 Ai (fun s:(List UInt8)×Int=>G9 i3 s3 t2 x4 x5 x6 x7 x8 r3 s.1 s.2) (A2,x9)
def cW (i3 s3:Int)(t2:Aa)(x4:List Am)(x5 x6:Int)(x7:List Ba)(x8:Int)(r3:Am)(v:(List UInt8)×Int)(e:PF.St):Prop:=e=⟨[(1,iav i3),(2,iav s3),(3,.ept (Aa.cells t2) 0),(7,.str v.1),(9,.ptr 109 0),(32,lav Am.av x4),(33,iav x5),(34,iav x6),(43,lav Ba.av x7),(44,iav x8),(45,iav v.2)],[(109,⟨true,Am.cells r3⟩)]⟩
instance Ab9 (i3 s3:Int)(t2:Aa)(x4:List Am)(x5 x6:Int)(x7:List Ba)(x8:Int)(r3:Am)(A2:List UInt8)(x9:Int):HL (Qt i3 s3 t2 x4 x5 x6 x7 x8 r3 A2 x9) LM ([1,2,3,7,9,32,33,34,43,44,45],[109],[1,2,3,7,9,32,33,34],Aro) (cW i3 s3 t2 x4 x5 x6 x7 x8 r3 (A2,x9)) (rE fun r=>((.exit 2),⟨[(1,iav i3),(2,iav s3),(3,.ept (Aa.cells t2) 0),(7,.str r),(9,.ptr 109 0),(32,lav Am.av x4),(33,iav x5),(34,iav x6)],[(109,⟨true,Am.cells r3⟩)]⟩)):=by unfold Qt G9;exact lf
def G4 (i4 s4:Int)(t3:Aa)(x10:List Am)(x11 x12:Int)(x13:List Bd)(x14:Int)(r6:Am)(A3:List UInt8)(x15:Int):Option (((List UInt8)×Int)⊕((List UInt8))):=
 if x15<x14 then
  (idx? x13 x15).bind fun z3=>
  if z3.Node=i4 then
   some (.inl (z3.Text,(wr (x15+1))))
  else
   some (.inl (A3,(wr (x15+1))))
 else
  some (.inr A3)
def Qs (i4 s4:Int)(t3:Aa)(x10:List Am)(x11 x12:Int)(x13:List Bd)(x14:Int)(r6:Am)(A3:List UInt8)(x15:Int):Option ((List UInt8)):=
 Ai (fun s:(List UInt8)×Int=>G4 i4 s4 t3 x10 x11 x12 x13 x14 r6 s.1 s.2) (A3,x15)
def cR (i4 s4:Int)(t3:Aa)(x10:List Am)(x11 x12:Int)(x13:List Bd)(x14:Int)(r6:Am)(v:(List UInt8)×Int)(e:PF.St):Prop:=e=⟨[(1,iav i4),(2,iav s4),(3,.ept (Aa.cells t3) 0),(7,.str v.1),(32,lav Am.av x10),(33,iav x11),(34,iav x12),(61,lav Bd.av x13),(62,iav x14),(63,iav v.2)],[(109,⟨true,Am.cells r6⟩)]⟩
instance Ae2 (i4 s4:Int)(t3:Aa)(x10:List Am)(x11 x12:Int)(x13:List Bd)(x14:Int)(r6:Am)(A3:List UInt8)(x15:Int):HL (Qs i4 s4 t3 x10 x11 x12 x13 x14 r6 A3 x15) LM ([1,2,3,7,32,33,34,61,62,63],[109],[1,2,3,7,32,33,34],Arj) (cR i4 s4 t3 x10 x11 x12 x13 x14 r6 (A3,x15)) (rE fun r=>((.exit 4),⟨[(1,iav i4),(2,iav s4),(3,.ept (Aa.cells t3) 0),(7,.str r),(32,lav Am.av x10),(33,iav x11),(34,iav x12)],[(109,⟨true,Am.cells r6⟩)]⟩)):=by unfold Qs G4;exact lf
def Hd (i2 s2:Int)(t0:Aa)(x0:List Am)(x2:Int)(A0:List UInt8)(x3:Int):Option (((List UInt8)×Int)⊕((List UInt8))):=
 if x3<x2 then
  (idx? x0 x3).bind fun z0=>
  if s2<x3 then
   some (.inr A0)
  else
   (Qt i2 s2 t0 x0 x2 x3 z0.Bursts (List.length z0.Bursts:Int) z0 A0 0).bind fun r5=>
   (Qs i2 s2 t0 x0 x2 x3 z0.Writes (List.length z0.Writes:Int) z0 r5 0).bind fun r7=>
   some (.inl (r7,(wr (x3+1))))
 else
  some (.inr A0)
def Qw (i2 s2:Int)(t0:Aa)(x0:List Am)(x2:Int)(A0:List UInt8)(x3:Int):Option ((List UInt8)):=
 Ai (fun s:(List UInt8)×Int=>Hd i2 s2 t0 x0 x2 s.1 s.2) (A0,x3)
def dS (i2 s2:Int)(t0:Aa)(x0:List Am)(x2:Int)(v:(List UInt8)×Int)(e:PF.St):Prop:=e=⟨[(1,iav i2),(2,iav s2),(3,.ept (Aa.cells t0) 0),(7,.str v.1),(32,lav Am.av x0),(33,iav x2),(34,iav v.2)],[]⟩
instance Ab7 (i2 s2:Int)(t0:Aa)(x0:List Am)(x2:Int)(A0:List UInt8)(x3:Int):HL (Qw i2 s2 t0 x0 x2 A0 x3) LM ([1,2,3,7,32,33,34],[],[7],Asd) (dS i2 s2 t0 x0 x2 (A0,x3)) (rE fun r=>((.exit 0),⟨[(7,.str r)],[]⟩)):=by unfold Qw Hd;exact lf
def Rv (L0:Aa)(i0 s0:Int):Option ((List UInt8)):=
 if i0<0 then
  some ([]:List UInt8)
 else
  if(min L0.Conf.N 13)≤i0 then
   some ([]:List UInt8)
  else
   (M8 L0 i0).bind fun r0=>
   (Oe L0.Conf r0).bind fun r2=>
   (Qw i0 s0 L0 L0.Ticks (List.length L0.Ticks:Int) r2.Out 0).bind fun r8=>
   some r8
instance Ajh (L0:Aa)(i0 s0:Int):HE sav (Rv L0 i0 s0) 13 [Aa.av L0,iav i0,iav s0]:=⟨by unfold Rv;exact sa⟩
def Cv (i2:Int)(s0:Ad)(x0:List Int)(x2 o0:Int)(o2:List UInt8)(len len2:Nat)(t0:Ac)(x6:Ah)(x3:Int)(x4:List (Gr×List Ag))(x5:List (List UInt8)):Option ((Int×(List (Gr×List Ag))×(List (List UInt8)))⊕((List (Gr×List Ag))×(List (List UInt8)))):=
 if x3<x2 then
  (idx? x0 x3).bind fun z3=>
  (Rv s0.Script z3 i2).bind fun r2=>
  if 0≤z3∧z3<((len:Nat):Int)then
   (mod? x5 (Int.toNat z3) (fun _=>r2)).bind fun l0=>
   (cT s0.f_rows z3 i2 (wr (i2+s0.Script.Conf.Period))).bind fun r3=>
   if 0≤z3∧z3<((len2:Nat):Int)then
    (mod? x4 (Int.toNat z3) (fun _=>(Gr.no,r3))).bind fun l2=>
    some (.inl ((wr (x3+1)),l2,l0))
   else none
  else none
 else
  some (.inr (x4,x5))
def M0 (i2:Int)(s0:Ad)(x0:List Int)(x2 o0:Int)(o2:List UInt8)(len len2:Nat)(t0:Ac)(x6:Ah)(x3:Int)(x4:List (Gr×List Ag))(x5:List (List UInt8)):Option ((List (Gr×List Ag))×(List (List UInt8))):=
 Ai (fun s:Int×(List (Gr×List Ag))×(List (List UInt8))=>Cv i2 s0 x0 x2 o0 o2 len len2 t0 x6 s.1 s.2.1 s.2.2) (x3,x4,x5)
def N1 (i2:Int)(s0:Ad)(x0:List Int)(x2 o0:Int)(o2:List UInt8)(len len2:Nat)(t0:Ac)(x6:Ah)(v:Int×(List (Gr×List Ag))×(List (List UInt8)))(e:PF.St):Prop:= ∃g0,∃g2,e=⟨[(1,iav i2),(2,.ept (Ad.cells s0) 0),(4,.ptr 104 0),(6,.ptr 106 0),(34,lav iav x0),(35,iav x2),(36,iav v.1)],[(106,⟨true,[iav o0,.str o2,.arr 126 0 len 1 false,.arr 131 0 len2 1 false]⟩),(131,⟨true,(List.map (glv Ag.av) v.2.1)⟩),(126,⟨true,(List.map sav v.2.2)⟩),(105,⟨true,Ac.cells t0⟩),(104,⟨true,[iav x6.Number,.str x6.Members,.lst g0 (List.map sav x6.Lines),.lst g2 (List.map (lav Ag.av) x6.Got)]⟩)]⟩∧Mg 1 g0∧Mg 1 g2
instance rJ (i2:Int)(s0:Ad)(x0:List Int)(x2 o0:Int)(o2:List UInt8)(len len2:Nat)(t0:Ac)(x6:Ah)(x3:Int)(x4:List (Gr×List Ag))(x5:List (List UInt8)):HL (M0 i2 s0 x0 x2 o0 o2 len len2 t0 x6 x3 x4 x5) LM ([1,2,4,6,34,35,36],[104,105,106,126,131],[4,6],Ase) (N1 i2 s0 x0 x2 o0 o2 len len2 t0 x6 (x3,x4,x5)) (fun r (q:Ex×PF.St)=> ∃g0',∃g1',q=((.exit 0),⟨[(4,.ptr 104 0),(6,.ptr 106 0)],[(106,⟨true,[iav o0,.str o2,.arr 126 0 len 1 false,.arr 131 0 len2 1 false]⟩),(131,⟨true,(List.map (glv Ag.av) r.1)⟩),(126,⟨true,(List.map sav r.2)⟩),(105,⟨true,Ac.cells t0⟩),(104,⟨true,[iav x6.Number,.str x6.Members,.lst g0' (List.map sav x6.Lines),.lst g1' (List.map (lav Ag.av) x6.Got)]⟩)]⟩)∧Mg 1 g0'∧Mg 1 g1'):=by
 refine lv (N1 i2 s0 x0 x2 o0 o2 len len2 t0 x6) _ fun S hS hw hw8 R hR=> ?_
 rintro⟨x3,x4,x5⟩ env hp ⟨g0,g2,he,hg0,hg2⟩
 cases he
 show Sim (Cv i2 s0 x0 x2 o0 o2 len len2 t0 x6 x3 x4 x5) _ _
 unfold Cv
 simp only[hw]
 refine au (.ite Iff.rfl (fun hc=> ?_) fun hc=> ?_)
 ·refine au ?_
  refine Sim.ix (by simp) (fun z3 hz3=> ?_)
  refine au ?_
  refine Sim.go (Bw _ hz3) ?_
  refine au (.hc hR ?_)
  rintro r2 q rfl
  refine au ?_
  first|refine Sim.ite Iff.rfl (fun _=> ?_) (fun _=>Sim.no)|refine Sim.guard (fun _=> ?_)
  refine au ?_
  refine Sim.opt (Gp (u:=(fun _=>r2)) (m:=(Int.toNat z3)) (by omega) (fun _=>rfl)) (fun l0 _=> ?_)
  refine au (.hc hR ?_)
  rintro r3 q rfl
  refine au ?_
  first|refine Sim.ite Iff.rfl (fun _=> ?_) (fun _=>Sim.no)|refine Sim.guard (fun _=> ?_)
  refine au ?_
  refine Sim.opt (Gp (u:=(fun _=>(Gr.no,r3))) (m:=(Int.toNat z3)) (by omega) (fun _=>rfl)) (fun l2 _=> ?_)
  exact fin
 ·exact fin
def I3 (L0:Ad)(i0:Int):Option Ah:=
 (idx? L0.f_rows i0).bind fun z0=>
 (Bl L0).bind fun r0=>
 (idx? z0 r0).bind fun z2=>
 if 0≤L0.Script.Conf.N∧L0.Script.Conf.N≤Ar then
  if 0≤L0.Script.Conf.N∧L0.Script.Conf.N≤Ar then
   (M0 i0 L0 L0.f_honest (List.length L0.f_honest:Int) z2.Number z2.Members (Int.toNat L0.Script.Conf.N) (Int.toNat L0.Script.Conf.N) z2 (Ah.mk 0 ([]:List UInt8) ([]:List (List UInt8)) ([]:List (List Ag))) 0 (List.replicate (Int.toNat L0.Script.Conf.N) (Gr.full,([]:List Ag))) (List.replicate (Int.toNat L0.Script.Conf.N) ([]:List UInt8))).bind fun r4=>
   (sub? r4.2 0 (Int.toNat L0.Script.Conf.N)).bind fun l3=>
   (sub? r4.1 0 (Int.toNat L0.Script.Conf.N)).bind fun l4=>
   some (Ah.mk z2.Number z2.Members l3 (List.map Prod.snd l4))
  else none
 else none
instance wI (L0:Ad)(i0:Int):HE Ah.av (I3 L0 i0) 61 [Ad.av L0,iav i0]:=⟨by
 unfold I3
 refine sv fun S hS hw hw8 R hR=> ?_
 refine au ?_
 refine Sim.ix (by simp) (fun z0 hz0=> ?_)
 refine au ?_
 refine Sim.go (Bw _ hz0) ?_
 refine au (.hc hR ?_)
 rintro r0 q rfl
 refine au ?_
 refine Sim.ix (by simp) (fun z2 hz2=> ?_)
 refine au ?_
 refine Sim.go (Bw _ hz2) ?_
 refine au ?_
 first|refine Sim.ite Iff.rfl (fun _=> ?_) (fun _=>Sim.no)|refine Sim.guard (fun _=> ?_)
 refine au ?_
 refine Sim.kl hS (Ye (f:=sav) ([]:List UInt8) _ rfl _) ?_
 refine au ?_
 first|refine Sim.ite Iff.rfl (fun _=> ?_) (fun _=>Sim.no)|refine Sim.guard (fun _=> ?_)
 refine au ?_
 refine Sim.kl hS (Ye (f:=(glv Ag.av)) (Gr.full,([]:List Ag)) _ rfl _) ?_
 refine au ?_
 refine Sim.ki hS (m:=(List.length L0.f_honest:Int)) (by simp) ?_
 refine au ?_
 refine Sim.hl hR kp pz ?_
 rintro r4 q ⟨g3,g4,rfl,hg3,hg4⟩
 refine au ?_
 refine Sim.opt (cV (f:=sav) (b:=0) (fun _=>⟨rfl,rfl⟩) (by omega)) (fun l3 _=> ?_)
 refine au ?_
 refine Sim.opt (zR Prod.snd (g:=(lav Ag.av)) (b:=0) (fun _=>⟨rfl,rfl⟩) (by omega)) (fun l4 _=> ?_)
 exact fin⟩
def Cm (r4:Ad)(x0:List Int)(x2:Int)(out:List Ah)(x3:Int):Option (((List Ah)×Int)⊕((List Ah))):=
 if x3<x2 then
  (idx? x0 x3).bind fun z0=>
  (I3 r4 z0).bind fun r5=>
  if List.length out+List.length [r5]≤Ar then
   some (.inl ((out++[r5]),(wr (x3+1))))
  else none
 else
  some (.inr out)
def Ma (r4:Ad)(x0:List Int)(x2:Int)(out:List Ah)(x3:Int):Option ((List Ah)):=
 Ai (fun s:(List Ah)×Int=>Cm r4 x0 x2 s.1 s.2) (out,x3)
def Nw (r4:Ad)(x0:List Int)(x2:Int)(v:(List Ah)×Int)(e:PF.St):Prop:= ∃g0,e=⟨[(1,.ept (Ad.cells r4) 0),(3,.lst g0 (List.map Ah.av v.1)),(15,lav iav x0),(16,iav x2),(17,iav v.2)],[]⟩∧Mg 4 g0
instance qL (r4:Ad)(x0:List Int)(x2:Int)(out:List Ah)(x3:Int):HL (Ma r4 x0 x2 out x3) LM ([1,3,15,16,17],[],[3],Arb) (Nw r4 x0 x2 (out,x3)) (fun r (q:Ex×PF.St)=> ∃g0',q=((.exit 0),⟨[(3,.lst g0' (List.map Ah.av r))],[]⟩)∧Mg 4 g0'):=by
 refine lv (Nw r4 x0 x2) _ fun S hS hw hw8 R hR=> ?_
 rintro⟨out,x3⟩ env hp ⟨g0,he,hg0⟩
 cases he
 show Sim (Cm r4 x0 x2 out x3) _ _
 unfold Cm
 simp only[hw]
 refine au (.ite Iff.rfl (fun hc=> ?_) fun hc=> ?_)
 ·refine au ?_
  refine Sim.ix (by simp) (fun z0 hz0=> ?_)
  refine au ?_
  refine Sim.go (Bw _ hz0) ?_
  refine au (.hc hR ?_)
  rintro r5 q rfl
  refine au ?_
  refine Sim.kl hS (ys:=List.map Ah.av [r5]) rfl ?_
  refine au ?_
  first|(refine Sim.goB (Cj (by intro _;rfl) hg0 _) ?_)|skip
  refine au ?_
  first|(refine Sim.goB (Ca (by intro _;exact⟨rfl,rfl,rfl⟩) _) ?_)|skip
  refine au ?_
  first|refine Sim.ite (by simp) (fun _=> ?_) (fun _=>Sim.no)|refine Sim.guard (fun _=> ?_)
  exact fin
 ·exact fin
def Hr (r0:Ad):Option ((List Ah)):=
 (Bl r0).bind fun r2=>
 (Lb r0.Script.Conf r0.f_rows r2 r0.f_all).bind fun r3=>
 (Ma r0 r3 (List.length r3:Int) ([]:List Ah) 0).bind fun r6=>
 some r6
instance tG (r0:Ad):HE (lav Ah.av) (Hr r0) 27 [Ad.av r0]:=⟨by unfold Hr;exact sa⟩
def Mx (s0:Aa):Option Int:=
 (G2 s0).bind fun r0=>
 if r0≠0 then
  some (-1)
 else
  (Ec (An.mk s0)).bind fun r2=>
  some r2
instance Abt (s0:Aa):HE iav (Mx s0) 28 [Aa.av s0]:=⟨by unfold Mx;exact sa⟩
def I7 (s0:Aa):Option Int:=
 (G2 s0).bind fun r0=>
 if r0≠0 then
  some 0
 else
  (Ec (An.mk s0)).bind fun r2=>
  (Kx s0.Conf).bind fun r3=>
  some (wr (r2+r3))
instance wB (s0:Aa):HE iav (I7 s0) 29 [Aa.av s0]:=⟨by unfold I7;exact sa⟩
def Eg (rows2:List (List Ac))(nodes2:List Int)(t2:Int)(x0:List Int)(x2 x3:Int):Option ((Int)⊕((Bool)⊕(Unit))):=
 if x3<x2 then
  (idx? x0 x3).bind fun z0=>
  (Dc rows2 t2 z0).bind fun r0=>
  (idx? nodes2 0).bind fun z2=>
  (Dc rows2 t2 z2).bind fun r2=>
  if(r0.Pulse !=r2.Pulse)=true then
   some (.inr (.inl false))
  else
   some (.inl (wr (x3+1)))
 else
  some (.inr (.inr ()))
def Qa (rows2:List (List Ac))(nodes2:List Int)(t2:Int)(x0:List Int)(x2 x3:Int):Option ((Bool)⊕(Unit)):=
 Ai (fun s:Int=>Eg rows2 nodes2 t2 x0 x2 s) x3
def Zh (rows2:List (List Ac))(nodes2:List Int)(t2:Int)(x0:List Int)(x2 v:Int)(e:PF.St):Prop:=e=⟨[(0,lav (lav Ac.av) rows2),(1,lav iav nodes2),(2,iav t2),(9,lav iav x0),(10,iav x2),(11,iav v)],[]⟩
instance wE (rows2:List (List Ac))(nodes2:List Int)(t2:Int)(x0:List Int)(x2 x3:Int):HL (Qa rows2 nodes2 t2 x0 x2 x3) LM ([0,1,2,9,10,11],[],[6],Agj) (Zh rows2 nodes2 t2 x0 x2 x3) (rS (rE fun r=>(Ex.ret,⟨[(6,.bool r)],[]⟩)) (rE fun r=>((.exit 0),⟨[(6,.undef)],[]⟩))):=by unfold Qa Eg;exact lf
def Ov (rows:List (List Ac))(nodes:List Int)(t0:Int):Option Bool:=
 (Qa rows nodes t0 nodes (List.length nodes:Int) 0).bind fun r3=>
 Sum.elim
  (fun r4=>
    some r4)
  (fun r5=>
    some true)
  r3
instance Abd (rows:List (List Ac))(nodes:List Int)(t0:Int):HE bav (Ov rows nodes t0) 126 [lav (lav Ac.av) rows,lav iav nodes,iav t0]:=⟨by unfold Ov;exact sa⟩
def Ei (rows2:List (List Ac))(nodes2:List Int)(t0:Int):Option ((Int)⊕((Bool)⊕(Unit))):=
 if t0<(List.length rows2:Int)then
  (Ov rows2 nodes2 t0).bind fun r0=>
  if(!r0)=true then
   some (.inr (.inl false))
  else
   some (.inl (wr (t0+1)))
 else
  some (.inr (.inr ()))
def Lx (rows2:List (List Ac))(nodes2:List Int)(t0:Int):Option ((Bool)⊕(Unit)):=
 Ai (fun s:Int=>Ei rows2 nodes2 s) t0
def Zc (rows2:List (List Ac))(nodes2:List Int)(v:Int)(e:PF.St):Prop:=e=⟨[(0,lav (lav Ac.av) rows2),(1,lav iav nodes2),(7,iav v)],[]⟩
instance wD (rows2:List (List Ac))(nodes2:List Int)(t0:Int):HL (Lx rows2 nodes2 t0) LM ([0,1,7],[],[6],Ar7) (Zc rows2 nodes2 t0) (rS (rE fun r=>(Ex.ret,⟨[(6,.bool r)],[]⟩)) (rE fun r=>((.exit 0),⟨[(6,.undef)],[]⟩))):=by unfold Lx Ei;exact lf
def K9 (rows:List (List Ac))(nodes:List Int)(from0:Int):Option Bool:=
 (Lx rows nodes from0).bind fun r2=>
 Sum.elim
  (fun r3=>
    some r3)
  (fun r4=>
    some true)
  r2
instance Aa4 (rows:List (List Ac))(nodes:List Int)(from0:Int):HE bav (K9 rows nodes from0) 67 [lav (lav Ac.av) rows,lav iav nodes,iav from0]:=⟨by unfold K9;exact sa⟩
def Gh (rows2:List (List Ac))(node2 least quiet last run t0:Int):Option ((Int×Int×Int×Int×Int)⊕(Int×Int)):=
 if t0<(List.length rows2:Int)then
  (Dc rows2 t0 node2).bind fun r0=>
  if(!r0.Pulse)=true then
   some (.inl (least,(max quiet (wr (run+1))),last,(wr (run+1)),(wr (t0+1))))
  else
   if last≠(-1)then
    some (.inl ((min least (wr (t0-last))),quiet,t0,0,(wr (t0+1))))
   else
    some (.inl (least,quiet,t0,0,(wr (t0+1))))
 else
  some (.inr (least,quiet))
def Ot (rows2:List (List Ac))(node2 least quiet last run t0:Int):Option (Int×Int):=
 Ai (fun s:Int×Int×Int×Int×Int=>Gh rows2 node2 s.1 s.2.1 s.2.2.1 s.2.2.2.1 s.2.2.2.2) (least,quiet,last,run,t0)
def bN (rows2:List (List Ac))(node2:Int)(v:Int×Int×Int×Int×Int)(e:PF.St):Prop:=e=⟨[(0,lav (lav Ac.av) rows2),(1,iav node2),(6,iav v.1),(7,iav v.2.1),(8,iav v.2.2.1),(9,iav v.2.2.2.1),(10,iav v.2.2.2.2)],[]⟩
instance zV (rows2:List (List Ac))(node2 least quiet last run t0:Int):HL (Ot rows2 node2 least quiet last run t0) LM ([0,1,6,7,8,9,10],[],[6,7],Arc) (bN rows2 node2 (least,quiet,last,run,t0)) (rE fun r=>((.exit 0),⟨[(6,iav r.1),(7,iav r.2)],[]⟩)):=by unfold Ot Gh;exact lf
def Sl (rows:List (List Ac))(node from0:Int):Option (Int×Int):=
 (Ot rows node (wr ((List.length rows:Int)+400)) 0 (-1) 0 from0).bind fun r2=>
 some (r2.1,r2.2)
instance Afm (rows:List (List Ac))(node from0:Int):HS (Sl rows node from0) (LM.call 68 [lav (lav Ac.av) rows,iav node,iav from0] []) fun r q=>q=(.tup [iav r.1,iav r.2],[]):=⟨by unfold Sl;exact sa⟩
def J0 (c0:Ab)(rows:List (List Ac))(nodes:List Int)(from0:Int):Option Int:=
 (Bs c0).bind fun r0=>
 if r0≠0 then
  some r0
 else
  if(List.length nodes:Int)=0 then
   some 0
  else
   (K9 rows nodes (max from0 0)).bind fun r2=>
   if(!r2)=true then
    some 7
   else
    (idx? nodes 0).bind fun z0=>
    (Sl rows z0 (max from0 0)).bind fun r3=>
    if r3.1<c0.Period then
     some 13
    else
     if c0.Period≤r3.2 then
      some 10
     else
      some 0
instance yA (c0:Ab)(rows:List (List Ac))(nodes:List Int)(from0:Int):HE iav (J0 c0 rows nodes from0) 31 [Ab.av c0,lav (lav Ac.av) rows,lav iav nodes,iav from0]:=⟨by unfold J0;exact sa⟩
def Im (x0:Int)(x2:Ac):Option Bool:=
 some (!x2.Sync)
instance oP (x0:Int)(x2:Ac):HE bav (Im x0 x2) 70 [iav x0,Ac.av x2]:=⟨by unfold Im;exact sa⟩
def pJ (b0:Int):Option Int:=
 if b0=49 then
  some 1
 else
  some 0
instance Ar1 (b0:Int):HE iav (pJ b0) 197 [Qp b0]:=⟨by unfold pJ;exact sa⟩
def Ng (bits2:List UInt8)(x0 n0 x2:Int):Option ((Int×Int)⊕Int):=
 if x2<x0 then
  (idx? bits2 x2).bind fun b0=>
  (pJ (UInt8.toNat b0:Int)).bind fun r0=>
  if x2<0 then none else
  some (.inl ((orI .i64 n0 (Auu .i64 r0 x2)),(wr (x2+1))))
 else
  some (.inr n0)
def aW (bits2:List UInt8)(x0 n0 x2:Int):Option Int:=
 Ai (fun s:Int×Int=>Ng bits2 x0 s.1 s.2) (n0,x2)
def T0 (bits2:List UInt8)(x0:Int)(v:Int×Int)(e:PF.St):Prop:=e=⟨[(0,.str bits2),(3,iav v.1),(7,iav x0),(8,iav v.2)],[]⟩
instance Ab4 (bits2:List UInt8)(x0 n0 x2:Int):HL (aW bits2 x0 n0 x2) LM ([0,3,7,8],[],[3],Ahb) (T0 bits2 x0 (n0,x2)) (rE fun r=>((.exit 0),⟨[(3,iav r)],[]⟩)):=by
 refine lv (T0 bits2 x0) _ fun S hS hw hw8 R hR=> ?_
 rintro⟨n0,x2⟩ env hp he
 cases he
 show Sim (Ng bits2 x0 n0 x2) _ _
 unfold Ng
 simp only[hw]
 refine au (.ite Iff.rfl (fun hc=> ?_) fun hc=> ?_)
 ·refine au ?_
  refine Sim.ix rfl (fun b0 hb0=> ?_)
  refine au ?_
  refine Sim.go hb0 ?_
  exact fin
 ·exact fin
def Zu (bits:List UInt8):Option Int:=
 (aW bits (min (List.length bits:Int) 8) 0 0).bind fun r2=>
 some r2
instance Ajm (bits:List UInt8):HE iav (Zu bits) 127 [.str bits]:=⟨by unfold Zu;exact sa⟩
def Lq (c0:Ab):Option Ab:=
 some c0
instance Aah (c0:Ab):HS (Lq c0) (LM.call 128 [Ab.av c0] []) fun r q=>q=(.fn 198 [.ptr 0 0],[⟨true,Ab.cells r⟩]):=⟨by unfold Lq;exact sa⟩
def I1 (n0:Int)(o0:Ab):Option (Int×Ab):=
 (Jp n0 o0.Mod).bind fun r0=>
 (Jp (wr (r0+1)) o0.Mod).bind fun r2=>
 some (r2,o0)
instance wK (n0:Int)(o0:Ab):HS (I1 n0 o0) (LM.call 198 [iav n0,.ptr 0 0] [⟨true,Ab.cells o0⟩]) fun r q=>q=(iav r.1,[⟨true,Ab.cells r.2⟩]):=⟨by unfold I1;exact sa⟩
def Pq (c0:Ab)(own:Int)(agreed:List UInt8):Option Int:=
 (Bs c0).bind fun r0=>
 if r0≠0 then
  some 0
 else
  if agreed≠([]:List UInt8)then
   (Zu agreed).bind fun r2=>
   (Lq c0).bind fun r3=>
   (I1 r2 r3).bind fun r4=>
   some r4.1
  else
   (Lq c0).bind fun r5=>
   (I1 own r5).bind fun r6=>
   some r6.1
instance Af2 (c0:Ab)(own:Int)(agreed:List UInt8):HE iav (Pq c0 own agreed) 72 [Ab.av c0,iav own,.str agreed]:=⟨by unfold Pq;exact sa⟩
def Eh (t2:Int)(r2:Ad)(x0:List Int)(x2 x3:Int):Option ((Int)⊕((Bool)⊕(Unit))):=
 if x3<x2 then
  (idx? x0 x3).bind fun z0=>
  (idx? r2.f_rows t2).bind fun z2=>
  (idx? z2 z0).bind fun z3=>
  (Im z0 z3).bind fun r3=>
  if r3=true then
   some (.inr (.inl true))
  else
   some (.inl (wr (x3+1)))
 else
  some (.inr (.inr ()))
def Ls (t2:Int)(r2:Ad)(x0:List Int)(x2 x3:Int):Option ((Bool)⊕(Unit)):=
 Ai (fun s:Int=>Eh t2 r2 x0 x2 s) x3
def Ze (t2:Int)(r2:Ad)(x0:List Int)(x2 v:Int)(e:PF.St):Prop:=e=⟨[(1,iav t2),(2,.fn 70 []),(3,.ept (Ad.cells r2) 0),(10,lav iav x0),(11,iav x2),(12,iav v)],[]⟩
instance wM (t2:Int)(r2:Ad)(x0:List Int)(x2 x3:Int):HL (Ls t2 r2 x0 x2 x3) LM ([1,2,3,10,11,12],[],[6],nJ) (Ze t2 r2 x0 x2 x3) (rS (rE fun r=>(Ex.ret,⟨[(6,.bool r)],[]⟩)) (rE fun r=>((.exit 0),⟨[(6,.undef)],[]⟩))):=by unfold Ls Eh;exact lf
def Lg (r0:Ad)(t0:Int):Option Bool:=
 (Ls t0 r0 r0.f_honest (List.length r0.f_honest:Int) 0).bind fun r4=>
 Sum.elim
  (fun r5=>
    some r5)
  (fun r6=>
    some false)
  r4
instance Aad (r0:Ad)(t0:Int):HE bav (Lg r0 t0) 69 [Ad.av r0,iav t0,.fn 70 []]:=⟨by unfold Lg;exact sa⟩
def Ie (x0:Int)(x2 o0:Ac):Option (Bool×Ac):=
 some ((decide (x2.Number≠o0.Number)),o0)
instance oM (x0:Int)(x2 o0:Ac):HS (Ie x0 x2 o0) (LM.call 71 [iav x0,Ac.av x2,.ptr 0 0] [⟨true,Ac.cells o0⟩]) fun r q=>q=(.bool r.1,[⟨true,Ac.cells r.2⟩]):=⟨by unfold Ie;exact sa⟩
def Df (t2:Int)(r2:Ad)(x0:List Int)(x2 x3:Int)(o2:Ac):Option ((Int×Ac)⊕((Bool×Ac)⊕(Ac))):=
 if x3<x2 then
  (idx? x0 x3).bind fun z0=>
  (idx? r2.f_rows t2).bind fun z2=>
  (idx? z2 z0).bind fun z3=>
  (Ie z0 z3 o2).bind fun r3=>
  if r3.1=true then
   some (.inr (.inl (true,r3.2)))
  else
   some (.inl ((wr (x3+1)),r3.2))
 else
  some (.inr (.inr o2))
def L5 (t2:Int)(r2:Ad)(x0:List Int)(x2 x3:Int)(o2:Ac):Option ((Bool×Ac)⊕(Ac)):=
 Ai (fun s:Int×Ac=>Df t2 r2 x0 x2 s.1 s.2) (x3,o2)
def V9 (t2:Int)(r2:Ad)(x0:List Int)(x2:Int)(v:Int×Ac)(e:PF.St):Prop:=e=⟨[(1,iav t2),(2,.fn 71 [.ptr 0 0]),(3,.ept (Ad.cells r2) 0),(10,lav iav x0),(11,iav x2),(12,iav v.1)],[(0,⟨true,Ac.cells v.2⟩)]⟩
instance qH (t2:Int)(r2:Ad)(x0:List Int)(x2 x3:Int)(o2:Ac):HL (L5 t2 r2 x0 x2 x3 o2) LM ([1,2,3,10,11,12],[],[6],nJ) (V9 t2 r2 x0 x2 (x3,o2)) (rS (rE fun r=>(Ex.ret,⟨[(6,.bool r.1)],[(0,⟨true,Ac.cells r.2⟩)]⟩)) (rE fun r=>((.exit 0),⟨[(6,.undef)],[(0,⟨true,Ac.cells r⟩)]⟩))):=by unfold L5 Df;exact lf
def Ks (r0:Ad)(t0:Int)(o0:Ac):Option (Bool×Ac):=
 (L5 t0 r0 r0.f_honest (List.length r0.f_honest:Int) 0 o0).bind fun r4=>
 Sum.elim
  (fun r5=>
    some (r5.1,r5.2))
  (fun r6=>
    some (false,r6))
  r4
instance uA (r0:Ad)(t0:Int)(o0:Ac):HS (Ks r0 t0 o0) (LM.call 69 [Ad.av r0,iav t0,.fn 71 [.ptr 0 0]] [⟨true,Ac.cells o0⟩]) fun r q=>q=(.bool r.1,[⟨true,Ac.cells r.2⟩]):=⟨by unfold Ks;exact sa⟩
def H4 (r0:Ad)(t0:Int):Option Int:=
 (idx? r0.f_rows t0).bind fun z0=>
 (Bl r0).bind fun r2=>
 (idx? z0 r2).bind fun z2=>
 (Lg r0 t0).bind fun r3=>
 if r3=true then
  some 14
 else
  (Ks r0 t0 z2).bind fun r4=>
  if r4.1=true then
   some 7
  else
   if t0=r0.f_all then
    some 0
   else
    (idx? r0.f_rows (wr (t0-1))).bind fun z3=>
    (Bl r0).bind fun r5=>
    (idx? z3 r5).bind fun z4=>
    if r4.2.Pulse=true then
     (Pq r0.Script.Conf z4.Number ([]:List UInt8)).bind fun r6=>
     if r4.2.Number≠r6 then
      some 16
     else
      some 0
    else
     if r4.2.Number≠z4.Number then
      some 16
     else
      some 0
instance rY (r0:Ad)(t0:Int):HE iav (H4 r0 t0) 33 [Ad.av r0,iav t0]:=⟨by unfold H4;exact sa⟩
def D0 (rows2:List (List Ac))(node2 t2 ago:Int):Option ((Int)⊕Int):=
 if 0≤(wr (t2-ago))then
  (Dc rows2 (wr (t2-ago)) node2).bind fun r0=>
  if r0.Pulse=true then
   some (.inr ago)
  else
   some (.inl (wr (ago+1)))
 else
  some (.inr ago)
def Nn (rows2:List (List Ac))(node2 t2 ago:Int):Option Int:=
 Ai (fun s:Int=>D0 rows2 node2 t2 s) ago
def Zy (rows2:List (List Ac))(node2 t2 v:Int)(e:PF.St):Prop:=e=⟨[(0,lav (lav Ac.av) rows2),(1,iav node2),(2,iav t2),(7,iav v)],[]⟩
instance xM (rows2:List (List Ac))(node2 t2 ago:Int):HL (Nn rows2 node2 t2 ago) LM ([0,1,2,7],[],[2,7],As8) (Zy rows2 node2 t2 ago) (rE fun r=>((.exit 0),⟨[(2,iav t2),(7,iav r)],[]⟩)):=by unfold Nn D0;exact lf
def Nq (rows:List (List Ac))(node t0:Int):Option Int:=
 if(List.length rows:Int)≤t0 then
  some (-1)
 else
  (Nn rows node t0 0).bind fun r2=>
  if(wr (t0-r2))<0 then
   some (-1)
  else
   some r2
instance Aet (rows:List (List Ac))(node t0:Int):HE iav (Nq rows node t0) 73 [lav (lav Ac.av) rows,iav node,iav t0]:=⟨by unfold Nq;exact sa⟩
def Mh (ticks:Int):Option Bool:=
 if 0≤ticks then
  some (decide (ticks≤2000))
 else
  some false
instance Af8 (ticks:Int):HE bav (Mh ticks) 129 [iav ticks]:=⟨by unfold Mh;exact sa⟩
def Lt (p0:Ax)(slot:Int):Option Bool:=
 if 0≤slot then
  some (decide (slot<(List.length p0.Conf.Table:Int)))
 else
  some false
instance wJ (p0:Ax)(slot:Int):HE bav (Lt p0 slot) 237 [Ax.av p0,iav slot]:=⟨by unfold Lt;exact sa⟩
def Ps (c0:Ab)(slot:Int):Option Int:=
 (Lk c0).bind fun r0=>
 if(!r0.2)=true then
  some 0
 else
  (Lt r0.1 slot).bind fun r2=>
  if(!r2)=true then
   some 0
  else
   (Dw r0.1 slot).bind fun r3=>
   some r3
instance Ae9 (c0:Ab)(slot:Int):HE iav (Ps c0 slot) 200 [Ab.av c0,iav slot]:=⟨by unfold Ps;exact sa⟩
def D1 (c2:Ab)(x0:Int)(out:List Int)(x2:Int):Option (((List Int)×Int)⊕((List Int))):=
 if x2<x0 then
  (Ps c2 x2).bind fun r0=>
  if List.length out+List.length [r0]≤Ar then
   some (.inl ((out++[r0]),(wr (x2+1))))
  else none
 else
  some (.inr out)
def Rq (c2:Ab)(x0:Int)(out:List Int)(x2:Int):Option ((List Int)):=
 Ai (fun s:(List Int)×Int=>D1 c2 x0 s.1 s.2) (out,x2)
def Rz (c2:Ab)(x0:Int)(v:(List Int)×Int)(e:PF.St):Prop:= ∃g0,e=⟨[(1,.ept (Ab.cells c2) 0),(3,.lst g0 (List.map iav v.1)),(7,iav x0),(8,iav v.2)],[]⟩∧Mg 1 g0
instance wQ (c2:Ab)(x0:Int)(out:List Int)(x2:Int):HL (Rq c2 x0 out x2) LM ([1,3,7,8],[],[1,3],Amk) (Rz c2 x0 (out,x2)) (fun r (q:Ex×PF.St)=> ∃g0',q=((.exit 0),⟨[(1,.ept (Ab.cells c2) 0),(3,.lst g0' (List.map iav r))],[]⟩)∧Mg 1 g0'):=by
 refine lv (Rz c2 x0) _ fun S hS hw hw8 R hR=> ?_
 rintro⟨out,x2⟩ env hp ⟨g0,he,hg0⟩
 cases he
 show Sim (D1 c2 x0 out x2) _ _
 unfold D1
 simp only[hw]
 refine au (.ite Iff.rfl (fun hc=> ?_) fun hc=> ?_)
 ·refine au (.hc hR ?_)
  rintro r0 q rfl
  refine au ?_
  refine Sim.kl hS (ys:=List.map iav [r0]) rfl ?_
  refine au ?_
  first|(refine Sim.goB (Cj (by intro _;rfl) hg0 _) ?_)|skip
  refine au ?_
  first|(refine Sim.goB (Ca (by intro _;exact⟨rfl,rfl,rfl⟩) _) ?_)|skip
  refine au ?_
  first|refine Sim.ite (by simp) (fun _=> ?_) (fun _=>Sim.no)|refine Sim.guard (fun _=> ?_)
  exact fin
 ·exact fin
def Nc (c0:Ab):Option ((List Int)):=
 (Rq c0 (List.length c0.Table:Int) ([]:List Int) 0).bind fun r2=>
 if List.length r2+List.length [(wr (c0.Offset+(wr ((List.length c0.Table:Int)*c0.Slot))))]≤Ar then
  some (r2++[(wr (c0.Offset+(wr ((List.length c0.Table:Int)*c0.Slot))))])
 else none
instance Ab5 (c0:Ab):HE (lav iav) (Nc c0) 131 [Ab.av c0]:=⟨by
 unfold Nc
 refine sv fun S hS hw hw8 R hR=> ?_
 simp only[hw]
 refine au ?_
 refine Sim.ki hS (m:=(List.length c0.Table:Int)) (by simp) ?_
 refine au ?_
 refine Sim.hl hR kp pz ?_
 rintro r2 q ⟨g2,rfl,hg2⟩
 refine au ?_
 refine Sim.ki hS (m:=(List.length c0.Table:Int)) (by simp) ?_
 refine au ?_
 refine Sim.kl hS (ys:=List.map iav [(S.wr (c0.Offset+(S.wr ((List.length c0.Table:Int)*c0.Slot))))]) rfl ?_
 refine au ?_
 first|(refine Sim.goB (Cj (by intro _;rfl) hg2 _) ?_)|skip
 refine au ?_
 first|(refine Sim.goB (Ca (by intro _;exact⟨rfl,rfl,rfl⟩) _) ?_)|skip
 refine au ?_
 first|refine Sim.ite (by simp) (fun _=> ?_) (fun _=>Sim.no)|refine Sim.guard (fun _=> ?_)
 exact fin⟩
def Ko (s0:Cs)(border:Int):Option Bool:=
 if border<s0.f_slowest then
  some true
 else
  some (decide (s0.f_fastest<border))
instance uI (s0:Cs)(border:Int):HE bav (Ko s0 border) 132 [Cs.av s0,iav border]:=⟨by unfold Ko;exact sa⟩
def Iy (holds2:Cs)(x0:List Int)(x2 x3:Int):Option ((Int)⊕((Bool)⊕(Unit))):=
 if x3<x2 then
  (idx? x0 x3).bind fun z0=>
  (Ko holds2 z0).bind fun r0=>
  if(!r0)=true then
   some (.inr (.inl false))
  else
   some (.inl (wr (x3+1)))
 else
  some (.inr (.inr ()))
def Vb (holds2:Cs)(x0:List Int)(x2 x3:Int):Option ((Bool)⊕(Unit)):=
 Ai (fun s:Int=>Iy holds2 x0 x2 s) x3
def jB (holds2:Cs)(x0:List Int)(x2 v:Int)(e:PF.St):Prop:=e=⟨[(1,.fn 132 [.tup [Cs.av holds2]]),(7,lav iav x0),(8,iav x2),(9,iav v)],[]⟩
instance Ajt (holds2:Cs)(x0:List Int)(x2 x3:Int):HL (Vb holds2 x0 x2 x3) LM ([1,7,8,9],[],[4],Ajc) (jB holds2 x0 x2 x3) (rS (rE fun r=>(Ex.ret,⟨[(4,.bool r)],[]⟩)) (rE fun r=>((.exit 0),⟨[(4,.undef)],[]⟩))):=by unfold Vb Iy;exact lf
def bL (l0:List Int)(holds:Cs):Option Bool:=
 (Vb holds l0 (List.length l0:Int) 0).bind fun r2=>
 Sum.elim
  (fun r3=>
    some r3)
  (fun r4=>
    some true)
  r2
instance Aqi (l0:List Int)(holds:Cs):HE bav (bL l0 holds) 130 [lav iav l0,.fn 132 [.tup [Cs.av holds]]]:=⟨by unfold bL;exact sa⟩
def Rl (c0:Ab)(ticks:Int):Option Bool:=
 (Mh ticks).bind fun r0=>
 if(!r0)=true then
  some false
 else
  (Bs c0).bind fun r2=>
  if r2≠0 then
   some false
  else
   (Nc c0).bind fun r3=>
   (bL r3 (Cs.mk (wr (ticks*(wr (c0.Rate-c0.Drift)))) (wr (ticks*(wr (c0.Rate+c0.Drift)))))).bind fun r4=>
   some r4
instance Akx (c0:Ab)(ticks:Int):HE bav (Rl c0 ticks) 74 [Ab.av c0,iav ticks]:=⟨by unfold Rl;exact sa⟩
def Ve (c0:Ab)(elapsed:Int):Option Int:=
 (Bs c0).bind fun r0=>
 if r0≠0 then
  some (-1)
 else
  if elapsed<c0.Offset then
   some (-1)
  else
   if c0.Slot=0 then none else
   if(List.length c0.Table:Int)≤(wr (Int.tdiv (wr (elapsed-c0.Offset)) c0.Slot))then
    some (-1)
   else
    some (wr (Int.tdiv (wr (elapsed-c0.Offset)) c0.Slot))
instance Amh (c0:Ab)(elapsed:Int):HE iav (Ve c0 elapsed) 133 [Ab.av c0,iav elapsed]:=⟨by unfold Ve;exact sa⟩
def M4 (c0:Ab)(ticks:Int):Option Int:=
 (Mh ticks).bind fun r0=>
 if(!r0)=true then
  some (-1)
 else
  (Bs c0).bind fun r2=>
  if r2≠0 then
   some (-1)
  else
   (Ve c0 (wr (ticks*c0.Rate))).bind fun r3=>
   some r3
instance Ab0 (c0:Ab)(ticks:Int):HE iav (M4 c0 ticks) 75 [Ab.av c0,iav ticks]:=⟨by unfold M4;exact sa⟩
def Jr (x0:Int)(x2:Ac)(o0:Int):Option (Bool×Int):=
 some ((decide (x2.Slot≠o0)),o0)
instance rI (x0:Int)(x2:Ac)(o0:Int):HS (Jr x0 x2 o0) (LM.call 76 [iav x0,Ac.av x2,.ptr 0 0] [⟨true,[iav o0]⟩]) fun r q=>q=(.bool r.1,[⟨true,[iav r.2]⟩]):=⟨by unfold Jr;exact sa⟩
def Dn (t2:Int)(r2:Ad)(x0:List Int)(x2 x3 o2:Int):Option ((Int×Int)⊕((Bool×Int)⊕(Int))):=
 if x3<x2 then
  (idx? x0 x3).bind fun z0=>
  (idx? r2.f_rows t2).bind fun z2=>
  (idx? z2 z0).bind fun z3=>
  (Jr z0 z3 o2).bind fun r3=>
  if r3.1=true then
   some (.inr (.inl (true,r3.2)))
  else
   some (.inl ((wr (x3+1)),r3.2))
 else
  some (.inr (.inr o2))
def Lz (t2:Int)(r2:Ad)(x0:List Int)(x2 x3 o2:Int):Option ((Bool×Int)⊕(Int)):=
 Ai (fun s:Int×Int=>Dn t2 r2 x0 x2 s.1 s.2) (x3,o2)
def Vx (t2:Int)(r2:Ad)(x0:List Int)(x2:Int)(v:Int×Int)(e:PF.St):Prop:=e=⟨[(1,iav t2),(2,.fn 76 [.ptr 0 0]),(3,.ept (Ad.cells r2) 0),(10,lav iav x0),(11,iav x2),(12,iav v.1)],[(0,⟨true,[iav v.2]⟩)]⟩
instance oY (t2:Int)(r2:Ad)(x0:List Int)(x2 x3 o2:Int):HL (Lz t2 r2 x0 x2 x3 o2) LM ([1,2,3,10,11,12],[],[6],nJ) (Vx t2 r2 x0 x2 (x3,o2)) (rS (rE fun r=>(Ex.ret,⟨[(6,.bool r.1)],[(0,⟨true,[iav r.2]⟩)]⟩)) (rE fun r=>((.exit 0),⟨[(6,.undef)],[(0,⟨true,[iav r]⟩)]⟩))):=by unfold Lz Dn;exact lf
def Kk (r0:Ad)(t0 o0:Int):Option (Bool×Int):=
 (Lz t0 r0 r0.f_honest (List.length r0.f_honest:Int) 0 o0).bind fun r4=>
 Sum.elim
  (fun r5=>
    some (r5.1,r5.2))
  (fun r6=>
    some (false,r6))
  r4
instance tL (r0:Ad)(t0 o0:Int):HS (Kk r0 t0 o0) (LM.call 69 [Ad.av r0,iav t0,.fn 76 [.ptr 0 0]] [⟨true,[iav o0]⟩]) fun r q=>q=(.bool r.1,[⟨true,[iav r.2]⟩]):=⟨by unfold Kk;exact sa⟩
def Dy (r2:Ad)(t0:Int):Option ((Int)⊕((Int)⊕(Unit))):=
 if t0<(List.length r2.f_rows:Int)then
  (Bl r2).bind fun r3=>
  (Nq r2.f_rows r3 t0).bind fun r4=>
  if r4<0 then
   some (.inl (wr (t0+1)))
  else
   if(wr (t0-r4))<r2.f_all then
    some (.inl (wr (t0+1)))
   else
    (Rl r2.Script.Conf r4).bind fun r5=>
    if(!r5)=true then
     some (.inl (wr (t0+1)))
    else
     (M4 r2.Script.Conf r4).bind fun r6=>
     (Kk r2 t0 r6).bind fun r7=>
     if r7.1=true then
      some (.inr (.inl 11))
     else
      some (.inl (wr (t0+1)))
 else
  some (.inr (.inr ()))
def M2 (r2:Ad)(t0:Int):Option ((Int)⊕(Unit)):=
 Ai (fun s:Int=>Dy r2 s) t0
def Ws (r2:Ad)(v:Int)(e:PF.St):Prop:=e=⟨[(1,.ept (Ad.cells r2) 0),(3,iav v)],[]⟩
instance rF (r2:Ad)(t0:Int):HL (M2 r2 t0) LM ([1,3],[],[2],Arv) (Ws r2 t0) (rS (rE fun r=>(Ex.ret,⟨[(2,iav r)],[]⟩)) (rE fun r=>((.exit 0),⟨[(2,.undef)],[]⟩))):=by unfold M2 Dy;exact lf
def Ly (r0:Ad):Option Int:=
 (M2 r0 r0.f_all).bind fun r8=>
 Sum.elim
  (fun r9=>
    some r9)
  (fun r10=>
    some 0)
  r8
instance wH (r0:Ad):HE iav (Ly r0) 34 [Ad.av r0]:=⟨by unfold Ly;exact sa⟩
def Bb (m0:Af)(n0:Int):Option Bool:=
 (Au m0.f_faulty n0).bind fun r0=>
 some r0
instance Na (m0:Af)(n0:Int):HE bav (Bb m0 n0) 202 [Af.av m0,iav n0]:=⟨by unfold Bb;exact sa⟩
def Bt (m2:Af)(x0:Int)(out:List Int)(x2:Int):Option (((List Int)×Int)⊕((List Int))):=
 if x2<x0 then
  (Bb m2 x2).bind fun r0=>
  if(!r0)=true then
   if List.length out+List.length [x2]≤Ar then
    some (.inl ((out++[x2]),(wr (x2+1))))
   else none
  else
   some (.inl (out,(wr (x2+1))))
 else
  some (.inr out)
def Ig (m2:Af)(x0:Int)(out:List Int)(x2:Int):Option ((List Int)):=
 Ai (fun s:(List Int)×Int=>Bt m2 x0 s.1 s.2) (out,x2)
def J7 (m2:Af)(x0:Int)(v:(List Int)×Int)(e:PF.St):Prop:= ∃g0,e=⟨[(1,.ept (Af.cells m2) 0),(3,.lst g0 (List.map iav v.1)),(7,iav x0),(8,iav v.2)],[]⟩∧Mg 1 g0
instance iE (m2:Af)(x0:Int)(out:List Int)(x2:Int):HL (Ig m2 x0 out x2) LM ([1,3,7,8],[],[3],Ajn) (J7 m2 x0 (out,x2)) (fun r (q:Ex×PF.St)=> ∃g0',q=((.exit 0),⟨[(3,.lst g0' (List.map iav r))],[]⟩)∧Mg 1 g0'):=by
 refine lv (J7 m2 x0) _ fun S hS hw hw8 R hR=> ?_
 rintro⟨out,x2⟩ env hp ⟨g0,he,hg0⟩
 cases he
 show Sim (Bt m2 x0 out x2) _ _
 unfold Bt
 simp only[hw]
 refine au (.ite Iff.rfl (fun hc=> ?_) fun hc=> ?_)
 ·refine au (.hc hR ?_)
  rintro r0 q rfl
  refine au (.iteB (fun hc2=> ?_) fun hc2=> ?_)
  ·refine au ?_
   refine Sim.kl hS (ys:=List.map iav [x2]) rfl ?_
   refine au ?_
   first|(refine Sim.goB (Cj (by intro _;rfl) hg0 _) ?_)|skip
   refine au ?_
   first|(refine Sim.goB (Ca (by intro _;exact⟨rfl,rfl,rfl⟩) _) ?_)|skip
   refine au ?_
   first|refine Sim.ite (by simp) (fun _=> ?_) (fun _=>Sim.no)|refine Sim.guard (fun _=> ?_)
   exact fin
  ·exact fin
 ·exact fin
def De (m0:Af):Option ((List Int)):=
 (Ig m0 m0.Conf.N ([]:List Int) 0).bind fun r2=>
 some r2
instance lQ (m0:Af):HE (lav iav) (De m0) 136 [Af.av m0]:=⟨by unfold De;exact sa⟩
def D9 (m0:Af)(s0:List UInt8):Option Bool:=
 if(List.length s0:Int)=m0.Conf.N then
  (De m0).bind fun r0=>
  (J9 m0.Conf s0 r0).bind fun r2=>
  some (decide (r2=s0))
 else
  some false
instance kW (m0:Af)(s0:List UInt8):HE bav (D9 m0 s0) 134 [Af.av m0,.str s0]:=⟨by unfold D9;exact sa⟩
def Cp (m2:Af)(r2:Ah)(x0 x2:Int):Option ((Int)⊕((Bool)⊕(Unit))):=
 if x2<x0 then
  (idx? r2.Lines x2).bind fun z0=>
  if 16<(List.length z0:Int)then
   some (.inr (.inl false))
  else
   (Bb m2 x2).bind fun r3=>
   if r3=true then
    (idx? r2.Lines x2).bind fun z2=>
    if z2≠([]:List UInt8)then
     some (.inr (.inl false))
    else
     (idx? r2.Got x2).bind fun z3=>
     if 0<(List.length z3:Int)then
      some (.inr (.inl false))
     else
      some (.inl (wr (x2+1)))
   else
    some (.inl (wr (x2+1)))
 else
  some (.inr (.inr ()))
def Jf (m2:Af)(r2:Ah)(x0 x2:Int):Option ((Bool)⊕(Unit)):=
 Ai (fun s:Int=>Cp m2 r2 x0 s) x2
def Sd (m2:Af)(r2:Ah)(x0 v:Int)(e:PF.St):Prop:=e=⟨[(2,.ept (Af.cells m2) 0),(3,.ept (Ah.cells r2) 0),(24,iav x0),(25,iav v)],[]⟩
instance kX (m2:Af)(r2:Ah)(x0 x2:Int):HL (Jf m2 r2 x0 x2) LM ([2,3,24,25],[],[4],Ajg) (Sd m2 r2 x0 x2) (rS (rE fun r=>(Ex.ret,⟨[(4,.bool r)],[]⟩)) (rE fun r=>((.exit 0),⟨[(4,.undef)],[]⟩))):=by unfold Jf Cp;exact lf
def E2 (m0:Af)(r0:Ah):Option Bool:=
 if(List.length r0.Lines:Int)≠m0.Conf.N then
  some false
 else
  if(List.length r0.Got:Int)≠m0.Conf.N then
   some false
  else
   (Jf m0 r0 m0.Conf.N 0).bind fun r4=>
   Sum.elim
    (fun r5=>
      some r5)
    (fun r6=>
      some true)
    r4
instance mW (m0:Af)(r0:Ah):HE bav (E2 m0 r0) 135 [Af.av m0,Ah.av r0]:=⟨by unfold E2;exact sa⟩
def G1 (r6:Ah)(x0:List Int)(x2:Int)(m0:Af)(x3:Int):Option ((Int)⊕((Int)⊕(Unit))):=
 if x3<x2 then
  (idx? x0 x3).bind fun z0=>
  (idx? r6.Got z0).bind fun z2=>
  (Bi m0 r6 z2).bind fun r7=>
  if r7≠0 then
   some (.inr (.inl r7))
  else
   some (.inl (wr (x3+1)))
 else
  some (.inr (.inr ()))
def Uw (r6:Ah)(x0:List Int)(x2:Int)(m0:Af)(x3:Int):Option ((Int)⊕(Unit)):=
 Ai (fun s:Int=>G1 r6 x0 x2 m0 s) x3
def dL (r6:Ah)(x0:List Int)(x2:Int)(m0:Af)(v:Int)(e:PF.St):Prop:=e=⟨[(5,.ept (Ah.cells r6) 0),(8,.ptr 108 0),(41,lav iav x0),(42,iav x2),(43,iav v)],[(108,⟨true,Af.cells m0⟩)]⟩
instance Abv (r6:Ah)(x0:List Int)(x2:Int)(m0:Af)(x3:Int):HL (Uw r6 x0 x2 m0 x3) LM ([5,8,41,42,43],[108],[6],Ash) (dL r6 x0 x2 m0 x3) (rS (rE fun r=>(Ex.ret,⟨[(6,iav r)],[(108,⟨true,Af.cells m0⟩)]⟩)) (rE fun r=>((.exit 1),⟨[(6,.undef)],[(108,⟨true,Af.cells m0⟩)]⟩))):=by unfold Uw G1;exact lf
def R0 (c0:Ab)(faulty:List Int)(r0:Ah):Option Int:=
 (Bs c0).bind fun r2=>
 if r2≠0 then
  some r2
 else
  if r0.Number<0 then
   some 2
  else
   if c0.Mod≤r0.Number then
    some 2
   else
    (D9 (Af.mk c0 faulty) r0.Members).bind fun r3=>
    if(!r3)=true then
     some 7
    else
     (E2 (Af.mk c0 faulty) r0).bind fun r4=>
     if(!r4)=true then
      some 6
     else
      (De (Af.mk c0 faulty)).bind fun r5=>
      (Uw r0 r5 (List.length r5:Int) (Af.mk c0 faulty) 0).bind fun r8=>
      Sum.elim
       (fun r9=>
         some r9)
       (fun r10=>
         some 0)
       r8
instance Aig (c0:Ab)(faulty:List Int)(r0:Ah):HE iav (R0 c0 faulty r0) 77 [Ab.av c0,lav iav faulty,Ah.av r0]:=⟨by unfold R0;exact sa⟩
def Qq (c0:Ab)(from0 to0:Int):Option Int:=
 (Bs c0).bind fun r0=>
 if r0≠0 then
  some 0
 else
  (Jp to0 c0.Mod).bind fun r2=>
  (Jp from0 c0.Mod).bind fun r3=>
  (Jp (wr (r2-r3)) c0.Mod).bind fun r4=>
  some r4
instance Aes (c0:Ab)(from0 to0:Int):HE iav (Qq c0 from0 to0) 138 [Ab.av c0,iav from0,iav to0]:=⟨by unfold Qq;exact sa⟩
def Lj (c0:Ab)(a0 b0:Ah):Option Bool:=
 (Bs c0).bind fun r0=>
 if r0=0 then
  (Qq c0 a0.Number b0.Number).bind fun r2=>
  some (decide (r2=1))
 else
  some false
instance Aac (c0:Ab)(a0 b0:Ah):HE bav (Lj c0 a0 b0) 78 [Ab.av c0,Ah.av a0,Ah.av b0]:=⟨by unfold Lj;exact sa⟩
def D7 (l2:List Ah)(r2:Ad)(x0:List Ah)(x2 x3:Int):Option ((Int)⊕((Int)⊕(Unit))):=
 if x3<x2 then
  (idx? x0 x3).bind fun z0=>
  (R0 r2.Script.Conf r2.Script.Faulty z0).bind fun r3=>
  if r3≠0 then
   some (.inr (.inl r3))
  else
   if 0<x3 then
    (idx? l2 (wr (x3-1))).bind fun z2=>
    (Lj r2.Script.Conf z2 z0).bind fun r4=>
    if(!r4)=true then
     some (.inr (.inl 16))
    else
     some (.inl (wr (x3+1)))
   else
    some (.inl (wr (x3+1)))
 else
  some (.inr (.inr ()))
def Ob (l2:List Ah)(r2:Ad)(x0:List Ah)(x2 x3:Int):Option ((Int)⊕(Unit)):=
 Ai (fun s:Int=>D7 l2 r2 x0 x2 s) x3
def X9 (l2:List Ah)(r2:Ad)(x0:List Ah)(x2 v:Int)(e:PF.St):Prop:=e=⟨[(1,lav Ah.av l2),(2,.ept (Ad.cells r2) 0),(8,lav Ah.av x0),(9,iav x2),(10,iav v)],[]⟩
instance vW (l2:List Ah)(r2:Ad)(x0:List Ah)(x2 x3:Int):HL (Ob l2 r2 x0 x2 x3) LM ([1,2,8,9,10],[],[4],Asb) (X9 l2 r2 x0 x2 x3) (rS (rE fun r=>(Ex.ret,⟨[(4,iav r)],[]⟩)) (rE fun r=>((.exit 0),⟨[(4,.undef)],[]⟩))):=by unfold Ob D7;exact lf
def Nk (r0:Ad)(l0:List Ah):Option Int:=
 (Ob l0 r0 l0 (List.length l0:Int) 0).bind fun r5=>
 Sum.elim
  (fun r6=>
    some r6)
  (fun r7=>
    some 0)
  r5
instance xO (r0:Ad)(l0:List Ah):HE iav (Nk r0 l0) 35 [Ad.av r0,lav Ah.av l0]:=⟨by unfold Nk;exact sa⟩
def Jw (marks:List UInt8)(node:Int):Option Bool:=
 if 0≤node then
  if node<(List.length marks:Int)then
   (idx? marks node).bind fun b0=>
   some (decide ((UInt8.toNat b0:Int)=49))
  else
   some false
 else
  some false
instance Alf (marks:List UInt8)(node:Int):HE bav (Jw marks node) 81 [.str marks,iav node]:=⟨by
 unfold Jw
 refine sv fun S hS hw hw8 R hR=> ?_
 refine au (.ite Iff.rfl (fun hc=> ?_) fun hc=> ?_)
 ·refine au (.ite Iff.rfl (fun hc2=> ?_) fun hc2=> ?_)
  ·refine au ?_
   refine Sim.ix rfl (fun b0 hb0=> ?_)
   refine au ?_
   refine Sim.go hb0 ?_
   exact fin
  ·exact fin
 ·exact fin⟩
def Ho (x0:Int)(x2:Ac)(o0:List UInt8):Option (Bool×(List UInt8)):=
 some ((decide (x2.Members≠o0)),o0)
instance mE (x0:Int)(x2:Ac)(o0:List UInt8):HS (Ho x0 x2 o0) (LM.call 79 [iav x0,Ac.av x2,.ptr 0 0] [⟨true,[.str o0]⟩]) fun r q=>q=(.bool r.1,[⟨true,[.str r.2]⟩]):=⟨by unfold Ho;exact sa⟩
def Dh (t2:Int)(r2:Ad)(x0:List Int)(x2 x3:Int)(o2:List UInt8):Option ((Int×(List UInt8))⊕((Bool×(List UInt8))⊕((List UInt8)))):=
 if x3<x2 then
  (idx? x0 x3).bind fun z0=>
  (idx? r2.f_rows t2).bind fun z2=>
  (idx? z2 z0).bind fun z3=>
  (Ho z0 z3 o2).bind fun r3=>
  if r3.1=true then
   some (.inr (.inl (true,r3.2)))
  else
   some (.inl ((wr (x3+1)),r3.2))
 else
  some (.inr (.inr o2))
def Me (t2:Int)(r2:Ad)(x0:List Int)(x2 x3:Int)(o2:List UInt8):Option ((Bool×(List UInt8))⊕((List UInt8))):=
 Ai (fun s:Int×(List UInt8)=>Dh t2 r2 x0 x2 s.1 s.2) (x3,o2)
def Vf (t2:Int)(r2:Ad)(x0:List Int)(x2:Int)(v:Int×(List UInt8))(e:PF.St):Prop:=e=⟨[(1,iav t2),(2,.fn 79 [.ptr 0 0]),(3,.ept (Ad.cells r2) 0),(10,lav iav x0),(11,iav x2),(12,iav v.1)],[(0,⟨true,[.str v.2]⟩)]⟩
instance qW (t2:Int)(r2:Ad)(x0:List Int)(x2 x3:Int)(o2:List UInt8):HL (Me t2 r2 x0 x2 x3 o2) LM ([1,2,3,10,11,12],[],[6],nJ) (Vf t2 r2 x0 x2 (x3,o2)) (rS (rE fun r=>(Ex.ret,⟨[(6,.bool r.1)],[(0,⟨true,[.str r.2]⟩)]⟩)) (rE fun r=>((.exit 0),⟨[(6,.undef)],[(0,⟨true,[.str r]⟩)]⟩))):=by unfold Me Dh;exact lf
def K0 (r0:Ad)(t0:Int)(o0:List UInt8):Option (Bool×(List UInt8)):=
 (Me t0 r0 r0.f_honest (List.length r0.f_honest:Int) 0 o0).bind fun r4=>
 Sum.elim
  (fun r5=>
    some (r5.1,r5.2))
  (fun r6=>
    some (false,r6))
  r4
instance tY (r0:Ad)(t0:Int)(o0:List UInt8):HS (K0 r0 t0 o0) (LM.call 69 [Ad.av r0,iav t0,.fn 79 [.ptr 0 0]] [⟨true,[.str o0]⟩]) fun r q=>q=(.bool r.1,[⟨true,[.str r.2]⟩]):=⟨by unfold K0;exact sa⟩
def Hk (n0:Int)(x0:Ac)(o0:List UInt8):Option (Bool×(List UInt8)):=
 (Jw o0 n0).bind fun r0=>
 some ((!r0),o0)
instance mO (n0:Int)(x0:Ac)(o0:List UInt8):HS (Hk n0 x0 o0) (LM.call 80 [iav n0,Ac.av x0,.ptr 0 0] [⟨true,[.str o0]⟩]) fun r q=>q=(.bool r.1,[⟨true,[.str r.2]⟩]):=⟨by unfold Hk;exact sa⟩
def Dl (t2:Int)(r2:Ad)(x0:List Int)(x2 x3:Int)(o2:List UInt8):Option ((Int×(List UInt8))⊕((Bool×(List UInt8))⊕((List UInt8)))):=
 if x3<x2 then
  (idx? x0 x3).bind fun z0=>
  (idx? r2.f_rows t2).bind fun z2=>
  (idx? z2 z0).bind fun z3=>
  (Hk z0 z3 o2).bind fun r3=>
  if r3.1=true then
   some (.inr (.inl (true,r3.2)))
  else
   some (.inl ((wr (x3+1)),r3.2))
 else
  some (.inr (.inr o2))
def L4 (t2:Int)(r2:Ad)(x0:List Int)(x2 x3:Int)(o2:List UInt8):Option ((Bool×(List UInt8))⊕((List UInt8))):=
 Ai (fun s:Int×(List UInt8)=>Dl t2 r2 x0 x2 s.1 s.2) (x3,o2)
def Wb (t2:Int)(r2:Ad)(x0:List Int)(x2:Int)(v:Int×(List UInt8))(e:PF.St):Prop:=e=⟨[(1,iav t2),(2,.fn 80 [.ptr 0 0]),(3,.ept (Ad.cells r2) 0),(10,lav iav x0),(11,iav x2),(12,iav v.1)],[(0,⟨true,[.str v.2]⟩)]⟩
instance pZ (t2:Int)(r2:Ad)(x0:List Int)(x2 x3:Int)(o2:List UInt8):HL (L4 t2 r2 x0 x2 x3 o2) LM ([1,2,3,10,11,12],[],[6],nJ) (Wb t2 r2 x0 x2 (x3,o2)) (rS (rE fun r=>(Ex.ret,⟨[(6,.bool r.1)],[(0,⟨true,[.str r.2]⟩)]⟩)) (rE fun r=>((.exit 0),⟨[(6,.undef)],[(0,⟨true,[.str r]⟩)]⟩))):=by unfold L4 Dl;exact lf
def Kn (r0:Ad)(t0:Int)(o0:List UInt8):Option (Bool×(List UInt8)):=
 (L4 t0 r0 r0.f_honest (List.length r0.f_honest:Int) 0 o0).bind fun r4=>
 Sum.elim
  (fun r5=>
    some (r5.1,r5.2))
  (fun r6=>
    some (false,r6))
  r4
instance vY (r0:Ad)(t0:Int)(o0:List UInt8):HS (Kn r0 t0 o0) (LM.call 69 [Ad.av r0,iav t0,.fn 80 [.ptr 0 0]] [⟨true,[.str o0]⟩]) fun r q=>q=(.bool r.1,[⟨true,[.str r.2]⟩]):=⟨by unfold Kn;exact sa⟩
def G6 (r0:Ad)(t0:Int):Option Int:=
 (idx? r0.f_rows t0).bind fun z0=>
 (Bl r0).bind fun r2=>
 (idx? z0 r2).bind fun z2=>
 (K0 r0 t0 z2.Members).bind fun r3=>
 if r3.1=true then
  some 7
 else
  (Kn r0 t0 r3.2).bind fun r4=>
  if r4.1=true then
   some 12
  else
   some 0
instance rR (r0:Ad)(t0:Int):HE iav (G6 r0 t0) 36 [Ad.av r0,iav t0]:=⟨by unfold G6;exact sa⟩
def D8 (look2 r2:Ad)(t0:Int):Option ((Int)⊕((Int)⊕(Unit))):=
 if t0<(List.length r2.f_rows:Int)then
  (H4 look2 t0).bind fun r3=>
  if r3≠0 then
   some (.inr (.inl r3))
  else
   some (.inl (wr (t0+1)))
 else
  some (.inr (.inr ()))
def Oi (look2 r2:Ad)(t0:Int):Option ((Int)⊕(Unit)):=
 Ai (fun s:Int=>D8 look2 r2 s) t0
def X5 (look2 r2:Ad)(v:Int)(e:PF.St):Prop:=e=⟨[(1,.fn 33 [.tup [Ad.av look2]]),(2,.ept (Ad.cells r2) 0),(5,iav v)],[]⟩
instance sA (look2 r2:Ad)(t0:Int):HL (Oi look2 r2 t0) LM ([1,2,5],[],[4],Akc) (X5 look2 r2 t0) (rS (rE fun r=>(Ex.ret,⟨[(4,iav r)],[]⟩)) (rE fun r=>((.exit 0),⟨[(4,.undef)],[]⟩))):=by unfold Oi D8;exact lf
def M5 (r0 look:Ad):Option Int:=
 (Oi look r0 r0.f_all).bind fun r4=>
 Sum.elim
  (fun r5=>
    some r5)
  (fun r6=>
    some 0)
  r4
instance yU (r0 look:Ad):HE iav (M5 r0 look) 32 [Ad.av r0,.fn 33 [.tup [Ad.av look]]]:=⟨by unfold M5;exact sa⟩
def C8 (look2 r2:Ad)(t0:Int):Option ((Int)⊕((Int)⊕(Unit))):=
 if t0<(List.length r2.f_rows:Int)then
  (G6 look2 t0).bind fun r3=>
  if r3≠0 then
   some (.inr (.inl r3))
  else
   some (.inl (wr (t0+1)))
 else
  some (.inr (.inr ()))
def K4 (look2 r2:Ad)(t0:Int):Option ((Int)⊕(Unit)):=
 Ai (fun s:Int=>C8 look2 r2 s) t0
def Uo (look2 r2:Ad)(v:Int)(e:PF.St):Prop:=e=⟨[(1,.fn 36 [.tup [Ad.av look2]]),(2,.ept (Ad.cells r2) 0),(5,iav v)],[]⟩
instance nW (look2 r2:Ad)(t0:Int):HL (K4 look2 r2 t0) LM ([1,2,5],[],[4],Akc) (Uo look2 r2 t0) (rS (rE fun r=>(Ex.ret,⟨[(4,iav r)],[]⟩)) (rE fun r=>((.exit 0),⟨[(4,.undef)],[]⟩))):=by unfold K4 C8;exact lf
def Jl (r0 look:Ad):Option Int:=
 (K4 look r0 r0.f_all).bind fun r4=>
 Sum.elim
  (fun r5=>
    some r5)
  (fun r6=>
    some 0)
  r4
instance rM (r0 look:Ad):HE iav (Jl r0 look) 32 [Ad.av r0,.fn 36 [.tup [Ad.av look]]]:=⟨by unfold Jl;exact sa⟩
def Pw (L0:Aa)(i0:List (List Ac)):Option E0:=
 (Rc L0 i0).bind fun r0=>
 if r0.2≠0 then
  some (E0.mk 0 0 0 0 0 (Ar5.mk r0.2 r0.2 r0.2 r0.2 r0.2))
 else
  (Hr r0.1).bind fun r2=>
  (Mx L0).bind fun r3=>
  (I7 L0).bind fun r4=>
  (Mn L0).bind fun r5=>
  (J0 L0.Conf i0 r0.1.f_honest r4).bind fun r6=>
  (M5 r0.1 r0.1).bind fun r7=>
  (Ly r0.1).bind fun r8=>
  (Nk r0.1 r2).bind fun r9=>
  (Jl r0.1 r0.1).bind fun r10=>
  some (E0.mk (List.length i0:Int) r3 r4 r5 (List.length r2:Int) (Ar5.mk r6 r7 r8 r9 r10))
instance Af5 (L0:Aa)(i0:List (List Ac)):HE E0.av (Pw L0 i0) 9 [Aa.av L0,lav (lav Ac.av) i0]:=⟨by unfold Pw;exact sa⟩
def C4 (n0 low high:Int):Option Bool:=
 if low≤n0 then
  some (decide (n0≤high))
 else
  some false
instance Ak0 (n0 low high:Int):HE bav (C4 n0 low high) 108 [iav n0,iav low,iav high]:=⟨by unfold C4;exact sa⟩
def Hy (c2:Ab)(i0:Int):Option ((Int)⊕((Bool)⊕(Unit))):=
 if i0<(List.length c2.Table:Int)then
  (idx? c2.Table i0).bind fun z0=>
  (C4 z0 0 (wr (c2.N-1))).bind fun r0=>
  if(!r0)=true then
   some (.inr (.inl false))
  else
   some (.inl (wr (i0+1)))
 else
  some (.inr (.inr ()))
def Su (c2:Ab)(i0:Int):Option ((Bool)⊕(Unit)):=
 Ai (fun s:Int=>Hy c2 s) i0
def fD (c2:Ab)(v:Int)(e:PF.St):Prop:=e=⟨[(1,.ept (Ab.cells c2) 0),(3,iav v)],[]⟩
instance Ae5 (c2:Ab)(i0:Int):HL (Su c2 i0) LM ([1,3],[],[1,2],Aj5) (fD c2 i0) (rS (rE fun r=>(Ex.ret,⟨[(1,.ept (Ab.cells c2) 0),(2,.bool r)],[]⟩)) (rE fun r=>((.exit 0),⟨[(1,.ept (Ab.cells c2) 0),(2,.undef)],[]⟩))):=by unfold Su Hy;exact lf
def Ia (c4:Ab)(n2:Int)(has:Bool)(i2:Int):Option ((Bool×Int)⊕Bool):=
 if i2<(List.length c4.Table:Int)then
  if has=true then
   some (.inl (true,(wr (i2+1))))
  else
   (idx? c4.Table i2).bind fun z2=>
   some (.inl ((decide (z2=n2)),(wr (i2+1))))
 else
  some (.inr has)
def Sf (c4:Ab)(n2:Int)(has:Bool)(i2:Int):Option Bool:=
 Ai (fun s:Bool×Int=>Ia c4 n2 s.1 s.2) (has,i2)
def fJ (c4:Ab)(n2:Int)(v:Bool×Int)(e:PF.St):Prop:=e=⟨[(1,.ept (Ab.cells c4) 0),(4,iav n2),(5,.bool v.1),(6,iav v.2)],[]⟩
instance Af7 (c4:Ab)(n2:Int)(has:Bool)(i2:Int):HL (Sf c4 n2 has i2) LM ([1,4,5,6],[],[1,4,5],Amc) (fJ c4 n2 (has,i2)) (rE fun r=>((.exit 4),⟨[(1,.ept (Ab.cells c4) 0),(4,iav n2),(5,.bool r)],[]⟩)):=by unfold Sf Ia;exact lf
def H6 (c3:Ab)(n0:Int):Option ((Int)⊕((Bool)⊕(Unit))):=
 if n0<c3.N then
  (Sf c3 n0 false 0).bind fun r5=>
  if(!r5)=true then
   some (.inr (.inl false))
  else
   some (.inl (wr (n0+1)))
 else
  some (.inr (.inr ()))
def Sx (c3:Ab)(n0:Int):Option ((Bool)⊕(Unit)):=
 Ai (fun s:Int=>H6 c3 s) n0
def fP (c3:Ab)(v:Int)(e:PF.St):Prop:=e=⟨[(1,.ept (Ab.cells c3) 0),(4,iav v)],[]⟩
instance Ae8 (c3:Ab)(n0:Int):HL (Sx c3 n0) LM ([1,4],[],[2],Ak1) (fP c3 n0) (rS (rE fun r=>(Ex.ret,⟨[(2,.bool r)],[]⟩)) (rE fun r=>((.exit 2),⟨[(2,.undef)],[]⟩))):=by unfold Sx H6;exact lf
def Uu (c0:Ab):Option Bool:=
 (Su c0 0).bind fun r2=>
 Sum.elim
  (fun r3=>
    some r3)
  (fun r4=>
    (Sx c0 0).bind fun r6=>
    Sum.elim
     (fun r7=>
       some r7)
     (fun r8=>
       some true)
     r6)
  r2
instance Anl (c0:Ab):HE bav (Uu c0) 109 [Ab.av c0]:=⟨by unfold Uu;exact sa⟩
def Bg (L0:Ab):Option Int:=
 (C4 L0.N 4 13).bind fun r0=>
 if(!r0)=true then
  some 7
 else
  (C4 L0.F 0 4).bind fun r2=>
  if(!r2)=true then
   some 7
  else
   if L0.N≤(wr (3*L0.F))then
    some 7
   else
    (C4 L0.D 1 4).bind fun r3=>
    if(!r3)=true then
     some 10
    else
     (C4 L0.Period (wr ((wr ((wr (6*(wr (L0.F+1))))*L0.D))+1)) 400).bind fun r4=>
     if(!r4)=true then
      some 8
     else
      (C4 L0.Rate 1 64).bind fun r5=>
      if(!r5)=true then
       some 8
      else
       (C4 L0.Drift 0 (wr (L0.Rate-1))).bind fun r6=>
       if(!r6)=true then
        some 8
       else
        (C4 L0.Offset 0 30000).bind fun r7=>
        if(!r7)=true then
         some 8
        else
         (C4 L0.Slot 1 30000).bind fun r8=>
         if(!r8)=true then
          some 8
         else
          (C4 L0.Mod 2 250).bind fun r9=>
          if(!r9)=true then
           some 8
          else
           (C4 L0.Fresh 1 100).bind fun r10=>
           if(!r10)=true then
            some 8
           else
            (C4 (List.length L0.Table:Int) 1 32).bind fun r11=>
            if(!r11)=true then
             some 11
            else
             (Uu L0).bind fun r12=>
             if(!r12)=true then
              some 11
             else
              some 0
instance Anw (L0:Ab):HE iav (Bg L0) 53 [Ab.av L0]:=⟨by unfold Bg;exact sa⟩
def Hi (s0:List UInt8)(at0:Int):Option Int:=
 if(List.length s0:Int)≤at0 then
  some 0
 else
  (idx? s0 at0).bind fun b0=>
  some (wr (UInt8.toNat b0:Int))
instance Akd (s0:List UInt8)(at0:Int):HE iav (Hi s0 at0) 103 [.str s0,iav at0]:=⟨by
 unfold Hi
 refine sv fun S hS hw hw8 R hR=> ?_
 simp only[hw]
 refine au (.ite Iff.rfl (fun hc=> ?_) fun hc=> ?_)
 ·exact fin
 ·refine au ?_
  refine Sim.ix rfl (fun b0 hb0=> ?_)
  refine au ?_
  refine Sim.go hb0 ?_
  exact fin⟩
def W8 (n0:Int):Option ((List UInt8)):=
 some (Pg [(w8 n0)])
instance Apb (n0:Int):HE sav (W8 n0) 161 [iav n0]:=⟨by
 unfold W8
 refine sv fun S hS hw hw8 R hR=> ?_
 simp only[hw8]
 refine au ?_
 refine Sim.kl hS (ys:=List.map Qp [(S.w8 n0)]) rfl ?_
 refine au ?_
 first|(refine Sim.go (V1 _) ?_)|skip
 exact fin⟩
def H5 (s2:List UInt8)(at2 n2:Int)(out:List UInt8)(i0:Int):Option (((List UInt8)×Int)⊕((List UInt8))):=
 if i0<n2 then
  (Hi s2 (wr (at2+i0))).bind fun r0=>
  (W8 r0).bind fun r2=>
  if List.length out+List.length r2≤9223372036854775807 then
   some (.inl ((out++r2),(wr (i0+1))))
  else none
 else
  some (.inr out)
def Y5 (s2:List UInt8)(at2 n2:Int)(out:List UInt8)(i0:Int):Option ((List UInt8)):=
 Ai (fun s:(List UInt8)×Int=>H5 s2 at2 n2 s.1 s.2) (out,i0)
def lT (s2:List UInt8)(at2 n2:Int)(v:(List UInt8)×Int)(e:PF.St):Prop:=e=⟨[(0,.str s2),(1,iav at2),(2,iav n2),(8,.str v.1),(9,iav v.2)],[]⟩
instance Am3 (s2:List UInt8)(at2 n2:Int)(out:List UInt8)(i0:Int):HL (Y5 s2 at2 n2 out i0) LM ([0,1,2,8,9],[],[1,2,8],As3) (lT s2 at2 n2 (out,i0)) (rE fun r=>((.exit 0),⟨[(1,iav at2),(2,iav n2),(8,.str r)],[]⟩)):=by unfold Y5 H5;exact lf
def Lu (s0:List UInt8)(at0 n0:Int):Option ((List UInt8)×Int):=
 (Y5 s0 at0 n0 ([]:List UInt8) 0).bind fun r3=>
 some (r3,(wr (at0+n0)))
instance Arh (s0:List UInt8)(at0 n0:Int):HS (Lu s0 at0 n0) (LM.call 98 [.str s0,iav at0,iav n0] []) fun r q=>q=(.tup [.str r.1,iav r.2],[]):=⟨by unfold Lu;exact sa⟩
def Ee (s2:List UInt8)(at2 n0 i0:Int):Option ((Int×Int)⊕Int):=
 if 0≤i0 then
  (idx? s2 (wr (at2+i0))).bind fun b0=>
  some (.inl ((wr ((wr (256*n0))+(wr (UInt8.toNat b0:Int)))),(wr (i0-1))))
 else
  some (.inr n0)
def Y8 (s2:List UInt8)(at2 n0 i0:Int):Option Int:=
 Ai (fun s:Int×Int=>Ee s2 at2 s.1 s.2) (n0,i0)
def Zi (s2:List UInt8)(at2:Int)(v:Int×Int)(e:PF.St):Prop:=e=⟨[(0,.str s2),(1,iav at2),(8,iav v.1),(9,iav v.2)],[]⟩
instance Anx (s2:List UInt8)(at2 n0 i0:Int):HL (Y8 s2 at2 n0 i0) LM ([0,1,8,9],[],[8],Aho) (Zi s2 at2 (n0,i0)) (rE fun r=>((.exit 0),⟨[(8,iav r)],[]⟩)):=by
 refine lv (Zi s2 at2) _ fun S hS hw hw8 R hR=> ?_
 rintro⟨n0,i0⟩ env hp he
 cases he
 show Sim (Ee s2 at2 n0 i0) _ _
 unfold Ee
 simp only[hw]
 refine au (.ite Iff.rfl (fun hc6=> ?_) fun hc6=> ?_)
 ·refine au ?_
  refine Sim.ix rfl (fun b0 hb0=> ?_)
  refine au ?_
  refine Sim.go hb0 ?_
  exact fin
 ·exact fin
def U9 (s0:List UInt8)(at0 width:Int):Option (Int×Int):=
 if width<1 then
  some (0,2)
 else
  if 4<width then
   some (0,2)
  else
   if at0<0 then
    some (0,2)
   else
    if(List.length s0:Int)<at0 then
     some (0,5)
    else
     if(wr ((List.length s0:Int)-at0))<width then
      some (0,5)
     else
      (Y8 s0 at0 0 (wr (width-1))).bind fun r0=>
      some (r0,0)
instance Aso (s0:List UInt8)(at0 width:Int):HS (U9 s0 at0 width) (LM.call 160 [.str s0,iav at0,iav width] []) fun r q=>q=(.tup [iav r.1,iav r.2],[]):=⟨by unfold U9;exact sa⟩
def C7 (s0:List UInt8)(at0 width:Int):Option (Int×Int):=
 (Lu s0 at0 width).bind fun r0=>
 (U9 r0.1 0 width).bind fun r2=>
 some (r2.1,r0.2)
instance Ank (s0:List UInt8)(at0 width:Int):HS (C7 s0 at0 width) (LM.call 97 [.str s0,iav at0,iav width] []) fun r q=>q=(.tup [iav r.1,iav r.2],[]):=⟨by unfold C7;exact sa⟩
def Kf (c0:Ab):Option Int:=
 (Bg c0).bind fun r0=>
 if r0≠0 then
  some 0
 else
  some (wr ((wr (3*(wr (c0.F+1))))*c0.D))
instance Alo (c0:Ab):HE iav (Kf c0) 99 [Ab.av c0]:=⟨by unfold Kf;exact sa⟩
def Mr (s0:List UInt8)(at0 n0:Int):Option ((List UInt8)×Int):=
 (Hi s0 at0).bind fun r0=>
 if(Int.tmod r0 2)=0 then
  some (([]:List UInt8),(wr (at0+1)))
 else
  (Lu s0 (wr (at0+1)) n0).bind fun r2=>
  some (r2.1,r2.2)
instance Ae3 (s0:List UInt8)(at0 n0:Int):HS (Mr s0 at0 n0) (LM.call 100 [.str s0,iav at0,iav n0] []) fun r q=>q=(.tup [.str r.1,iav r.2],[]):=⟨by unfold Mr;exact sa⟩
def Pi (c0:Ab):Option Int:=
 (Bg c0).bind fun r0=>
 if r0≠0 then
  some 0
 else
  some (wr (8+c0.N))
instance Aou (c0:Ab):HE iav (Pi c0) 101 [Ab.av c0]:=⟨by unfold Pi;exact sa⟩
def Mi (s0:List UInt8)(at0 by0:Int):Option ((List UInt8)×Int):=
 (Hi s0 at0).bind fun r0=>
 if by0=0 then none else
 (Lu s0 (wr (at0+1)) (Int.tmod r0 by0)).bind fun r2=>
 some (r2.1,r2.2)
instance Amt (s0:List UInt8)(at0 by0:Int):HS (Mi s0 at0 by0) (LM.call 102 [.str s0,iav at0,iav by0] []) fun r q=>q=(.tup [.str r.1,iav r.2],[]):=⟨by unfold Mi;exact sa⟩
def Dk (n0 low high:Int):Option Int:=
 if n0<low then
  some low
 else
  if high<low then
   some low
  else
   some (min n0 high)
instance Ane (n0 low high:Int):HE iav (Dk n0 low high) 55 [iav n0,iav low,iav high]:=⟨by unfold Dk;exact sa⟩
def Kr (n0 by0:Int):Option Int:=
 if by0<1 then
  some 0
 else
  if by0=0 then none else
  if(Int.tmod n0 by0)<0 then
   some (wr ((Int.tmod n0 by0)+by0))
  else
   some (Int.tmod n0 by0)
instance Atq (n0 by0:Int):HE iav (Kr n0 by0) 141 [iav n0,iav by0]:=⟨by unfold Kr;exact sa⟩
def V8 (n0:Int):Option Int:=
 (Kr n0 65536).bind fun r0=>
 some r0
instance Are (n0:Int):HE iav (V8 n0) 162 [iav n0]:=⟨by unfold V8;exact sa⟩
def Ep (s2:List UInt8)(n2 last2:Int)(out:List UInt8)(i0:Int):Option (((List UInt8)×Int)⊕((List UInt8))):=
 if i0<n2 then
  if i0<(List.length s2:Int)then
   (idx? s2 i0).bind fun b0=>
   if 48≤(UInt8.toNat b0:Int)then
    (idx? s2 i0).bind fun b2=>
    if(UInt8.toNat b2:Int)≤last2 then
     if 0≤(wr (i0+1))∧(wr (i0+1))≤((List.length s2):Nat)then
      if 0≤i0∧i0≤((Int.toNat (wr (i0+1))):Nat)then
       if List.length out+List.length (List.drop (Int.toNat i0) (List.take (Int.toNat (wr (i0+1))) s2))≤9223372036854775807 then
        some (.inl ((out++(List.drop (Int.toNat i0) (List.take (Int.toNat (wr (i0+1))) s2))),(wr (i0+1))))
       else none
      else none
     else none
    else
     if List.length out+List.length ([48]:List UInt8)≤9223372036854775807 then
      some (.inl ((out++([48]:List UInt8)),(wr (i0+1))))
     else none
   else
    if List.length out+List.length ([48]:List UInt8)≤9223372036854775807 then
     some (.inl ((out++([48]:List UInt8)),(wr (i0+1))))
    else none
  else
   if List.length out+List.length ([48]:List UInt8)≤9223372036854775807 then
    some (.inl ((out++([48]:List UInt8)),(wr (i0+1))))
   else none
 else
  some (.inr out)
def V0 (s2:List UInt8)(n2 last2:Int)(out:List UInt8)(i0:Int):Option ((List UInt8)):=
 Ai (fun s:(List UInt8)×Int=>Ep s2 n2 last2 s.1 s.2) (out,i0)
def Ug (s2:List UInt8)(n2 last2:Int)(v:(List UInt8)×Int)(e:PF.St):Prop:=e=⟨[(0,.str s2),(1,iav n2),(2,Qp last2),(7,.str v.1),(8,iav v.2)],[]⟩
instance Adz (s2:List UInt8)(n2 last2:Int)(out:List UInt8)(i0:Int):HL (V0 s2 n2 last2 out i0) LM ([0,1,2,7,8],[],[7],Alm) (Ug s2 n2 last2 (out,i0)) (rE fun r=>((.exit 0),⟨[(7,.str r)],[]⟩)):=by
 refine lv (Ug s2 n2 last2) _ fun S hS hw hw8 R hR=> ?_
 rintro⟨out,i0⟩ env hp he
 cases he
 show Sim (Ep s2 n2 last2 out i0) _ _
 unfold Ep
 simp only[hw]
 refine au (.ite Iff.rfl (fun hc=> ?_) fun hc=> ?_)
 ·refine au (.ite Iff.rfl (fun hc2=> ?_) fun hc2=> ?_)
  ·refine au ?_
   refine Sim.ix rfl (fun b0 hb0=> ?_)
   refine au ?_
   refine Sim.go hb0 ?_
   refine au (.ite Iff.rfl (fun hc3=> ?_) fun hc3=> ?_)
   ·refine au ?_
    refine Sim.ix rfl (fun b2 hb2=> ?_)
    refine au ?_
    refine Sim.go hb2 ?_
    exact fin
   ·exact fin
  ·exact fin
 ·exact fin
def Og (s0:List UInt8)(n0 last:Int):Option ((List UInt8)):=
 (V0 s0 n0 last ([]:List UInt8) 0).bind fun r0=>
 some r0
instance Ait (s0:List UInt8)(n0 last:Int):HE sav (Og s0 n0 last) 163 [.str s0,iav n0,Qp last]:=⟨by unfold Og;exact sa⟩
def Yk (s0:List UInt8)(n0 last:Int):Option ((List UInt8)):=
 if(List.length s0:Int)≠n0 then
  some ([]:List UInt8)
 else
  (Og s0 n0 last).bind fun r0=>
  some r0
instance Asg (s0:List UInt8)(n0 last:Int):HE sav (Yk s0 n0 last) 164 [.str s0,iav n0,Qp last]:=⟨by unfold Yk;exact sa⟩
def Jc (l2:List Int)(n2 i0:Int):Option ((Int)⊕((Bool)⊕(Unit))):=
 if i0<(List.length l2:Int)then
  (idx? l2 i0).bind fun z0=>
  if z0=n2 then
   some (.inr (.inl true))
  else
   some (.inl (wr (i0+1)))
 else
  some (.inr (.inr ()))
def Yc (l2:List Int)(n2 i0:Int):Option ((Bool)⊕(Unit)):=
 Ai (fun s:Int=>Jc l2 n2 s) i0
def pH (l2:List Int)(n2 v:Int)(e:PF.St):Prop:=e=⟨[(0,lav iav l2),(1,iav n2),(5,iav v)],[]⟩
instance An5 (l2:List Int)(n2 i0:Int):HL (Yc l2 n2 i0) LM ([0,1,5],[],[4],Ar0) (pH l2 n2 i0) (rS (rE fun r=>(Ex.ret,⟨[(4,.bool r)],[]⟩)) (rE fun r=>((.exit 0),⟨[(4,.undef)],[]⟩))):=by unfold Yc Jc;exact lf
def Ka (l0:List Int)(n0:Int):Option Bool:=
 (Yc l0 n0 0).bind fun r0=>
 Sum.elim
  (fun r2=>
    some r2)
  (fun r3=>
    some false)
  r0
instance Au1 (l0:List Int)(n0:Int):HE bav (Ka l0 n0) 52 [lav iav l0,iav n0]:=⟨by unfold Ka;exact sa⟩
def Y7 (marks:List UInt8)(at0:Int):Option Bool:=
 if 0≤at0 then
  if at0<(List.length marks:Int)then
   (idx? marks at0).bind fun b0=>
   some (decide ((UInt8.toNat b0:Int)=49))
  else
   some false
 else
  some false
instance Aru (marks:List UInt8)(at0:Int):HE bav (Y7 marks at0) 150 [.str marks,iav at0]:=⟨by
 unfold Y7
 refine sv fun S hS hw hw8 R hR=> ?_
 refine au (.ite Iff.rfl (fun hc=> ?_) fun hc=> ?_)
 ·refine au (.ite Iff.rfl (fun hc2=> ?_) fun hc2=> ?_)
  ·refine au ?_
   refine Sim.ix rfl (fun b0 hb0=> ?_)
   refine au ?_
   refine Sim.go hb0 ?_
   exact fin
  ·exact fin
 ·exact fin⟩
def I6 (marks2:List UInt8)(n2:Int)(at2:List Int)(out:List UInt8)(i0:Int):Option (((List UInt8)×Int)⊕((List UInt8))):=
 (Dk n2 0 64).bind fun r0=>
 if i0<r0 then
  (Y7 marks2 i0).bind fun r2=>
  if r2=true then
   if List.length out+List.length ([49]:List UInt8)≤9223372036854775807 then
    some (.inl ((out++([49]:List UInt8)),(wr (i0+1))))
   else none
  else
   (Ka at2 i0).bind fun r3=>
   if r3=true then
    if List.length out+List.length ([49]:List UInt8)≤9223372036854775807 then
     some (.inl ((out++([49]:List UInt8)),(wr (i0+1))))
    else none
   else
    if List.length out+List.length ([48]:List UInt8)≤9223372036854775807 then
     some (.inl ((out++([48]:List UInt8)),(wr (i0+1))))
    else none
 else
  some (.inr out)
def Vo (marks2:List UInt8)(n2:Int)(at2:List Int)(out:List UInt8)(i0:Int):Option ((List UInt8)):=
 Ai (fun s:(List UInt8)×Int=>I6 marks2 n2 at2 s.1 s.2) (out,i0)
def gV (marks2:List UInt8)(n2:Int)(at2:List Int)(v:(List UInt8)×Int)(e:PF.St):Prop:=e=⟨[(0,.str marks2),(1,iav n2),(2,lav iav at2),(7,.str v.1),(8,iav v.2)],[]⟩
instance Aid (marks2:List UInt8)(n2:Int)(at2:List Int)(out:List UInt8)(i0:Int):HL (Vo marks2 n2 at2 out i0) LM ([0,1,2,7,8],[],[7],Ami) (gV marks2 n2 at2 (out,i0)) (rE fun r=>((.exit 0),⟨[(7,.str r)],[]⟩)):=by unfold Vo I6;exact lf
def Rr (marks:List UInt8)(n0:Int)(at0:List Int):Option ((List UInt8)):=
 (Vo marks n0 at0 ([]:List UInt8) 0).bind fun r4=>
 some r4
instance Aoh (marks:List UInt8)(n0:Int)(at0:List Int):HE sav (Rr marks n0 at0) 166 [.str marks,iav n0,lav iav at0]:=⟨by unfold Rr;exact sa⟩
def X3 (c0:Ab)(marks:List UInt8)(nodes:List Int):Option ((List UInt8)):=
 (Rr marks c0.N nodes).bind fun r0=>
 some r0
instance Apy (c0:Ab)(marks:List UInt8)(nodes:List Int):HE sav (X3 c0 marks nodes) 165 [Ab.av c0,.str marks,lav iav nodes]:=⟨by unfold X3;exact sa⟩
def V2 (s0:List UInt8)(n0:Int):Option ((List UInt8)):=
 if 0≤(min (List.length s0:Int) n0)∧(min (List.length s0:Int) n0)≤((List.length s0):Nat)then
  some (List.take (Int.toNat (min (List.length s0:Int) n0)) s0)
 else none
instance Arf (s0:List UInt8)(n0:Int):HE sav (V2 s0 n0) 167 [.str s0,iav n0]:=⟨by unfold V2;exact sa⟩
def Fg (c2:Ab)(out:List Aj)(i0:Int):Option (((List Aj)×Int)⊕((List Aj))):=
 if i0<c2.N then
  if List.length out+List.length [(Aj.mk ([]:List UInt8) 0 c2.Fresh)]≤Ar then
   some (.inl ((out++[(Aj.mk ([]:List UInt8) 0 c2.Fresh)]),(wr (i0+1))))
  else none
 else
  some (.inr out)
def Xk (c2:Ab)(out:List Aj)(i0:Int):Option ((List Aj)):=
 Ai (fun s:(List Aj)×Int=>Fg c2 s.1 s.2) (out,i0)
def Wc (c2:Ab)(v:(List Aj)×Int)(e:PF.St):Prop:= ∃g0,e=⟨[(1,.ept (Ab.cells c2) 0),(3,.lst g0 (List.map Aj.av v.1)),(4,iav v.2)],[]⟩∧Mg 3 g0
instance Afw (c2:Ab)(out:List Aj)(i0:Int):HL (Xk c2 out i0) LM ([1,3,4],[],[3],Aj6) (Wc c2 (out,i0)) (fun r (q:Ex×PF.St)=> ∃g0',q=((.exit 0),⟨[(3,.lst g0' (List.map Aj.av r))],[]⟩)∧Mg 3 g0'):=by
 refine lv (Wc c2) _ fun S hS hw hw8 R hR=> ?_
 rintro⟨out,i0⟩ env hp ⟨g0,he,hg0⟩
 cases he
 show Sim (Fg c2 out i0) _ _
 unfold Fg
 simp only[hw]
 refine au (.ite Iff.rfl (fun hc2=> ?_) fun hc2=> ?_)
 ·refine au ?_
  refine Sim.kl hS (ys:=List.map Aj.av [(Aj.mk ([]:List UInt8) 0 c2.Fresh)]) rfl ?_
  refine au ?_
  first|(refine Sim.goB (Cj (by intro _;rfl) hg0 _) ?_)|skip
  refine au ?_
  first|(refine Sim.goB (Ca (by intro _;exact⟨rfl,rfl,rfl⟩) _) ?_)|skip
  refine au ?_
  first|refine Sim.ite (by simp) (fun _=> ?_) (fun _=>Sim.no)|refine Sim.guard (fun _=> ?_)
  exact fin
 ·exact fin
def Tj (c0:Ab):Option ((List Aj)):=
 (Bg c0).bind fun r0=>
 if r0≠0 then
  some ([]:List Aj)
 else
  (Xk c0 ([]:List Aj) 0).bind fun r2=>
  some r2
instance Ant (c0:Ab):HE (lav Aj.av) (Tj c0) 220 [Ab.av c0]:=⟨by unfold Tj;exact sa⟩
def Fj (l2:List Aj)(c2:Ab)(out:List Aj)(i0:Int):Option (((List Aj)×Int)⊕((List Aj))):=
 if i0<(List.length l2:Int)then
  (idx? l2 i0).bind fun z0=>
  (V2 z0.Text 16).bind fun r2=>
  (idx? l2 i0).bind fun z2=>
  (Kr z2.Cycle c2.Mod).bind fun r3=>
  (idx? l2 i0).bind fun z3=>
  (Dk z3.Age 0 c2.Fresh).bind fun r4=>
  if List.length out+List.length [(Aj.mk r2 r3 r4)]≤Ar then
   some (.inl ((out++[(Aj.mk r2 r3 r4)]),(wr (i0+1))))
  else none
 else
  some (.inr out)
def Xe (l2:List Aj)(c2:Ab)(out:List Aj)(i0:Int):Option ((List Aj)):=
 Ai (fun s:(List Aj)×Int=>Fj l2 c2 s.1 s.2) (out,i0)
def Wg (l2:List Aj)(c2:Ab)(v:(List Aj)×Int)(e:PF.St):Prop:= ∃g0,e=⟨[(1,lav Aj.av l2),(2,.ept (Ab.cells c2) 0),(5,.lst g0 (List.map Aj.av v.1)),(6,iav v.2)],[]⟩∧Mg 3 g0
instance Agc (l2:List Aj)(c2:Ab)(out:List Aj)(i0:Int):HL (Xe l2 c2 out i0) LM ([1,2,5,6],[],[5],Alx) (Wg l2 c2 (out,i0)) (fun r (q:Ex×PF.St)=> ∃g0',q=((.exit 0),⟨[(5,.lst g0' (List.map Aj.av r))],[]⟩)∧Mg 3 g0'):=by
 refine lv (Wg l2 c2) _ fun S hS hw hw8 R hR=> ?_
 rintro⟨out,i0⟩ env hp ⟨g0,he,hg0⟩
 cases he
 show Sim (Fj l2 c2 out i0) _ _
 unfold Fj
 simp only[hw]
 refine au ?_
 refine Sim.ki hS (m:=(List.length l2:Int)) (by simp) ?_
 refine au (.ite Iff.rfl (fun hc2=> ?_) fun hc2=> ?_)
 ·refine au ?_
  refine Sim.ix (by simp) (fun z0 hz0=> ?_)
  refine au ?_
  refine Sim.go (Bw _ hz0) ?_
  refine au (.hc hR ?_)
  rintro r2 q rfl
  refine au ?_
  refine Sim.ix (by simp) (fun z2 hz2=> ?_)
  refine au ?_
  refine Sim.go (Bw _ hz2) ?_
  refine au (.hc hR ?_)
  rintro r3 q rfl
  refine au ?_
  refine Sim.ix (by simp) (fun z3 hz3=> ?_)
  refine au ?_
  refine Sim.go (Bw _ hz3) ?_
  refine au (.hc hR ?_)
  rintro r4 q rfl
  refine au ?_
  refine Sim.kl hS (ys:=List.map Aj.av [(Aj.mk r2 r3 r4)]) rfl ?_
  refine au ?_
  first|(refine Sim.goB (Cj (by intro _;rfl) hg0 _) ?_)|skip
  refine au ?_
  first|(refine Sim.goB (Ca (by intro _;exact⟨rfl,rfl,rfl⟩) _) ?_)|skip
  refine au ?_
  first|refine Sim.ite (by simp) (fun _=> ?_) (fun _=>Sim.no)|refine Sim.guard (fun _=> ?_)
  exact fin
 ·exact fin
def Uc (c0:Ab)(l0:List Aj):Option ((List Aj)):=
 if(List.length l0:Int)≠c0.N then
  (Tj c0).bind fun r0=>
  some r0
 else
  (Xe l0 c0 ([]:List Aj) 0).bind fun r5=>
  some r5
instance Amr (c0:Ab)(l0:List Aj):HE (lav Aj.av) (Uc c0 l0) 168 [Ab.av c0,lav Aj.av l0]:=⟨by unfold Uc;exact sa⟩
def Fq (c2:Ab)(out:List (List UInt8))(i0:Int):Option (((List (List UInt8))×Int)⊕((List (List UInt8)))):=
 if i0<(wr (c2.N*c2.D))then
  if List.length out+List.length [([]:List UInt8)]≤Ar then
   some (.inl ((out++[([]:List UInt8)]),(wr (i0+1))))
  else none
 else
  some (.inr out)
def Xb (c2:Ab)(out:List (List UInt8))(i0:Int):Option ((List (List UInt8))):=
 Ai (fun s:(List (List UInt8))×Int=>Fq c2 s.1 s.2) (out,i0)
def Wj (c2:Ab)(v:(List (List UInt8))×Int)(e:PF.St):Prop:= ∃g0,e=⟨[(1,.ept (Ab.cells c2) 0),(3,.lst g0 (List.map sav v.1)),(4,iav v.2)],[]⟩∧Mg 1 g0
instance Agd (c2:Ab)(out:List (List UInt8))(i0:Int):HL (Xb c2 out i0) LM ([1,3,4],[],[3],Al1) (Wj c2 (out,i0)) (fun r (q:Ex×PF.St)=> ∃g0',q=((.exit 0),⟨[(3,.lst g0' (List.map sav r))],[]⟩)∧Mg 1 g0'):=by
 refine lv (Wj c2) _ fun S hS hw hw8 R hR=> ?_
 rintro⟨out,i0⟩ env hp ⟨g0,he,hg0⟩
 cases he
 show Sim (Fq c2 out i0) _ _
 unfold Fq
 simp only[hw]
 refine au (.ite Iff.rfl (fun hc2=> ?_) fun hc2=> ?_)
 ·refine au ?_
  refine Sim.kl hS (ys:=List.map sav [([]:List UInt8)]) rfl ?_
  refine au ?_
  first|(refine Sim.goB (Cj (by intro _;rfl) hg0 _) ?_)|skip
  refine au ?_
  first|(refine Sim.goB (Ca (by intro _;exact⟨rfl,rfl,rfl⟩) _) ?_)|skip
  refine au ?_
  first|refine Sim.ite (by simp) (fun _=> ?_) (fun _=>Sim.no)|refine Sim.guard (fun _=> ?_)
  exact fin
 ·exact fin
def T5 (c0:Ab):Option ((List (List UInt8))):=
 (Bg c0).bind fun r0=>
 if r0≠0 then
  some ([]:List (List UInt8))
 else
  (Xb c0 ([]:List (List UInt8)) 0).bind fun r2=>
  some r2
instance Am7 (c0:Ab):HE (lav sav) (T5 c0) 221 [Ab.av c0]:=⟨by unfold T5;exact sa⟩
def Gu (l2 out:List (List UInt8))(i0:Int):Option (((List (List UInt8))×Int)⊕((List (List UInt8)))):=
 if i0<(List.length l2:Int)then
  (idx? l2 i0).bind fun z0=>
  (V2 z0 40).bind fun r2=>
  if List.length out+List.length [r2]≤Ar then
   some (.inl ((out++[r2]),(wr (i0+1))))
  else none
 else
  some (.inr out)
def Zq (l2 out:List (List UInt8))(i0:Int):Option ((List (List UInt8))):=
 Ai (fun s:(List (List UInt8))×Int=>Gu l2 s.1 s.2) (out,i0)
def W4 (l2:List (List UInt8))(v:(List (List UInt8))×Int)(e:PF.St):Prop:= ∃g0,e=⟨[(1,lav sav l2),(5,.lst g0 (List.map sav v.1)),(6,iav v.2)],[]⟩∧Mg 1 g0
end
end Go.Proofs.YtaoijbibmcgdaaaGreat
