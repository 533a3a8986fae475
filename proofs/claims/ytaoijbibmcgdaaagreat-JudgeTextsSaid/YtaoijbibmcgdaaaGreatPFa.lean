/-
  PF, parts 1 to 2: a small machine with values, and that Go's code does what it tells. Conditions: none beyond each theorem's own.
-/
import GoSem.Core.View
import GoSem.Op.String
set_option linter.unusedVariables false
set_option linter.unusedSimpArgs false
namespace Go.Proofs.PF
theorem zbi {α β:Type}{o:Option α}{f:α→Option β}{b:β}(h:o.bind f=some b): ∃a,o=some a∧f a=some b:=Option.bind_eq_some_iff.1 h
theorem zbs {α β:Type}(a:α)(f:α→Option β):(some a).bind f=f a:=rfl
theorem zge {α:Type}{l:List α}{i:Nat}(h:i<l.length):l[i]? =some l[i]:=List.getElem?_eq_getElem h
theorem zsi {α:Type}(a b:α):(some a=some b)=(a=b):=Option.some.injEq a b
theorem zpi {α β:Type}(a:α)(b:β)(c:α)(d:β):((a,b)=(c,d))=(a=c∧b=d):=Prod.mk.injEq a b c d
theorem zba (a b:Bool):((a&&b)=true)=(a=true∧b=true):=Bool.and_eq_true a b
inductive Gr where
 |no|full|own (e:Nat)
 deriving DecidableEq
@[simp] def Gr.cp :Gr→Gr
  | .own _=>.no
  |g=>g
inductive AV where
 |undef
 |nov
 |bool (b:Bool)
 |int (k:IntKind) (n:Int)
 |str (s:List UInt8)
 |agg (cs:List AV)
 |tup (vs:List AV)
 |lst (g:Gr) (xs:List AV)
 |arr (o off len e:Nat) (ag:Bool)
 |arw (o len e:Nat) (ag:Bool)
 |ptr (o off:Nat)
 |ept (cs:List AV) (off:Nat)
 |nilp
 |fn (f:Nat) (cap:List AV)
 deriving Inhabited
namespace AV
@[simp] def cp :AV→AV
  |lst g xs=>lst g.cp xs
  |arw o len e ag=>arr o 0 len e ag
  |a=>a
@[simp] def cells :AV→List AV
  |agg cs=>cs
  |a=>[a]
@[simp] def isCell :AV→Bool
  |undef|nov|agg _|tup _=>false
  |_=>true
@[simp] def dcell :AV→Bool
  |bool _|int _ _|str _|lst .no _|lst .full []=>true
  |_=>false
@[simp] def dt :AV→AV
  |lst _ xs=>lst .no xs
  |a=>a
@[simp] def dtE :AV→AV
  |agg cs=>agg (cs.map dt)
  |a=>a.dt
@[simp] def delem :AV→Bool
  |agg cs=>cs.all dcell
  |a=>a.dcell
@[simp] def flat1 :AV→Bool
  |agg _|tup _=>false
  |_=>true
@[simp] def flat2 :AV→Bool
  |tup _=>false
  |_=>true
@[simp] def isPtr :AV→Bool
  |ptr _ _=>true
  |_=>false
@[simp] def notOwn :AV→Bool
  |lst (.own _) _=>false
  |arw .. =>false
  |_=>true
end AV
@[simp] def headE (e:Nat):List AV→Bool
  | []=>true
  |x::_=>Nat.beq x.cells.length e
@[simp] def mayApp (e:Nat)(g:Gr)(xs:List AV):Bool:=
  match g with
  | .no=>false
  | .full=>headE e xs
  | .own e'=>Nat.beq e e'
abbrev Env :=List (Nat×AV)
structure Obj where
 wr:Bool
 cells:List AV
abbrev Heap :=List (Nat×Obj)
@[simp] def get :Env→Nat→AV
  | [],_=>.undef
  |(j,v)::r,k=>match Nat.beq j k with
   |true=>v
   |false=>get r k
@[simp] def hget :Heap→Nat→Option Obj
  | [],_=>none
  |(j,o)::r,k=>match Nat.beq j k with
   |true=>some o
   |false=>hget r k
@[simp] def hput :Heap→Nat→Obj→Heap
  | [],k,o'=>[(k,o')]
  |(j,o)::r,k,o'=>match Nat.beq j k with
   |true=>(j,o')::r
   |false=>(j,o)::hput r k o'
@[simp] def hset :Heap→Nat→Obj→Heap
  | [],_,_=>[]
  |(j,o)::r,k,o'=>match Nat.beq j k with
   |true=>(j,o')::r
   |false=>(j,o)::hset r k o'
inductive Opd where
 |t (k:Nat)
 |x (k:Nat)
 |c (v:AV)
@[simp] def evo (env:Env):Opd→AV
  | .t k=>(get env k).cp
  | .x k=>get env k
  | .c v=>v
@[simp] def evoE (env:Env):Opd→Env
  | .x k=>(k,(get env k).cp)::env
  |_=>env
@[simp] def takeN :Nat→List AV→Option (List AV)
  |0,_=>some []
  |_+1,[]=>none
  |n+1,c::cs=>match takeN n cs with
   |some r=>some (c.cp::r)
   |none=>none
@[simp] def loadC (cs:List AV)(off sz:Nat)(ag:Bool):Option AV:=
  match ag with
  |true=>match takeN sz (cs.drop off)with
   |some r=>some (.agg r)
   |none=>none
  |false=>match cs.drop off with
   |c::_=>some c.cp
   | []=>none
@[simp] def over :List AV→List AV→Option (List AV)
  |cs,[]=>some cs
  | [],_::_=>none
  |_::cs,v::vs=>match over cs vs with
   |some r=>some (v::r)
   |none=>none
@[simp] def storeC :List AV→Nat→List AV→Option (List AV)
  |cs,0,vs=>over cs vs
  | [],_+1,_=>none
  |c::cs,n+1,vs=>match storeC cs n vs with
   |some r=>some (c::r)
   |none=>none
@[simp] def chunk (e:Nat):Nat→List AV→List AV
  |0,_=>[]
  |n+1,cs=>.agg (cs.take e)::chunk e n (cs.drop e)
def elems (cs:List AV)(off len e:Nat)(ag:Bool):Option (List AV):=
 if off+len*e≤cs.length then
  let ds:=((cs.drop off).take (len*e)).map AV.dt
  if ds.all AV.dcell then(if ag then some (chunk e len ds)else if e=1 then some ds else none)else none
 else none
@[simp] def tcell (h:Heap):AV→Option AV
  | .lst _ xs=>some (.lst .no xs)
  | .arr o off len e ag=>(hget h o).bind fun ob=>(elems ob.cells off len e ag).map (.lst .no)
  | .bool b=>some (.bool b)
  | .int k n=>some (.int k n)
  | .str s=>some (.str s)
  |_=>none
@[simp] def tcells (h:Heap):List AV→Option (List AV)
  | []=>some []
  |a::r=>(tcell h a).bind fun b=>(tcells h r).bind fun s=>some (b::s)
@[simp] def tree (h:Heap):AV→Option AV
  | .agg cs=>(tcells h cs).map .agg
  |a=>tcell h a
@[simp] def arrOf :AV→List Nat
  | .arr o _ _ _ _=>[o]
  | .arw o _ _ _=>[o]
  |_=>[]
@[simp] def arrs :AV→List Nat
  | .agg cs=>cs.flatMap arrOf
  |a=>arrOf a
@[simp] def freeze :Heap→List Nat→Heap
  | [],_=>[]
  |(j,o)::r,ns=>(j,if ns.contains j then{o with wr:=false}else o)::freeze r ns
@[simp] def isLst :AV→Bool
  | .fn _ [.tup _]=>true
  | .lst _ _=>true
  | .ept _ _=>true
  |_=>false
@[simp] def hasLst1 :AV→Bool
  | .agg cs=>cs.any isLst
  |a=>isLst a
@[simp] def hasLst :AV→Bool
  | .tup vs=>vs.any hasLst1
  |a=>hasLst1 a
@[simp] def refs1 :AV→List Nat
  | .ptr o _=>[o]
  | .arr o _ _ _ _=>[o]
  | .arw o _ _ _=>[o]
  |_=>[]
@[simp] def refs2 :AV→List Nat
  | .fn _ cs=>cs.flatMap refs1
  |a=>refs1 a
@[simp] def refs3 :AV→List Nat
  | .agg cs=>cs.flatMap refs2
  |a=>refs2 a
@[simp] def refs :AV→List Nat
  | .tup vs=>vs.flatMap refs3
  |a=>refs3 a
@[simp] def reach (h:Heap):Nat→List Nat→List Nat→Option (List Nat)
  |_,[],seen=>some seen.reverse
  |0,_::_,_=>none
  |n+1,o::todo,seen=>
   if seen.contains o then reach h n todo seen
   else match hget h o with
    |none=>none
    |some ob=>reach h n (todo++ob.cells.flatMap refs2) (o::seen)
@[simp] def idx (ns:List Nat)(o:Nat):Nat:=ns.idxOf o
@[simp] def ren1 (f:Nat→Nat):AV→AV
  | .ptr o a=>.ptr (f o) a
  | .arr o a b c d=>.arr (f o) a b c d
  | .arw o b c d=>.arw (f o) b c d
  |v=>v
@[simp] def ren2 (f:Nat→Nat):AV→AV
  | .fn g cs=>.fn g (cs.map (ren1 f))
  |v=>ren1 f v
@[simp] def ren3 (f:Nat→Nat):AV→AV
  | .agg cs=>.agg (cs.map (ren2 f))
  |v=>ren2 f v
@[simp] def ren (f:Nat→Nat):AV→AV
  | .tup vs=>.tup (vs.map (ren3 f))
  |v=>ren3 f v
inductive Ex where
 |norm|exit (id:Nat)|ret
structure St where
 env:Env
 heap:Heap
structure Rec (L:Type) where
 call:Nat→List AV→List Obj→Option (AV×List Obj)
 loop:L→St→Option (Ex×St)
inductive CArg where
 |tree
 |ref (base:Nat)
 |data
inductive CK where
 |i (k:IntKind)|s|b
 deriving DecidableEq
@[simp] def fnArgs (cap as:List AV):List AV:=
  match cap with
  | [.tup bs]=>bs++as
  |_=>as++cap
inductive MOp where
 |mv (x:Opd)
 |pick (c a b:Opd)
 |new (nm:Nat) (zero:List AV)
 |box (nm:Nat) (x:Opd)
 |boxE (x:Opd)
 |build (zero:List AV) (parts:List (Nat×Nat×Opd))
 |lit (e:Nat) (ag:Bool) (zero:List AV) (len:Nat) (parts:List (Nat×Opd))
 |litF (e:Nat) (ag:Bool) (zero:List AV) (len:Nat) (parts:List (Nat×Opd))
 |litA (nm e:Nat) (ag:Bool) (zero:List AV) (len:Nat) (parts:List (Nat×Opd))
 |ld (sz:Nat) (ag:Bool) (a:Opd)
 |ldx (a:Opd)
 |st (sz:Nat) (a v:Opd)
 |nilc (x:Opd)
 |bin (op:BinOp) (x y:Opd)
 |eqA (neg:Bool) (ks:List CK) (x y:Opd)
 |eqB (neg:Bool) (x y:Opd)
 |eqP (neg:Bool) (x y:Opd)
 |un (op:UnOp) (x:Opd)
 |toInt (k:IntKind) (x:Opd)
 |same (x:Opd)
 |s2b (x:Opd)
 |s2bA (nm:Nat) (x:Opd)
 |b2s (x:Opd)
 |mk (f:Nat) (cap:List Opd)
 |mkB (f:Nat) (bs:List Opd)
 |frz (x:Opd)
 |makeL (e:Nat) (cap:Opd)
 |makeA (nm e:Nat) (ag:Bool) (zero:List AV) (len:Opd)
 |slc (e:Nat) (x:Opd) (lo hi mx:Option Opd)
 |slcS (x:Opd) (lo hi:Option Opd)
 |slcA (n e:Nat) (ag:Bool) (x:Opd) (lo hi:Option Opd)
 |fa (off:Nat) (x:Opd)
 |fld (off sz:Nat) (ag:Bool) (x:Opd)
 |ia (e:Nat) (x i:Opd)
 |iaA (n e:Nat) (x i:Opd)
 |ixS (x i:Opd)
 |ixA (n e:Nat) (ag:Bool) (x i:Opd)
 |len (st:Bool) (x:Opd)
 |lenA (n:Nat)
 |mm (mx:Bool) (x:Opd) (r:List Opd)
 |app (e:Nat) (ag:Bool) (b a:Opd)
 |nilA (nm e:Nat) (ag:Bool) (x:Opd)
 |litZ (nm e:Nat) (ag:Bool) (zero:List AV)
 |appA (e:Nat) (ag:Bool) (b a:Opd)
 |copy (e:Nat) (d s:Opd)
 |ext (x:Opd) (i:Nat)
 |call (f:Nat) (m:CArg) (args:List Opd)
 |callv (x:Opd) (m:CArg) (args:List Opd)
 |callk (f base:Nat) (args:List Opd) (ks:List (Opd×Nat))
 |ldk (a b:Opd) (d:Nat)
 |ldd (sz:Nat) (ag:Bool) (a:Opd)
structure MI where
 dst:Option Nat
 guard:Option (Nat×Bool)
 op:MOp
inductive MCode where
 |skip
 |reg (ops:List MI) (apart:List ((Nat×Opd)×(Nat×Opd)))
 |seq (a b:MCode)
 |cond (c:Opd) (a b:MCode)
 |block (id:Nat) (b:MCode)
 |loop (keepS keepO keepX:List Nat) (b:MCode)
 |exit (id:Nat)
 |ret
inductive MRes where
 |t (k:Nat)
 |cell (k sz:Nat) (ag:Bool)
structure MFunc where
 nargs:Nat
 ntmps:Nat
 body:MCode
 res:List MRes
 handsRef:Bool:=false
abbrev MRec :=Rec (List Nat×List Nat×List Nat×MCode)
def MI.s (k:Nat)(op:MOp):MI:=⟨some k,none,op⟩
def MI.n (op:MOp):MI:=⟨none,none,op⟩
def MI.g (k j:Nat)(b:Bool)(op:MOp):MI:=⟨some k,some (j,b),op⟩
def Opd.i (n:Int):Opd:=.c (.int .i64 n)
def lenMax :Nat:=4294967296
def byteAV (b:UInt8):AV:=.int .u8 b.toNat
@[simp] def avByte :AV→Option UInt8
  | .int .u8 n=>some (UInt8.ofNat n.toNat)
  |_=>none
@[simp] def binV (op:BinOp)(x y:AV):Option AV:=
  match x,y with
  | .int k a,.int k' b=>
    match op with
    | .shl=>if b<0 then none else some (.int k (k.wrap (a*2^min b.toNat k.bits)))
    | .shr=>if b<0 then none else some (.int k (a.fdiv (2^min b.toNat k.bits)))
    |_=>if k=k' then
     match op with
     | .add=>some (.int k (k.wrap (a+b)))
     | .sub=>some (.int k (k.wrap (a-b)))
     | .mul=>some (.int k (k.wrap (a*b)))
     | .quo=>if b=0 then none else some (.int k (k.wrap (a.tdiv b)))
     | .rem=>if b=0 then none else some (.int k (a.tmod b))
     | .and=>some (.int k (k.wrap (BitVec.ofInt k.bits a &&& BitVec.ofInt k.bits b).toNat))
     | .or=>some (.int k (k.wrap (BitVec.ofInt k.bits a ||| BitVec.ofInt k.bits b).toNat))
     | .xor=>some (.int k (k.wrap (BitVec.ofInt k.bits a ^^^ BitVec.ofInt k.bits b).toNat))
     | .andNot=>some (.int k (k.wrap (BitVec.ofInt k.bits a &&& ~~~BitVec.ofInt k.bits b).toNat))
     | .eql=>some (.bool (decide (a=b)))
     | .neq=>some (.bool (decide (a≠b)))
     | .lss=>some (.bool (decide (a<b)))
     | .leq=>some (.bool (decide (a≤b)))
     | .gtr=>some (.bool (decide (b<a)))
     | .geq=>some (.bool (decide (b≤a)))
     |_=>none
     else none
  | .str a,.str b=>
    match op with
    | .add=>if a.length+b.length≤9223372036854775807 then some (.str (a++b))else none
    | .eql=>some (.bool (decide (a=b)))
    | .neq=>some (.bool (decide (a≠b)))
    | .lss=>some (.bool (Op.bytesLess a b))
    | .leq=>some (.bool (Op.bytesLess a b||a==b))
    | .gtr=>some (.bool (!(Op.bytesLess a b||a==b)))
    | .geq=>some (.bool (!Op.bytesLess a b))
    |_=>none
  |_,_=>none
@[simp] def eqCells :List CK→List AV→List AV→Option Bool
  | [],[],[]=>some true
  | .i k::ks,.int j a::r,.int j' b::s=>if j=k∧j'=k then(eqCells ks r s).map (decide (a=b)&& ·)else none
  | .s::ks,.str a::r,.str b::s=>(eqCells ks r s).map (decide (a=b)&& ·)
  | .b::ks,.bool a::r,.bool b::s=>(eqCells ks r s).map (decide (a=b)&& ·)
  |_,_,_=>none
@[simp] def intV :AV→Option Int
  | .int _ n=>some n
  |_=>none
@[simp] def within (i:Int)(n:Nat):Option Nat:=if 0≤i∧i<n then some i.toNat else none
@[simp] def upto (i:Int)(n:Nat):Option Nat:=if 0≤i∧i≤n then some i.toNat else none
@[simp] def bound (env:Env)(o:Option Opd)(dflt n:Nat):Option Nat:=
  match o with
  |none=>some dflt
  |some x=>(intV (evo env x)).bind fun i=>upto i n
@[simp] def putParts (cs:List AV):List (Nat×Nat×AV)→Option (List AV)
  | []=>some cs
  |(off,sz,v)::r=>if v.cells.length=sz∧v.cells.all AV.isCell then(storeC cs off v.cells).bind fun cs'=>putParts cs' r else none
@[simp] def putElems (e:Nat)(xs:List AV):List (Nat×AV)→Option (List AV)
  | []=>some xs
  |(i,v)::r=>if i<xs.length∧v.cells.length=e∧v.cells.all AV.isCell then putElems e (xs.set i v) r else none
@[simp] def zeroElem (ag:Bool)(zero:List AV):AV:=if ag then .agg zero else zero.headD .undef
@[simp] def okElems (e:Nat)(ag:Bool)(xs:List AV):Bool:=
  xs.all fun x=>x.delem&&decide (x.cells.length=e)&&(match x with| .agg _=>ag|_=> !ag)
@[simp] def distinct (n:Nat)(x:AV)(m:Nat)(y:AV):Bool:=
  match x,y with
  | .ptr o a,.ptr o' b=> !(Nat.beq o o')||Nat.ble (a+n) b||Nat.ble (b+m) a
  | .ept _ _,.ptr _ _| .ptr _ _,.ept _ _=>true
  |_,_=>false
@[simp] def srcElems (h:Heap)(ag:Bool):AV→Option (List AV)
  | .lst _ xs=>some xs
  | .str s=>if ag then none else some (s.map byteAV)
  | .arr o off len e ag'=>if ag=ag' then(hget h o).bind fun ob=>elems ob.cells off len e ag else none
  |_=>none
def names (ns:List Nat)(base n:Nat):List Nat:=ns++(List.range (n-ns.length)).map (base+ ·)
def puts (h:Heap)(ns:List Nat)(obs:List Obj):Heap:=(ns.zip obs).foldl (fun h (p:Nat×Obj)=>hput h p.1 {p.2 with cells:=p.2.cells.map (ren2 fun i=>ns.getD i 0)}) h
def treeT (h:Heap)(v:AV):Option AV:=
 match v with
 | .tup vs=>(vs.mapM (tree h)).map .tup
 |v=>tree h v
def hp (o:List Obj):Heap:=o.zipIdx.map fun p=>(p.2,p.1)
def back (v:AV)(o:List Obj):Option AV:=
 match o with
 | []=>some v
 |_::_=>treeT (hp o) v
def callR (R:Nat→List AV→List Obj→Option (AV×List Obj))(h:Heap)(f:Nat)(m:CArg)(args:List AV):Option (AV×Heap):=
 match m with
 | .data=>do
   let as←args.mapM (tree [])
   let(v,o)←R f as []
   let r←back v o
   pure (r,h)
 | .tree=>do
   let as←args.mapM (tree h)
   let(v,o)←R f as []
   let r←back v o
   pure (r,if hasLst r then freeze h (args.flatMap arrs)else h)
 | .ref base=>do
   let ns←reach h 64 (args.flatMap refs) []
   let hin←ns.mapM fun o=>(hget h o).map fun ob=>{ob with cells:=ob.cells.map (ren2 (idx ns))}
   let(v,hout)←R f (args.map (ren (idx ns))) hin
   if Nat.ble ns.length hout.length&&((names ns base hout.length).drop ns.length).all (fun k=>(hget h k).isNone)then
    pure (ren (fun i=>(names ns base hout.length).getD i 0) v,puts h (names ns base hout.length) hout)
   else none
@[simp] def argsE (env:Env):List Opd→Env
  | []=>env
  |a::r=>argsE (evoE env a) r
@[simp] def argsV (env:Env):List Opd→List AV
  | []=>[]
  |a::r=>evo env a::argsV (evoE env a) r
@[simp] def killE (o:Nat):Env→Env
  | []=>[]
  |(k,v)::r=>(k,match(refs v).contains o with|true=>.undef|false=>v)::killE o r
@[simp] def noRef (o:Nat)(h:Heap):Bool:=h.all fun p=>p.2.cells.all fun c=> !(refs2 c).contains o
@[simp] def kept (env:Env)(h h':Heap):List (Opd×Nat)→Bool
  | []=>true
  |a::r=>(match evo env a.1 with
   | .ptr o off=>match hget h o,hget h' o with
     |some ob,some ob'=>match ob.cells[off+a.2]?,ob'.cells[off+a.2]? with
      |some (.int k x),some (.int k' y)=>decide (k=k')&&decide (x=y)
      |_,_=>false
     |_,_=>false
   |_=>false)&&kept env h h' r
@[simp] def opv (R:Nat→List AV→List Obj→Option (AV×List Obj))(env:Env)(h:Heap):MOp→Option (AV×Env×Heap)
  | .mv x=>some (evo env x,evoE env x,h)
  | .pick c a b=>match evo env c with
    | .bool true=>some (evo env a,env,h)
    | .bool false=>some (evo env b,env,h)
    |_=>none
  | .new nm zero=>match hget h nm with
    |none=>some (.ptr nm 0,env,(nm,⟨true,zero⟩)::h)
    |some _=>none
  | .box nm x=>match hget h nm with
    |none=>if(evo env x).cells.all AV.isCell then some (.ptr nm 0,evoE env x,(nm,⟨true,(evo env x).cells⟩)::h)else none
    |some _=>none
  | .boxE x=>if((evo env x).cells.map AV.dt).all AV.dcell then some (.ept ((evo env x).cells.map AV.dt) 0,env,h)else none
  | .build zero parts=>(putParts zero (parts.map fun p=>(p.1,p.2.1,evo env p.2.2))).map fun cs=>(.agg (cs.map AV.cp),env,h)
  | .lit e ag zero len parts=>(putElems e (List.replicate len (zeroElem ag zero)) (parts.map fun p=>(p.1,evo env p.2))).bind fun xs=>
     if okElems e ag (xs.map AV.dtE)then some (.lst .full (xs.map AV.dtE),env,h)else none
  | .litF e ag zero len parts=>(putElems e (List.replicate len (zeroElem ag zero)) (parts.map fun p=>(p.1,evo env p.2))).bind fun xs=>
     if okElems e ag xs then some (.lst .full xs,env,h)else none
  | .litA nm e ag zero len parts=>match hget h nm with
    |none=>(putElems e (List.replicate len (zeroElem ag zero)) (parts.map fun p=>(p.1,evo env p.2))).bind fun xs=>
     if okElems e ag (xs.map AV.dtE)then some (.arr nm 0 len e ag,env,(nm,⟨true,(xs.map AV.dtE).flatMap AV.cells⟩)::h)else none
    |some _=>none
  | .ld sz ag a=>match evo env a with
    | .ptr o off=>(hget h o).bind fun ob=>(loadC ob.cells off sz ag).map fun v=>(v,env,h)
    | .ept cs off=>(loadC cs off sz ag).map fun v=>(v,env,h)
    |_=>none
  | .ldx a=>match evo env a with
    | .ptr o off=>(hget h o).bind fun ob=>if ob.wr then ob.cells[off]?.map fun v=>(v,env,hset h o {ob with cells:=ob.cells.set off v.cp})else none
    |_=>none
  | .st sz a v=>match evo env a with
    | .ptr o off=>(hget h o).bind fun ob=>if ob.wr∧(evo env v).cells.length=sz∧(evo env v).cells.all AV.isCell then
       (storeC ob.cells off (evo env v).cells).map fun cs=>(.undef,evoE env v,hset h o {ob with cells:=cs})else none
    |_=>none
  | .frz x=>(tree h (evo env x)).map fun v=>(v,env,freeze h (arrs (evo env x)))
  | .nilc x=>match evo env x with
    | .ptr o a=>some (.ptr o a,env,h)
    | .ept cs a=>some (.ept cs a,env,h)
    |_=>none
  | .bin op x y=>(binV op (evo env x) (evo env y)).map fun v=>(v,env,h)
  | .eqA neg ks x y=>match evo env x,evo env y with
    | .agg cs,.agg ds=>(eqCells ks cs ds).map fun b=>(.bool (if neg then !b else b),env,h)
    |_,_=>none
  | .eqB neg x y=>match evo env x,evo env y with
    | .bool a,.bool b=>some (.bool (if neg then decide (a≠b)else decide (a=b)),env,h)
    |_,_=>none
  | .eqP neg x y=>match evo env x,evo env y with
    | .nilp,.nilp=>some (.bool (!neg),env,h)
    | .ptr _ _,.nilp=>some (.bool neg,env,h)
    | .nilp,.ptr _ _=>some (.bool neg,env,h)
    |_,_=>none
  | .un op x=>match op,evo env x with
    | .neg,.int k n=>some (.int k (k.wrap (0-n)),env,h)
    | .not,.bool b=>some (.bool (!b),env,h)
    | .xor,.int k n=>(binV .xor (.int k (if k.signed then-1 else k.max)) (.int k n)).map fun v=>(v,env,h)
    |_,_=>none
  | .toInt k x=>(intV (evo env x)).map fun n=>(.int k (k.wrap n),env,h)
  | .same x=>match evo env x with
    | .str s=>some (.str s,env,h)
    |_=>none
  | .s2b x=>match evo env x with
    | .str s=>if s.length≤lenMax then some (.lst (.own 1) (s.map byteAV),env,h)else none
    |_=>none
  | .s2bA nm x=>match hget h nm,evo env x with
    |none,.str s=>if s.length≤lenMax then some (.arr nm 0 s.length 1 false,env,(nm,⟨true,s.map byteAV⟩)::h)else none
    |_,_=>none
  | .b2s x=>match evo env x with
    | .lst _ xs=>(xs.mapM avByte).map fun s=>(.str s,env,h)
    | .arr o off len 1 false=>(hget h o).bind fun ob=>if off+len≤ob.cells.length then(((ob.cells.drop off).take len).mapM avByte).map fun s=>(.str s,env,h)else none
    |_=>none
  | .mkB f bs=>if((bs.map (evo env)).map AV.dtE).all AV.delem then some (.fn f [.tup ((bs.map (evo env)).map AV.dtE)],env,h)else none
  | .mk f cap=>if(cap.map (evo env)).all AV.isPtr then some (.fn f (cap.map (evo env)),env,h)else none
  | .makeL e cap=>(intV (evo env cap)).bind fun n=>if 0≤n∧n≤lenMax then some (.lst (.own e) [],env,h)else none
  | .makeA nm e ag zero len=>match hget h nm with
    |none=>(intV (evo env len)).bind fun n=>if 0≤n∧n≤lenMax then
      some (.arr nm 0 n.toNat e ag,env,(nm,⟨true,(List.replicate n.toNat zero).flatten⟩)::h)else none
    |some _=>none
  | .slcS x lo hi=>match evo env x with
    | .str s=>(bound env hi s.length s.length).bind fun b=>(bound env lo 0 b).map fun a=>(.str ((s.take b).drop a),env,h)
    |_=>none
  | .slc e x lo hi mx=>match evo env x with
    | .lst g xs=>if headE e xs then(bound env mx xs.length xs.length).bind fun m=>(bound env hi xs.length m).bind fun b=>(bound env lo 0 b).map fun a=>
       (.lst (if hi.isNone then g else if mx.isSome∧b=m then .full else .no) ((xs.take b).drop a),evoE env x,h)else none
    | .arr o off len e' ag=>if e=e' then(bound env mx len len).bind fun m=>(bound env hi len m).bind fun b=>(bound env lo 0 b).map fun a=>
       (.arr o (off+a*e) (b-a) e ag,env,h)else none
    |_=>none
  | .slcA n e ag x lo hi=>match evo env x with
    | .ptr o off=>(bound env hi n n).bind fun b=>(bound env lo 0 b).map fun a=>(.arr o (off+a*e) (b-a) e ag,env,h)
    |_=>none
  | .fa off x=>match evo env x with
    | .ptr o a=>some (.ptr o (a+off),env,h)
    | .ept cs a=>some (.ept cs (a+off),env,h)
    |_=>none
  | .fld off sz ag x=>match evo env x with
    | .agg cs=>(loadC cs off sz ag).map fun v=>(v,env,h)
    |_=>none
  | .ia e x i=>(intV (evo env i)).bind fun i=>match evo env x with
    | .lst _ xs=>(within i xs.length).bind fun j=>(xs[j]?).bind fun y=>if y.cells.length=e then some (.ept y.cells 0,env,h)else none
    | .arr o off len e' _=>if e=e' then(within i len).map fun j=>(.ptr o (off+j*e),env,h)else none
    |_=>none
  | .iaA n e x i=>(intV (evo env i)).bind fun i=>match evo env x with
    | .ptr o off=>(within i n).map fun j=>(.ptr o (off+j*e),env,h)
    | .ept cs off=>(within i n).map fun j=>(.ept cs (off+j*e),env,h)
    |_=>none
  | .ixS x i=>(intV (evo env i)).bind fun i=>match evo env x with
    | .str s=>(within i s.length).bind fun j=>s[j]?.map fun b=>(byteAV b,env,h)
    |_=>none
  | .ixA n e ag x i=>(intV (evo env i)).bind fun i=>match evo env x with
    | .agg cs=>(within i n).bind fun j=>(loadC cs (j*e) e ag).map fun v=>(v,env,h)
    |_=>none
  | .len st x=>match st,evo env x with
    |true,.str s=>some (.int .i64 s.length,env,h)
    |false,.lst _ xs=>some (.int .i64 xs.length,env,h)
    |false,.arr _ _ len _ _=>some (.int .i64 len,env,h)
    |_,_=>none
  | .lenA n=>some (.int .i64 n,env,h)
  | .mm mx x r=>match evo env x with
    | .int k a=>(r.mapM fun y=>intV (evo env y)).map fun l=>(.int k (l.foldl (fun x y=>if mx then(if y>x then y else x)else(if y<x then y else x)) a),env,h)
    |_=>none
  | .app e ag b a=>match evo env b with
    | .lst g xs=>(srcElems h ag (evo env a)).bind fun ys=>
       if mayApp e g xs∧okElems e ag ys∧xs.length+ys.length≤lenMax then
        some (.lst (.own e) (xs++ys),evoE env b,h)else none
    |_=>none
  | .nilA nm e ag x=>match hget h nm,evo env x with
    |none,.lst .full []=>some (.arw nm 0 e ag,env,(nm,⟨true,[]⟩)::h)
    |_,_=>none
  | .litZ nm e ag _=>match hget h nm with
    |none=>some (.arw nm 0 e ag,env,(nm,⟨true,[]⟩)::h)
    |some _=>none
  | .appA e ag b a=>match evo env b with
    | .arw o len e' ag'=>if e=e'∧ag=ag' then(srcElems h ag (evo env a)).bind fun ys=>(hget h o).bind fun ob=>
       if ob.wr∧ob.cells.length=len*e∧okElems e ag ys∧len+ys.length≤lenMax∧noRef o h∧(ob.cells.all fun c=>c.notOwn&&(refs2 c).isEmpty)∧100≤o then
        some (.arw o (len+ys.length) e ag,killE o env,hset h o {ob with cells:=ob.cells++ys.flatMap AV.cells})else none else none
    |_=>none
  | .copy e d s=>match evo env d with
    | .arr o off len e' ag=>if e=e' then(srcElems h ag (evo env s)).bind fun ys=>(hget h o).bind fun ob=>
       if ob.wr∧okElems e ag ys then
        (storeC ob.cells off ((ys.take (min ys.length len)).flatMap AV.cells)).map fun cs=>(.int .i64 (min ys.length len:Nat),env,hset h o {ob with cells:=cs})
       else none else none
    |_=>none
  | .ext x i=>match evo env x with
    | .tup vs=>vs[i]?.map fun v=>(v,env,h)
    |_=>none
  | .call f m args=>(callR R h f m (argsV env args)).map fun(v,h')=>(v,argsE env args,h')
  | .callv x m args=>match evo env x with
    | .fn f cap=>(callR R h f m (fnArgs cap (argsV env args))).map fun(v,h')=>(v,argsE env args,h')
    |_=>none
  | .callk f base args ks=>(callR R h f (.ref base) (argsV env args)).bind fun(v,h')=>if kept env h h' ks then some (v,argsE env args,h')else none
  | .ldk a b d=>match evo env a,evo env b with
    | .ptr o off,.ptr o' off'=>if o=o'∧off=off'+d then(hget h o).bind fun ob=>(loadC ob.cells off 1 false).map fun v=>(v,env,h)else none
    |_,_=>none
  | .ldd sz ag a=>match evo env a with
    | .ept cs off=>(loadC cs off sz ag).map fun v=>(v,env,h)
    |_=>none
@[simp] def putD (d:Option Nat)(v:AV)(env:Env):Env:=
  match d with
  |some k=>(k,v)::env
  |none=>env
@[simp] def wanted (env:Env):Option (Nat×Bool)→Option Bool
  |none=>some true
  |some (k,want)=>match get env k with
   | .bool b=>some (b==want)
   | .nov=>some false
   |_=>none
@[simp] def stepI (R:Nat→List AV→List Obj→Option (AV×List Obj))(i:MI)(s:St):Option St:=
  match wanted s.env i.guard with
  |some true=>(opv R s.env s.heap i.op).map fun(v,env,h)=>⟨putD i.dst v env,h⟩
  |some false=>some ⟨putD i.dst .nov s.env,s.heap⟩
  |none=>none
@[simp] def runOps (R:Nat→List AV→List Obj→Option (AV×List Obj)):List MI→St→Option St
  | [],s=>some s
  |i::r,s=>(stepI R i s).bind (runOps R r)
@[simp] def step (R:MRec):MCode→St→Option (Ex×St)
  | .skip,s=>some (.norm,s)
  | .reg ops ap,s=>(runOps R.call ops s).bind fun s'=>
     if ap.all (fun p=>distinct p.1.1 (evo s'.env p.1.2) p.2.1 (evo s'.env p.2.2))then some (.norm,s')else none
  | .seq a b,s=>(step R a s).bind fun
     |(.norm,s')=>step R b s'
     |r=>some r
  | .cond c a b,s=>match evo s.env c with
     | .bool true=>step R a s
     | .bool false=>step R b s
     |_=>none
  | .block id b,s=>(step R b s).map fun
     |(.exit j,s')=>if j=id then(.norm,s')else(.exit j,s')
     |r=>r
  | .loop ks ko kx b,s=>R.loop (ks,ko,kx,b) s
  | .exit id,s=>some (.exit id,s)
  | .ret,s=>some (.ret,s)
@[simp] def keep (ks ko:List Nat)(s:St):Option St:=
  let env:=ks.map fun k=>(k,get s.env k)
  let h:=s.heap.filter fun p=>p.1<100||ko.contains p.1
  if(env.all fun p=>(refs p.2).all fun o=>o<100||ko.contains o)&&(h.all fun p=>p.2.cells.all fun c=>(refs2 c).all fun o=>o<100||ko.contains o)then some ⟨env,h⟩else none
@[simp] def resOf (s:St):MRes→Option AV
  | .t k=>some (get s.env k).cp
  | .cell k sz ag=>match get s.env k with
    | .ptr o off=>(hget s.heap o).bind fun ob=>loadC ob.cells off sz ag
    |_=>none
@[simp] def one :List AV→AV
  | [v]=>v
  |vs=>.tup vs
@[simp] def treeN (ns:List Nat)(h:Heap)(v:AV):Option AV:=
  match ns with
  | []=>tree h v
  |ns=>if(arrs v).all (fun o=> !ns.contains o)then tree h v else none
@[simp] def finish (F:MFunc)(n:Nat)(s:St):Option (AV×List Obj):=do
  let vs←F.res.mapM (resOf s)
  let ns←reach s.heap 64 (List.range n++(if F.handsRef then vs.flatMap refs else [])) []
  let rs←(if F.handsRef then(if vs.all AV.flat2 then some (vs.map (ren (idx ns)))else none)else vs.mapM (treeN ns s.heap))
  let out←ns.mapM fun o=>(hget s.heap o).map fun ob=>{ob with cells:=ob.cells.map (ren2 (idx ns))}
  if Nat.ble n 100 then pure (one rs,out)else none
@[simp] def enter (args:List AV)(hin:List Obj):St:=
  ⟨args.zipIdx.map fun p=>(p.2,p.1),hin.zipIdx.map fun p=>(p.2,p.1)⟩
def callB (R:MRec)(F:MFunc)(args:List AV)(hin:List Obj):Option (AV×List Obj):=
 if args.length=F.nargs then
  (step R F.body (enter args hin)).bind fun
    |(.norm,s)|(.ret,s)=>finish F hin.length s
    |_=>none
 else none
abbrev Prog :=Nat→Option MFunc
def runs (M:Prog)(X:Nat→List AV→Option (AV×List Obj)):Nat→MRec
 |0=>⟨fun _ _ _=>none,fun _ _=>none⟩
 |n+1=>
  {call:=fun f args hin=>match M f with
    |some F=>callB (runs M X n) F args hin
    |none=>if hin.isEmpty then X f args else none
   loop:=fun(ks,ko,kx,b) s=>(keep ks ko s).bind fun s'=>(step (runs M X n) b s').bind fun
    |(.norm,s2)=>(runs M X n).loop (ks,ko,kx,b) s2
    |(e,s2)=>(keep kx ko s2).map fun s3=>(e,s3)}
theorem opv_callk {R:Nat→List AV→List Obj→Option (AV×List Obj)}{env:Env}{h:Heap}{f base:Nat}{args:List Opd}{ks:List (Opd×Nat)}{r:AV×Env×Heap}(ho:opv R env h (.callk f base args ks)=some r):opv R env h (.call f (.ref base) args)=some r:=by
 simp only[opv]at ho ⊢
 obtain⟨p,h1,h2⟩:=zbi ho
 rw[h1]
 split at h2
 ·injection h2 with h2;rw[←h2];rfl
 ·cases h2
theorem opv_ldk {R:Nat→List AV→List Obj→Option (AV×List Obj)}{env:Env}{h:Heap}{a b:Opd}{d:Nat}{r:AV×Env×Heap}(ho:opv R env h (.ldk a b d)=some r):opv R env h (.ld 1 false a)=some r:=by
 simp only[opv]at ho ⊢
 split at ho
 ·rename_i o off o' off' h1 h2
  simp only[h1]
  split at ho
  ·exact ho
  ·cases ho
 ·cases ho
theorem opv_ldd {R:Nat→List AV→List Obj→Option (AV×List Obj)}{env:Env}{h:Heap}{sz:Nat}{ag:Bool}{a:Opd}{r:AV×Env×Heap}(ho:opv R env h (.ldd sz ag a)=some r):opv R env h (.ld sz ag a)=some r:=by
 simp only[opv]at ho ⊢
 split at ho
 ·rename_i cs off h1
  simp only[h1]
  exact ho
 ·cases ho
abbrev CallF :=Nat→List AV→List Obj→Option (AV×List Obj)
def LeC (R R':CallF):Prop:= ∀f a h r,R f a h=some r→R' f a h=some r
structure Le (R R':MRec):Prop where
 call:LeC R.call R'.call
 loop: ∀l s r,R.loop l s=some r→R'.loop l s=some r
theorem LeC.refl (R:CallF):LeC R R:=fun _ _ _ _ h=>h
theorem callR_mono {R R':CallF}(hR:LeC R R'){h:Heap}{f:Nat}{m:CArg}{args:List AV}{r:AV×Heap}(H:callR R h f m args=some r):callR R' h f m args=some r:=by
 cases m with
 |data=>
  simp only[callR,Option.bind_eq_bind,Option.bind_eq_some_iff]at H ⊢
  obtain⟨as,h1,⟨v,o⟩,h2,h3⟩:=H
  exact⟨as,h1,⟨v,o⟩,hR _ _ _ _ h2,h3⟩
 |tree=>
  simp only[callR,Option.bind_eq_bind,Option.bind_eq_some_iff]at H ⊢
  obtain⟨as,h1,⟨v,o⟩,h2,h3⟩:=H
  exact⟨as,h1,⟨v,o⟩,hR _ _ _ _ h2,h3⟩
 |ref=>
  simp only[callR,Option.bind_eq_bind,Option.bind_eq_some_iff]at H ⊢
  obtain⟨ns,h1,hin,h2,⟨v,o⟩,h3,h4⟩:=H
  exact⟨ns,h1,hin,h2,⟨v,o⟩,hR _ _ _ _ h3,h4⟩
theorem opv_mono {R R':CallF}(hR:LeC R R'){env:Env}{h:Heap}{op:MOp}{r:AV×Env×Heap}(H:opv R env h op=some r):opv R' env h op=some r:=by
 cases op with
 |call f m args=>
  simp only[opv,Option.map_eq_some_iff]at H ⊢
  obtain⟨a,h1,h2⟩:=H
  exact⟨a,callR_mono hR h1,h2⟩
 |callv x m args=>
  simp only[opv]at H ⊢
  cases hx:evo env x with
  |fn g cap=>
   rw[hx]at H
   simp only[Option.map_eq_some_iff]at H ⊢
   obtain⟨a,h1,h2⟩:=H
   exact⟨a,callR_mono hR h1,h2⟩
  |_=>rw[hx]at H;cases H
 |callk f b args ks=>
  simp only[opv,Option.bind_eq_some_iff]at H ⊢
  obtain⟨a,h1,h2⟩:=H
  exact⟨a,callR_mono hR h1,h2⟩
 |_=>exact H
theorem stepI_mono {R R':CallF}(hR:LeC R R'){i:MI}{s r:St}(H:stepI R i s=some r):stepI R' i s=some r:=by
 simp only[stepI]at H ⊢
 cases hw:wanted s.env i.guard with
 |none=>rw[hw]at H;cases H
 |some b=>
  rw[hw]at H
  cases b with
  |false=>exact H
  |true=>
   simp only[Option.map_eq_some_iff]at H ⊢
   obtain⟨a,h1,h2⟩:=H
   exact⟨a,opv_mono hR h1,h2⟩
theorem runOps_mono {R R':CallF}(hR:LeC R R')(l:List MI): ∀{s r:St},runOps R l s=some r→runOps R' l s=some r:=by
 induction l with
 |nil=>exact fun h=>h
 |cons i l ih=>
  intro s r H
  simp only[runOps,Option.bind_eq_some_iff]at H ⊢
  obtain⟨s1,h1,h2⟩:=H
  exact⟨s1,stepI_mono hR h1,ih h2⟩
theorem step_mono {R R':MRec}(hR:Le R R')(c:MCode): ∀{s:St} {r:Ex×St},step R c s=some r→step R' c s=some r:=by
 induction c with
 |skip=>exact fun h=>h
 |reg ops ap=>
  intro s r H
  simp only[step,Option.bind_eq_some_iff]at H ⊢
  obtain⟨s1,h1,h2⟩:=H
  exact⟨s1,runOps_mono hR.call _ h1,h2⟩
 |seq a b iha ihb=>
  intro s r H
  simp only[step,Option.bind_eq_some_iff]at H ⊢
  obtain⟨⟨e,s1⟩,h1,h2⟩:=H
  refine⟨_,iha h1,?_⟩
  cases e with
  |norm=>exact ihb h2
  |exit id=>exact h2
  |ret=>exact h2
 |cond c a b iha ihb=>
  intro s r H
  simp only[step]at H ⊢
  split at H
  ·exact iha H
  ·exact ihb H
  ·cases H
 |block id b ih=>
  intro s r H
  simp only[step,Option.map_eq_some_iff]at H ⊢
  obtain⟨a,h1,h2⟩:=H
  exact⟨a,ih h1,h2⟩
 |loop ks ko kx b ih=>exact fun H=>hR.loop _ _ _ H
 |exit id=>exact fun h=>h
 |ret=>exact fun h=>h
theorem callB_mono {R R':MRec}(hR:Le R R'){F:MFunc}{args:List AV}{hin:List Obj}{r:AV×List Obj}(H:callB R F args hin=some r):callB R' F args hin=some r:=by
 unfold callB at H ⊢
 split at H
 ·rename_i hl
  rw[if_pos hl]
  simp only[Option.bind_eq_some_iff]at H ⊢
  obtain⟨⟨e,s⟩,h1,h2⟩:=H
  exact⟨_,step_mono hR _ h1,h2⟩
 ·cases H
section
variable (M:Prog) (X:Nat→List AV→Option (AV×List Obj))
theorem runs_le (n:Nat):Le (runs M X n) (runs M X (n+1)):=by
 induction n with
 |zero=>exact⟨fun _ _ _ _ h=>(by cases h),fun _ _ _ h=>(by cases h)⟩
 |succ n ih=>
  refine⟨fun f a h r H=> ?_,fun l s r H=> ?_⟩
  ·simp only[runs]at H ⊢
   cases hf:M f with
   |none=>rw[hf]at H;exact H
   |some F=>rw[hf]at H;exact callB_mono ih H
  ·obtain⟨ks,ko,kx,b⟩:=l
   rw[runs]at H ⊢
   simp only[Option.bind_eq_some_iff]at H ⊢
   obtain⟨s1,h1,⟨e,s2⟩,h2,h3⟩:=H
   refine⟨s1,h1,_,step_mono ih _ h2,?_⟩
   cases e with
   |norm=>exact ih.loop _ _ _ h3
   |exit id=>exact h3
   |ret=>exact h3
theorem runs_mono {n m:Nat}(h:n≤m):Le (runs M X n) (runs M X m):=by
 induction m with
 |zero=>obtain rfl:n=0:=by omega
        exact⟨fun _ _ _ _ h=>h,fun _ _ _ h=>h⟩
 |succ m ih=>
  by_cases e:n=m+1
  ·subst e;exact⟨fun _ _ _ _ h=>h,fun _ _ _ h=>h⟩
  ·have a:=ih (by omega)
   have b:=runs_le M X m
   exact⟨fun f x y r H=>b.call _ _ _ _ (a.call _ _ _ _ H),fun l s r H=>b.loop _ _ _ (a.loop _ _ _ H)⟩
open Classical in
theorem lim_ex : ∃R:MRec,(∀f a h r,R.call f a h=some r↔∃n,(runs M X n).call f a h=some r)∧(∀l s r,R.loop l s=some r↔∃n,(runs M X n).loop l s=some r):=by
 refine⟨{call:=fun f a h=>if H: ∃n r,(runs M X n).call f a h=some r then some H.choose_spec.choose else none
         loop:=fun l s=>if H: ∃n r,(runs M X n).loop l s=some r then some H.choose_spec.choose else none},?_,?_⟩
 ·intro f a h r
  dsimp only
  constructor
  ·intro H
   split at H
   ·rename_i hx
    have hs:=hx.choose_spec.choose_spec
    simp only[zsi]at H
    rw[H]at hs
    exact⟨_,hs⟩
   ·cases H
  ·rintro⟨n,hn⟩
   have hx: ∃n r,(runs M X n).call f a h=some r:=⟨n,r,hn⟩
   rw[dif_pos hx]
   have hs:=hx.choose_spec.choose_spec
   have h1:=(runs_mono M X (Nat.le_max_left n hx.choose)).call _ _ _ _ hn
   have h2:=(runs_mono M X (Nat.le_max_right n hx.choose)).call _ _ _ _ hs
   rw[h1]at h2
   exact h2.symm
 ·intro l s r
  dsimp only
  constructor
  ·intro H
   split at H
   ·rename_i hx
    have hs:=hx.choose_spec.choose_spec
    simp only[zsi]at H
    rw[H]at hs
    exact⟨_,hs⟩
   ·cases H
  ·rintro⟨n,hn⟩
   have hx: ∃n r,(runs M X n).loop l s=some r:=⟨n,r,hn⟩
   rw[dif_pos hx]
   have hs:=hx.choose_spec.choose_spec
   have h1:=(runs_mono M X (Nat.le_max_left n hx.choose)).loop _ _ _ hn
   have h2:=(runs_mono M X (Nat.le_max_right n hx.choose)).loop _ _ _ hs
   rw[h1]at h2
   exact h2.symm
noncomputable def lim :MRec:=Classical.choose (lim_ex M X)
theorem lim_call {f:Nat}{a:List AV}{h:List Obj}{r:AV×List Obj}:(lim M X).call f a h=some r↔∃n,(runs M X n).call f a h=some r:=(Classical.choose_spec (lim_ex M X)).1 f a h r
theorem lim_loop {l:List Nat×List Nat×List Nat×MCode}{s:St}{r:Ex×St}:(lim M X).loop l s=some r↔∃n,(runs M X n).loop l s=some r:=(Classical.choose_spec (lim_ex M X)).2 l s r
theorem le_lim (n:Nat):Le (runs M X n) (lim M X):=
 ⟨fun _ _ _ _ h=>(lim_call M X).2 ⟨n,h⟩,fun _ _ _ h=>(lim_loop M X).2 ⟨n,h⟩⟩
theorem callR_lim {h:Heap}{f:Nat}{m:CArg}{args:List AV}{r:AV×Heap}(H:callR (lim M X).call h f m args=some r): ∃n,callR (runs M X n).call h f m args=some r:=by
 cases m with
 |data=>
  simp only[callR,Option.bind_eq_bind,Option.bind_eq_some_iff]at H ⊢
  obtain⟨as,h1,⟨v,o⟩,h2,h3⟩:=H
  obtain⟨n,hn⟩:=(lim_call M X).1 h2
  exact⟨n,as,h1,⟨v,o⟩,hn,h3⟩
 |tree=>
  simp only[callR,Option.bind_eq_bind,Option.bind_eq_some_iff]at H ⊢
  obtain⟨as,h1,⟨v,o⟩,h2,h3⟩:=H
  obtain⟨n,hn⟩:=(lim_call M X).1 h2
  exact⟨n,as,h1,⟨v,o⟩,hn,h3⟩
 |ref=>
  simp only[callR,Option.bind_eq_bind,Option.bind_eq_some_iff]at H ⊢
  obtain⟨ns,h1,hin,h2,⟨v,o⟩,h3,h4⟩:=H
  obtain⟨n,hn⟩:=(lim_call M X).1 h3
  exact⟨n,ns,h1,hin,h2,⟨v,o⟩,hn,h4⟩
theorem opv_lim {env:Env}{h:Heap}{op:MOp}{r:AV×Env×Heap}(H:opv (lim M X).call env h op=some r): ∃n,opv (runs M X n).call env h op=some r:=by
 cases op with
 |call f m args=>
  simp only[opv,Option.map_eq_some_iff]at H ⊢
  obtain⟨a,h1,h2⟩:=H
  obtain⟨n,hn⟩:=callR_lim M X h1
  exact⟨n,a,hn,h2⟩
 |callv x m args=>
  simp only[opv]at H ⊢
  cases hx:evo env x with
  |fn g cap=>
   rw[hx]at H
   simp only[Option.map_eq_some_iff]at H ⊢
   obtain⟨a,h1,h2⟩:=H
   obtain⟨n,hn⟩:=callR_lim M X h1
   exact⟨n,a,hn,h2⟩
  |_=>rw[hx]at H;cases H
 |callk f b args ks=>
  simp only[opv,Option.bind_eq_some_iff]at H ⊢
  obtain⟨a,h1,h2⟩:=H
  obtain⟨n,hn⟩:=callR_lim M X h1
  exact⟨n,a,hn,h2⟩
 |_=>exact⟨0,H⟩
theorem stepI_lim {i:MI}{s r:St}(H:stepI (lim M X).call i s=some r): ∃n,stepI (runs M X n).call i s=some r:=by
 simp only[stepI]at H ⊢
 cases hw:wanted s.env i.guard with
 |none=>rw[hw]at H;cases H
 |some b=>
  rw[hw]at H
  cases b with
  |false=>exact⟨0,H⟩
  |true=>
   simp only[Option.map_eq_some_iff]at H ⊢
   obtain⟨a,h1,h2⟩:=H
   obtain⟨n,hn⟩:=opv_lim M X h1
   exact⟨n,a,hn,h2⟩
theorem runOps_lim (l:List MI): ∀{s r:St},runOps (lim M X).call l s=some r→∃n,runOps (runs M X n).call l s=some r:=by
 induction l with
 |nil=>exact fun h=>⟨0,h⟩
 |cons i l ih=>
  intro s r H
  simp only[runOps,Option.bind_eq_some_iff]at H ⊢
  obtain⟨s1,h1,h2⟩:=H
  obtain⟨n,hn⟩:=stepI_lim M X h1
  obtain⟨m,hm⟩:=ih h2
  exact⟨max n m,s1,stepI_mono (runs_mono M X (Nat.le_max_left n m)).call hn,runOps_mono (runs_mono M X (Nat.le_max_right n m)).call _ hm⟩
theorem step_lim (c:MCode): ∀{s:St} {r:Ex×St},step (lim M X) c s=some r→∃n,step (runs M X n) c s=some r:=by
 induction c with
 |skip=>exact fun h=>⟨0,h⟩
 |reg ops ap=>
  intro s r H
  simp only[step,Option.bind_eq_some_iff]at H ⊢
  obtain⟨s1,h1,h2⟩:=H
  obtain⟨n,hn⟩:=runOps_lim M X _ h1
  exact⟨n,s1,hn,h2⟩
 |seq a b iha ihb=>
  intro s r H
  simp only[step,Option.bind_eq_some_iff]at H ⊢
  obtain⟨⟨e,s1⟩,h1,h2⟩:=H
  obtain⟨n,hn⟩:=iha h1
  cases e with
  |norm=>
   obtain⟨m,hm⟩:=ihb h2
   exact⟨max n m,_,step_mono (runs_mono M X (Nat.le_max_left n m)) _ hn,step_mono (runs_mono M X (Nat.le_max_right n m)) _ hm⟩
  |exit id=>exact⟨n,_,hn,h2⟩
  |ret=>exact⟨n,_,hn,h2⟩
 |cond c a b iha ihb=>
  intro s r H
  simp only[step]at H ⊢
  split at H
  ·exact iha H
  ·exact ihb H
  ·cases H
 |block id b ih=>
  intro s r H
  simp only[step,Option.map_eq_some_iff]at H ⊢
  obtain⟨a,h1,h2⟩:=H
  obtain⟨n,hn⟩:=ih h1
  exact⟨n,a,hn,h2⟩
 |loop ks ko kx b ih=>exact fun H=>(lim_loop M X).1 H
 |exit id=>exact fun h=>⟨0,h⟩
 |ret=>exact fun h=>⟨0,h⟩
theorem lim_loop_eq (ks ko kx:List Nat)(b:MCode)(s:St):
 (lim M X).loop (ks,ko,kx,b) s=(keep ks ko s).bind fun s'=>(step (lim M X) b s').bind fun
   |(.norm,s2)=>(lim M X).loop (ks,ko,kx,b) s2
   |(e,s2)=>(keep kx ko s2).map fun s3=>(e,s3):=by
 apply Option.ext
 intro r
 constructor
 ·intro H
  obtain⟨n,hn⟩:=(lim_loop M X).1 H
  cases n with
  |zero=>cases hn
  |succ n=>
   simp only[runs,Option.bind_eq_some_iff]at hn
   obtain⟨s1,h1,⟨e,s2⟩,h2,h3⟩:=hn
   simp only[Option.bind_eq_some_iff]
   refine⟨s1,h1,_,step_mono (le_lim M X n) _ h2,?_⟩
   cases e with
   |norm=>exact(le_lim M X n).loop _ _ _ h3
   |exit id=>exact h3
   |ret=>exact h3
 ·intro H
  simp only[Option.bind_eq_some_iff]at H
  obtain⟨s1,h1,⟨e,s2⟩,h2,h3⟩:=H
  obtain⟨n,hn⟩:=step_lim M X _ h2
  cases e with
  |norm=>
   obtain⟨m,hm⟩:=(lim_loop M X).1 h3
   refine(lim_loop M X).2 ⟨max n m+1,?_⟩
   simp only[runs,Option.bind_eq_some_iff]
   exact⟨s1,h1,_,step_mono (runs_mono M X (Nat.le_max_left n m)) _ hn,(runs_mono M X (Nat.le_max_right n m)).loop _ _ _ hm⟩
  |exit id=>
   refine(lim_loop M X).2 ⟨n+1,?_⟩
   simp only[runs,Option.bind_eq_some_iff]
   exact⟨s1,h1,_,hn,h3⟩
  |ret=>
   refine(lim_loop M X).2 ⟨n+1,?_⟩
   simp only[runs,Option.bind_eq_some_iff]
   exact⟨s1,h1,_,hn,h3⟩
theorem lim_call_eq {f:Nat}{F:MFunc}(hf:M f=some F)(args:List AV)(hin:List Obj):(lim M X).call f args hin=callB (lim M X) F args hin:=by
 apply Option.ext
 intro r
 constructor
 ·intro H
  obtain⟨n,hn⟩:=(lim_call M X).1 H
  cases n with
  |zero=>cases hn
  |succ n=>
   simp only[runs,hf]at hn
   exact callB_mono (le_lim M X n) hn
 ·intro H
  unfold callB at H
  split at H
  ·rename_i hl
   simp only[Option.bind_eq_some_iff]at H
   obtain⟨⟨e,s⟩,h1,h2⟩:=H
   obtain⟨n,hn⟩:=step_lim M X _ h1
   refine(lim_call M X).2 ⟨n+1,?_⟩
   simp only[runs,hf,callB,if_pos hl,Option.bind_eq_some_iff]
   exact⟨_,hn,h2⟩
  ·cases H
theorem lim_ext_eq {f:Nat}(hf:M f=none)(args:List AV):(lim M X).call f args []=X f args:=by
 apply Option.ext
 intro r
 constructor
 ·intro H
  obtain⟨n,hn⟩:=(lim_call M X).1 H
  cases n with
  |zero=>cases hn
  |succ n=>simpa only[runs,hf,List.isEmpty_nil,if_true]using hn
 ·intro H
  exact(lim_call M X).2 ⟨1,by simpa only[runs,hf,List.isEmpty_nil,if_true]using H⟩
end
end Go.Proofs.PF
